import Derived.Test.YtbkdaafphcfpdaaStkX1
namespace Go.Proofs.Ytbkdaafphcfpdaa.Stk
open Go.RowKit Go.Proofs.YtbkdaafphcfpdaaW.PrintWords Go.Proofs.YtbkdaafphcfpdaaW.PrintLast Go.Proofs.YtbkdaafphcfpdaaW.PrintMore
attribute [local go_sem] max2_int min2_int max_two min_two max_three min_three max_four min_four   -- for this text's walks alone
set_option linter.unusedVariables false
set_option linter.unusedSimpArgs false
set_option maxHeartbeats 8000000 in
set_option maxRecDepth 100000 in
theorem x_pop_yes {w : World} {base g : Nat} {v : Value} {a b c : Int} {l : List Ent} (h : StkX w base g v a b c l) (h2 : 2 ≤ l.length) (hm : l.length ≤ 35184372088) :
    Calls Try.prog 48 #[.pointer (some ⟨g, 0, none⟩)] w (UpdX w base g v (.returned (.bool true)) a b c (l.take (l.length - 1))) := by
  unfold UpdX
  have hk := Try.underlying72
  have HS := Aside0.mk h
  obtain ⟨i28, hi28, _⟩ := Option.map_eq_some_iff.1 infoX
  obtain ⟨A, cap, rfl, hcap, hC⟩ := stk_slice h
  obtain ⟨q, hq⟩ : ∃ q, l.length = q + 1 := ⟨l.length - 1, by omega⟩
  have hcut := cut_to (P := Try.prog) 70 46 .i64 Try.underlying70 hi28 A (q + 1) cap (q : Int) (by omega) (by omega) (by omega)
  rw [Int.toNat_natCast] at hcut
  have hT := Kd.R_take (m := q) h.2.1 (by omega)
  have hq2 : (l.take q).length = q := by rw [List.length_take]; omega
  have hCT := (Kd.R_reads' hT).2.2
  rw [hq2] at hCT
  have HCT := Aside0.mk hCT
  have HLM := Aside0.mk (show q ≤ 35184372088 by omega)
  have hcc := (blk_cell h.1 0).trans rfl
  have b0 : decide ((q : Int) + 1 < 2) = false := decide_eq_false (by omega)
  have b0' : decide (((q + 1 : Nat) : Int) < 2) = false := decide_eq_false (by omega)
  have b3 : 1 ≤ q := by omega
  have b2 : decide (q + 1 < 2) = false := decide_eq_false (by omega)
  have HW2 := Aside0.mk (show IntKind.i64.wrap (q : Int) = (q : Int) from (i64_w _).trans (by unfold wrap64; omega))
  rw [hq] at HS hcc ⊢
  rw [Nat.add_sub_cancel]
  clear hcap hm h2 hq hi28 hC h hT hq2 hCT
  go_enter Try.func48, Try.ntmps48
  go_wp2
  clear hcc
  have HSD := Aside0.mk (stk_drew HS.out)
  have HC := Aside0.mk (Kd.C_below HCT.out (below_drew (Below.refl w.heap.size w)))
  have HMV := Aside0.mk (Mv.of_below (below_drew (Below.refl w.heap.size w)) g (.slice A (q + 1) cap))
  have HBB := Aside0.mk (HMV.out.below HS.out)
  refine start_ (n := 16) (S := fun w' => w'.cell? ⟨g, 0, none⟩ = some (.slice A (q + 1) cap)) (ds := [12, 15]) #[false, false, false, false, false, false, false, false, false, false, false, false, false, false, false, false] (by kernel_rfl) rfl rfl ((blk_cell HSD.out.1 0).trans rfl) (fun hHeld => ?_)
  generalize w.drew = w3 at HSD HC HMV HBB hHeld ⊢
  refine pure_ (i := 0) (N := some 9) (v := ?_) (a' := ?_) #[true, false, false, false, false, false, false, false, false, false, false, false, false, false, false, false] rfl rfl (by kernel_rfl) (fun _ _ _ h => h) (Or.inl ⟨by rfl, ?_⟩) ?_ ?_
  rotate_left
  · intro w'
    go_simp
    with_reducible rfl
  rotate_left
  · simp only [Act.put, List.setIfInBounds_toArray, List.set_cons_zero, List.set_cons_succ, i64_w, i32_w]
    rfl
  refine pure_ (i := 1) (N := some 10) (v := ?_) (a' := ?_) #[true, true, false, false, false, false, false, false, false, false, false, false, false, false, false, false] rfl rfl (by kernel_rfl) (fun _ _ _ h => h) (Or.inl ⟨by rfl, ?_⟩) ?_ ?_
  rotate_left
  · intro w'
    go_simp
    with_reducible rfl
  rotate_left
  · simp only [Act.put, List.setIfInBounds_toArray, List.set_cons_zero, List.set_cons_succ, i64_w, i32_w]
    rfl
  refine pure_ (i := 2) (N := some 11) (v := ?_) (a' := ?_) #[true, true, true, false, false, false, false, false, false, false, false, false, false, false, false, false] rfl rfl (by kernel_rfl) (fun _ _ _ h => h) (Or.inl ⟨by rfl, ?_⟩) ?_ ?_
  rotate_left
  · intro w'
    go_simp
    with_reducible rfl
  rotate_left
  · simp only [Act.put, List.setIfInBounds_toArray, List.set_cons_zero, List.set_cons_succ, i64_w, i32_w]
    rfl
  refine pure_ (i := 3) (N := some 12) (v := ?_) (a' := ?_) #[true, true, true, true, false, false, false, false, false, false, false, false, false, false, false, false] rfl rfl (by kernel_rfl) (fun _ _ _ h => h) (Or.inl ⟨by rfl, ?_⟩) ?_ ?_
  rotate_left
  · intro w'
    go_simp
    with_reducible rfl
  rotate_left
  · simp only [Act.put, List.setIfInBounds_toArray, List.set_cons_zero, List.set_cons_succ, i64_w, i32_w]
    rfl
  refine take_ (i := 4) (N := some 13) (v := ?_) (a' := ?_) #[true, true, true, true, true, false, false, false, false, false, false, false, false, false, false, false] rfl rfl (by kernel_rfl) (fun _ _ _ h => h) (Or.inl ⟨by rfl, ?_⟩) hHeld ?_ ?_
  rotate_left
  · rintro w' s0
    go_simp
    with_reducible rfl
  rotate_left
  · simp only [Act.put, List.setIfInBounds_toArray, List.set_cons_zero, List.set_cons_succ, i64_w, i32_w]
    rfl
  refine pure_ (i := 5) (N := some 14) (v := ?_) (a' := ?_) #[true, true, true, true, true, true, false, false, false, false, false, false, false, false, false, false] rfl rfl (by kernel_rfl) (fun _ _ _ h => h) (Or.inl ⟨by rfl, ?_⟩) ?_ ?_
  rotate_left
  · intro w'
    go_simp
    with_reducible rfl
  rotate_left
  · simp only [Act.put, List.setIfInBounds_toArray, List.set_cons_zero, List.set_cons_succ, i64_w, i32_w]
    rfl
  refine pure_ (i := 6) (N := some 15) (v := ?_) (a' := ?_) #[true, true, true, true, true, true, true, false, false, false, false, false, false, false, false, false] rfl rfl (by kernel_rfl) (fun _ _ _ h => h) (Or.inl ⟨by rfl, ?_⟩) ?_ ?_
  rotate_left
  · intro w'
    go_simp
    with_reducible rfl
  rotate_left
  · simp only [Act.put, List.setIfInBounds_toArray, List.set_cons_zero, List.set_cons_succ, i64_w, i32_w]
    rfl
  refine pure_ (i := 7) (N := some 16) (v := ?_) (a' := ?_) #[true, true, true, true, true, true, true, true, false, false, false, false, false, false, false, false] rfl rfl (by kernel_rfl) (fun _ _ _ h => h) (Or.inl ⟨by rfl, ?_⟩) ?_ ?_
  rotate_left
  · intro w'
    go_simp
    with_reducible rfl
  rotate_left
  · simp only [Act.put, List.setIfInBounds_toArray, List.set_cons_zero, List.set_cons_succ, i64_w, i32_w]
    rfl
  refine take_ (i := 8) (N := some 17) (v := ?_) (a' := ?_) #[true, true, true, true, true, true, true, true, true, false, false, false, false, false, false, false] rfl rfl (by kernel_rfl) (fun _ _ _ h => h) (Or.inl ⟨by rfl, ?_⟩) hHeld ?_ ?_
  rotate_left
  · rintro w' s0
    go_simp
    with_reducible rfl
  rotate_left
  · simp only [Act.put, List.setIfInBounds_toArray, List.set_cons_zero, List.set_cons_succ, i64_w, i32_w]
    rfl
  refine pure_ (i := 9) (N := some 18) (v := ?_) (a' := ?_) #[true, true, true, true, true, true, true, true, true, true, false, false, false, false, false, false] rfl rfl (by kernel_rfl) (fun _ _ _ h => h) (Or.inl ⟨by rfl, ?_⟩) ?_ ?_
  rotate_left
  · intro w'
    go_simp
    with_reducible rfl
  rotate_left
  · simp only [Act.put, List.setIfInBounds_toArray, List.set_cons_zero, List.set_cons_succ, i64_w, i32_w]
    rfl
  refine pure_ (i := 10) (N := some 19) (v := .int .i64 (q : Int)) (a' := ?_) #[true, true, true, true, true, true, true, true, true, true, true, false, false, false, false, false] rfl rfl (by kernel_rfl) (fun _ _ _ h => h) (Or.inl ⟨by rfl, ?_⟩) ?_ ?_
  · intro w'
    go_simp
    first | (with_reducible rfl) | exact HW2.out | (rw [HW2.out]; done)
  rotate_left
  · simp only [Act.put, List.setIfInBounds_toArray, List.set_cons_zero, List.set_cons_succ, i64_w, i32_w]
    rfl
  refine pure_ (i := 11) (N := some 20) (v := .slice A q cap) (a' := ?_) #[true, true, true, true, true, true, true, true, true, true, true, true, false, false, false, false] rfl rfl (by kernel_rfl) (fun _ _ _ h => h) (Or.inl ⟨by rfl, ?_⟩) ?_ ?_
  · intro w'
    go_simp
    first | done | (with_reducible rfl) | rfl | (rw [hcut]; rfl) | (simp only [hcut]; rfl)
  rotate_left
  · simp only [Act.put, List.setIfInBounds_toArray, List.set_cons_zero, List.set_cons_succ, i64_w, i32_w]
    rfl
  refine last_ (i := 12) (N := some 21) #[true, true, true, true, true, true, true, true, true, true, true, true, true, false, false, false] rfl rfl (by kernel_rfl) (by decide) (fun K hK => ?_)
  refine Kd.R_append_rows_step kE (Rr := kE.K w3) (w0 := w) base (by rfl) (.const (.slice none 0 0)) (.tmp 20) 70 46 (.agg #[(.int .i64 0), (.int .i64 0), (.bool false)]) 24 rfl Try.underlying70 infoX rfl (by decide) (by omega) (.slice none 0 0) ([]) (l.take q) (A) (q) cap (fun k => k ≠ g) (fun _ => False) rfl rfl ?aO ?aR ?aM (fun _ hk => hk.elim) ?aF ?aB ?aS ?aL ?_
  (case aO => exact Kd.R_nil kE 46 _ base (fun k => k ≠ g))
  (case aR => exact HC.out)
  (case aM => exact (fun x cs hK => by obtain rfl := kE_open hK; exact kE_mkM _ _ _ x))
  (case aF => exact (fun k hk => by have := stk_lt HSD.out; omega))
  (case aB => exact HBB.out)
  (case aS => exact (by have := stk_lt HSD.out; have := HSD.out.2.2; omega))
  (case aL => have := HLM.out; simp only [List.length_nil]; omega)
  intro v1 w4 ho hb hg_ hat
  obtain ⟨A1, c1, e1⟩ := Kd.R_slice ho
  generalize ([] ++ l.take q : List Ent).length = n1 at e1
  subst e1
  rw [List.nil_append] at ho
  have hG := Aside0.mk (blk_grown HSD.out.1 hg_ (by simp [Value.ownBlock]))
  have HO := Aside0.mk ho
  have HM2 := Aside0.mk (HMV.out.fresh hg_ (fun k hk => by simp [Value.ownBlock] at hk) hat)
  clear ho hb hg_ hat
  refine hK.out _ _ ?_
  clear hK K
  refine norm_ (a' := ?_) ?_ ?_
  rotate_left
  · show Act.put _ (some 21) _ = _
    simp only [Act.put, List.setIfInBounds_toArray, List.set_cons_zero, List.set_cons_succ, i64_w, i32_w]
    rfl
  refine pure_ (i := 13) (N := some 22) (v := ?_) (a' := ?_) #[true, true, true, true, true, true, true, true, true, true, true, true, true, true, false, false] rfl rfl (by kernel_rfl) (fun _ _ _ h => h) (Or.inl ⟨by rfl, ?_⟩) ?_ ?_
  rotate_left
  · intro w'
    go_simp
    with_reducible rfl
  rotate_left
  · simp only [Act.put, List.setIfInBounds_toArray, List.set_cons_zero, List.set_cons_succ, i64_w, i32_w]
    rfl
  refine pure_ (i := 14) (N := some 23) (v := ?_) (a' := ?_) #[true, true, true, true, true, true, true, true, true, true, true, true, true, true, true, false] rfl rfl (by kernel_rfl) (fun _ _ _ h => h) (Or.inl ⟨by rfl, ?_⟩) ?_ ?_
  rotate_left
  · intro w'
    go_simp
    with_reducible rfl
  rotate_left
  · simp only [Act.put, List.setIfInBounds_toArray, List.set_cons_zero, List.set_cons_succ, i64_w, i32_w]
    rfl
  refine last_ (i := 15) (N := none) #[true, true, true, true, true, true, true, true, true, true, true, true, true, true, true, true] rfl rfl (by kernel_rfl) (by decide) (fun K hK => ?_)
  have hs := (blk_cell hG.out 0).trans rfl
  have hf := blk_frozen hG.out 0
  refine skip_ (w1 := w4.setCell ⟨g, 0, none⟩ (.slice A1 n1 c1)) (by rfl) rfl ?_ ?_
  · first | (go_simp; done) | (go_simp; rfl)
  refine hK.out _ _ ?_
  clear hK K hs hf
  refine done_ (by kernel_rfl) ?_
  go_wp2
  go_ret
  exact ⟨.slice A1 n1 c1, by first | rfl | simp [*], stk_put hG.out HO.out HSD.out.2.2 0 rfl, HM2.out.set 0 _⟩
set_option maxHeartbeats 8000000 in
set_option maxRecDepth 100000 in
theorem x_pop_no {w : World} {base g : Nat} {v : Value} {a b c : Int} {l : List Ent} (h : StkX w base g v a b c l) (h2 : ¬ 2 ≤ l.length) :
    Calls Try.prog 48 #[.pointer (some ⟨g, 0, none⟩)] w (UpdX w base g v (.returned (.bool false)) a b c l) := by
  unfold UpdX
  have hk := Try.underlying72
  have HP := Aside0.mk (show ∃ v', StkX w base g v' a b c l ∧ Mv w w g v v' from ⟨v, h, Mv.refl _ _ _⟩)
  obtain ⟨A, cap, rfl, hcap, hC⟩ := stk_slice h
  have hcc := (blk_cell h.1 0).trans rfl
  have b0 : decide ((l.length : Int) < 2) = true := decide_eq_true (by omega)
  have b2 : decide (l.length < 2) = true := decide_eq_true (by omega)
  clear h2 h hcap hC
  generalize l.length = n at hcc b0 b2 HP
  go_enter Try.func48, Try.ntmps48
  go_wp2
  go_ret
  obtain ⟨v', p1, p2⟩ := HP.out
  exact ⟨v', by first | rfl | simp [*], p1, p2⟩
theorem x_pop {w : World} {base g : Nat} {v : Value} {a b c : Int} {l : List Ent} (h : StkX w base g v a b c l) (hm : l.length ≤ 35184372088) :
    Calls Try.prog 48 #[.pointer (some ⟨g, 0, none⟩)] w (UpdX w base g v (.returned (.bool (decide (2 ≤ l.length)))) a b c (popE l)) := by
  unfold popE
  by_cases h2 : 2 ≤ l.length
  · rw [decide_eq_true h2, if_pos h2]; exact x_pop_yes h h2 hm
  · rw [decide_eq_false h2, if_neg h2]; exact x_pop_no h h2
set_option maxHeartbeats 8000000 in
set_option maxRecDepth 100000 in
theorem x_push_low {w : World} {base g : Nat} {v : Value} {a b c : Int} {l : List Ent} (h : StkX w base g v a b c l) (hl : 0 < l.length) (hm : l.length ≤ 35184372088) (x0 x1 : Int) (x2 : Bool) (hlow : x0 ≤ (topE l).lv) :
    Calls Try.prog 50 #[.pointer (some ⟨g, 0, none⟩), .agg #[.int .i64 x0, .int .i64 x1, .bool x2]] w (UpdX w base g v (.returned (.bool false)) a b c l) := by
  have hk := Try.underlying72
  have he := Try.underlying46
  have HS := Aside0.mk h
  have HT := Aside0.mk (fun (W : World) (hb : Below w.heap.size w W) => x_top (stk_below h hb) hl (by omega))
  generalize (topE l).lv = t0 at HT hlow
  generalize (topE l).ov = t1 at HT
  generalize (topE l).iso = t2 at HT
  have hfl : ∀ W : World, (Instr.field 46 (.agg #[.int .i64 t0, .int .i64 t1, .bool t2]) 0).run Try.prog W = .ok (.int .i64 t0) W := fun W => by kernel_rfl
  have d0 : decide (x0 ≤ t0) = true := decide_eq_true hlow
  clear h hl hm hlow
  go_enter Try.func50, Try.ntmps50
  go_wp2_with (first | ((with_reducible refine gate_dst (N := 3) rfl ?_); refine box_event ?hg (N := 3) ?hd (cs := #[.int .i64 x0, .int .i64 x1, .bool x2]) (t := 46) ?hr ?_; (case hd => rfl); (case hg => rfl); (case hr => first | (go_simp; done) | (go_simp; rfl)); intro g3 hg w1 hbox hb; have BX := Aside0.mk hbox; have HB := Aside0.mk hb; have HG3 := Aside0.mk (show w.heap.size ≤ g3 by omega); clear hg hbox hb))
  have BX1 := Aside0.mk (blk_drew (g := g3) BX.out)
  have HB1 := Aside0.mk (below_drew1 HB.out)
  refine start_ (n := 11) (S := fun w' => w'.cell? ⟨g3, 0, none⟩ = some (.int .i64 x0) ∧ w'.cell? ⟨g3, 1, none⟩ = some (.int .i64 x1) ∧ w'.cell? ⟨g3, 2, none⟩ = some (.bool x2)) (ds := []) #[false, false, false, false, false, false, false, false, false, false, false] (by kernel_rfl) rfl rfl ⟨(blk_cell BX1.out 0).trans rfl, (blk_cell BX1.out 1).trans rfl, (blk_cell BX1.out 2).trans rfl⟩ (fun hHeld => ?_)
  generalize w1.drew = w3 at BX1 HB1 hHeld ⊢
  refine pure_ (i := 0) (N := some 5) (v := ?_) (a' := ?_) #[true, false, false, false, false, false, false, false, false, false, false] rfl rfl (by kernel_rfl) (fun _ _ _ h => h) (Or.inl ⟨by rfl, ?_⟩) ?_ ?_
  rotate_left
  · intro w'
    go_simp
    with_reducible rfl
  rotate_left
  · simp only [Act.put, List.setIfInBounds_toArray, List.set_cons_zero, List.set_cons_succ, i64_w, i32_w]
    rfl
  refine take_ (i := 1) (N := some 6) (v := ?_) (a' := ?_) #[true, true, false, false, false, false, false, false, false, false, false] rfl rfl (by kernel_rfl) (fun _ _ _ h => h) (Or.inl ⟨by rfl, ?_⟩) hHeld ?_ ?_
  rotate_left
  · rintro w' ⟨s0, s1, s2⟩
    go_simp
    with_reducible rfl
  rotate_left
  · simp only [Act.put, List.setIfInBounds_toArray, List.set_cons_zero, List.set_cons_succ, i64_w, i32_w]
    rfl
  refine pure_ (i := 2) (N := some 7) (v := ?_) (a' := ?_) #[true, true, true, false, false, false, false, false, false, false, false] rfl rfl (by kernel_rfl) (fun _ _ _ h => h) (Or.inl ⟨by rfl, ?_⟩) ?_ ?_
  rotate_left
  · intro w'
    go_simp
    with_reducible rfl
  rotate_left
  · simp only [Act.put, List.setIfInBounds_toArray, List.set_cons_zero, List.set_cons_succ, i64_w, i32_w]
    rfl
  refine one_ (i := 3) (N := some 8) #[true, true, true, true, false, false, false, false, false, false, false] rfl rfl (by kernel_rfl) (by decide) (fun K hK => ?_)
  refine (goes_ Try.func29 (by kernel_rfl) rfl #[.pointer (some ⟨g, 0, none⟩)] (by rfl) rfl rfl (by (try simp only [List.map_toArray, List.map_cons, List.map_nil]); first | done | rfl) ?_)
  (with_reducible refine (HT.out _ HB1.out).mono ?_)
  rintro e w5 ⟨rfl, hb⟩
  refine ⟨_, rfl, ?_⟩
  have BX2 := Aside0.mk (blk_below (g := g3) BX1.out hb)
  have HB2 := Aside0.mk (below_step HB1.out hb)
  clear hb BX1 HB1
  have BX1 := BX2
  have HB1 := HB2
  clear BX2 HB2
  refine hK.out _ _ ⟨(blk_cell BX1.out 0).trans rfl, (blk_cell BX1.out 1).trans rfl, (blk_cell BX1.out 2).trans rfl⟩ (fun hHeld => ?_)
  clear hK K
  refine norm_ (a' := ?_) ?_ ?_
  rotate_left
  · show Act.put _ (some 8) _ = _
    simp only [Act.put, List.setIfInBounds_toArray, List.set_cons_zero, List.set_cons_succ, i64_w, i32_w]
    rfl
  refine pure_ (i := 4) (N := some 9) (v := ?_) (a' := ?_) #[true, true, true, true, true, false, false, false, false, false, false] rfl rfl (by kernel_rfl) (fun _ _ _ h => h) (Or.inl ⟨by rfl, ?_⟩) ?_ ?_
  rotate_left
  · intro w'
    go_simp
    first | exact hfl _ | with_reducible rfl
  rotate_left
  · simp only [Act.put, List.setIfInBounds_toArray, List.set_cons_zero, List.set_cons_succ, i64_w, i32_w]
    rfl
  refine pure_ (i := 5) (N := some 10) (v := ?_) (a' := ?_) #[true, true, true, true, true, true, false, false, false, false, false] rfl rfl (by kernel_rfl) (fun _ _ _ h => h) (Or.inl ⟨by rfl, ?_⟩) ?_ ?_
  rotate_left
  · intro w'
    go_simp
    with_reducible rfl
  rotate_left
  · simp only [Act.put, List.setIfInBounds_toArray, List.set_cons_zero, List.set_cons_succ, i64_w, i32_w]
    rfl
  refine pure_ (i := 6) (N := some 11) (v := ?_) (a' := ?_) #[true, true, true, true, true, true, true, false, false, false, false] rfl rfl (by kernel_rfl) (fun _ _ _ h => h) (Or.inl ⟨by rfl, ?_⟩) ?_ ?_
  rotate_left
  · intro w'
    go_simp
    with_reducible rfl
  rotate_left
  · simp only [Act.put, List.setIfInBounds_toArray, List.set_cons_zero, List.set_cons_succ, i64_w, i32_w]
    rfl
  refine pure_ (i := 7) (N := some 12) (v := undef) (a' := ?_) #[true, true, true, true, true, true, true, true, false, false, false] rfl rfl (by kernel_rfl) (fun _ _ _ h => h) (Or.inr ⟨by rfl, rfl⟩) ?_ ?_
  rotate_left
  · simp only [Act.put, List.setIfInBounds_toArray, List.set_cons_zero, List.set_cons_succ, i64_w, i32_w]
    rfl
  refine pure_ (i := 8) (N := some 13) (v := undef) (a' := ?_) #[true, true, true, true, true, true, true, true, true, false, false] rfl rfl (by kernel_rfl) (fun _ _ _ h => h) (Or.inr ⟨by rfl, rfl⟩) ?_ ?_
  rotate_left
  · simp only [Act.put, List.setIfInBounds_toArray, List.set_cons_zero, List.set_cons_succ, i64_w, i32_w]
    rfl
  refine pure_ (i := 9) (N := some 14) (v := undef) (a' := ?_) #[true, true, true, true, true, true, true, true, true, true, false] rfl rfl (by kernel_rfl) (fun _ _ _ h => h) (Or.inr ⟨by rfl, rfl⟩) ?_ ?_
  rotate_left
  · simp only [Act.put, List.setIfInBounds_toArray, List.set_cons_zero, List.set_cons_succ, i64_w, i32_w]
    rfl
  refine pure_ (i := 10) (N := some 15) (v := ?_) (a' := ?_) #[true, true, true, true, true, true, true, true, true, true, true] rfl rfl (by kernel_rfl) (fun _ _ _ h => h) (Or.inl ⟨by rfl, ?_⟩) ?_ ?_
  rotate_left
  · intro w'
    go_simp
    with_reducible rfl
  rotate_left
  · simp only [Act.put, List.setIfInBounds_toArray, List.set_cons_zero, List.set_cons_succ, i64_w, i32_w]
    rfl
  refine done_ (by kernel_rfl) ?_
  go_wp2
  go_ret
  unfold UpdX
  exact ⟨v, by first | rfl | simp [*], stk_below HS.out HB1.out, Mv.of_below HB1.out _ _⟩
set_option maxHeartbeats 8000000 in
set_option maxRecDepth 100000 in
theorem x_push_high {w : World} {base g : Nat} {v : Value} {a b c : Int} {l : List Ent} (h : StkX w base g v a b c l) (hl : 0 < l.length) (hm : l.length ≤ 35184372088) (x0 x1 : Int) (x2 : Bool) (hlow : ¬ x0 ≤ (topE l).lv) (hhigh : 125 < x0) :
    Calls Try.prog 50 #[.pointer (some ⟨g, 0, none⟩), .agg #[.int .i64 x0, .int .i64 x1, .bool x2]] w (UpdX w base g v (.returned (.bool false)) a b c l) := by
  have hk := Try.underlying72
  have he := Try.underlying46
  have HS := Aside0.mk h
  have HT := Aside0.mk (fun (W : World) (hb : Below w.heap.size w W) => x_top (stk_below h hb) hl (by omega))
  generalize (topE l).lv = t0 at HT hlow
  generalize (topE l).ov = t1 at HT
  generalize (topE l).iso = t2 at HT
  have hfl : ∀ W : World, (Instr.field 46 (.agg #[.int .i64 t0, .int .i64 t1, .bool t2]) 0).run Try.prog W = .ok (.int .i64 t0) W := fun W => by kernel_rfl
  have d0 : decide (x0 ≤ t0) = false := decide_eq_false hlow
  have d1 : decide (125 < x0) = true := decide_eq_true hhigh
  clear h hl hm hlow hhigh
  go_enter Try.func50, Try.ntmps50
  go_wp2_with (first | ((with_reducible refine gate_dst (N := 3) rfl ?_); refine box_event ?hg (N := 3) ?hd (cs := #[.int .i64 x0, .int .i64 x1, .bool x2]) (t := 46) ?hr ?_; (case hd => rfl); (case hg => rfl); (case hr => first | (go_simp; done) | (go_simp; rfl)); intro g3 hg w1 hbox hb; have BX := Aside0.mk hbox; have HB := Aside0.mk hb; have HG3 := Aside0.mk (show w.heap.size ≤ g3 by omega); clear hg hbox hb))
  have BX1 := Aside0.mk (blk_drew (g := g3) BX.out)
  have HB1 := Aside0.mk (below_drew1 HB.out)
  refine start_ (n := 11) (S := fun w' => w'.cell? ⟨g3, 0, none⟩ = some (.int .i64 x0) ∧ w'.cell? ⟨g3, 1, none⟩ = some (.int .i64 x1) ∧ w'.cell? ⟨g3, 2, none⟩ = some (.bool x2)) (ds := []) #[false, false, false, false, false, false, false, false, false, false, false] (by kernel_rfl) rfl rfl ⟨(blk_cell BX1.out 0).trans rfl, (blk_cell BX1.out 1).trans rfl, (blk_cell BX1.out 2).trans rfl⟩ (fun hHeld => ?_)
  generalize w1.drew = w3 at BX1 HB1 hHeld ⊢
  refine pure_ (i := 0) (N := some 5) (v := ?_) (a' := ?_) #[true, false, false, false, false, false, false, false, false, false, false] rfl rfl (by kernel_rfl) (fun _ _ _ h => h) (Or.inl ⟨by rfl, ?_⟩) ?_ ?_
  rotate_left
  · intro w'
    go_simp
    with_reducible rfl
  rotate_left
  · simp only [Act.put, List.setIfInBounds_toArray, List.set_cons_zero, List.set_cons_succ, i64_w, i32_w]
    rfl
  refine take_ (i := 1) (N := some 6) (v := ?_) (a' := ?_) #[true, true, false, false, false, false, false, false, false, false, false] rfl rfl (by kernel_rfl) (fun _ _ _ h => h) (Or.inl ⟨by rfl, ?_⟩) hHeld ?_ ?_
  rotate_left
  · rintro w' ⟨s0, s1, s2⟩
    go_simp
    with_reducible rfl
  rotate_left
  · simp only [Act.put, List.setIfInBounds_toArray, List.set_cons_zero, List.set_cons_succ, i64_w, i32_w]
    rfl
  refine pure_ (i := 2) (N := some 7) (v := ?_) (a' := ?_) #[true, true, true, false, false, false, false, false, false, false, false] rfl rfl (by kernel_rfl) (fun _ _ _ h => h) (Or.inl ⟨by rfl, ?_⟩) ?_ ?_
  rotate_left
  · intro w'
    go_simp
    with_reducible rfl
  rotate_left
  · simp only [Act.put, List.setIfInBounds_toArray, List.set_cons_zero, List.set_cons_succ, i64_w, i32_w]
    rfl
  refine one_ (i := 3) (N := some 8) #[true, true, true, true, false, false, false, false, false, false, false] rfl rfl (by kernel_rfl) (by decide) (fun K hK => ?_)
  refine (goes_ Try.func29 (by kernel_rfl) rfl #[.pointer (some ⟨g, 0, none⟩)] (by rfl) rfl rfl (by (try simp only [List.map_toArray, List.map_cons, List.map_nil]); first | done | rfl) ?_)
  (with_reducible refine (HT.out _ HB1.out).mono ?_)
  rintro e w5 ⟨rfl, hb⟩
  refine ⟨_, rfl, ?_⟩
  have BX2 := Aside0.mk (blk_below (g := g3) BX1.out hb)
  have HB2 := Aside0.mk (below_step HB1.out hb)
  clear hb BX1 HB1
  have BX1 := BX2
  have HB1 := HB2
  clear BX2 HB2
  refine hK.out _ _ ⟨(blk_cell BX1.out 0).trans rfl, (blk_cell BX1.out 1).trans rfl, (blk_cell BX1.out 2).trans rfl⟩ (fun hHeld => ?_)
  clear hK K
  refine norm_ (a' := ?_) ?_ ?_
  rotate_left
  · show Act.put _ (some 8) _ = _
    simp only [Act.put, List.setIfInBounds_toArray, List.set_cons_zero, List.set_cons_succ, i64_w, i32_w]
    rfl
  refine pure_ (i := 4) (N := some 9) (v := ?_) (a' := ?_) #[true, true, true, true, true, false, false, false, false, false, false] rfl rfl (by kernel_rfl) (fun _ _ _ h => h) (Or.inl ⟨by rfl, ?_⟩) ?_ ?_
  rotate_left
  · intro w'
    go_simp
    first | exact hfl _ | with_reducible rfl
  rotate_left
  · simp only [Act.put, List.setIfInBounds_toArray, List.set_cons_zero, List.set_cons_succ, i64_w, i32_w]
    rfl
  refine pure_ (i := 5) (N := some 10) (v := ?_) (a' := ?_) #[true, true, true, true, true, true, false, false, false, false, false] rfl rfl (by kernel_rfl) (fun _ _ _ h => h) (Or.inl ⟨by rfl, ?_⟩) ?_ ?_
  rotate_left
  · intro w'
    go_simp
    with_reducible rfl
  rotate_left
  · simp only [Act.put, List.setIfInBounds_toArray, List.set_cons_zero, List.set_cons_succ, i64_w, i32_w]
    rfl
  refine pure_ (i := 6) (N := some 11) (v := ?_) (a' := ?_) #[true, true, true, true, true, true, true, false, false, false, false] rfl rfl (by kernel_rfl) (fun _ _ _ h => h) (Or.inl ⟨by rfl, ?_⟩) ?_ ?_
  rotate_left
  · intro w'
    go_simp
    with_reducible rfl
  rotate_left
  · simp only [Act.put, List.setIfInBounds_toArray, List.set_cons_zero, List.set_cons_succ, i64_w, i32_w]
    rfl
  refine pure_ (i := 7) (N := some 12) (v := ?_) (a' := ?_) #[true, true, true, true, true, true, true, true, false, false, false] rfl rfl (by kernel_rfl) (fun _ _ _ h => h) (Or.inl ⟨by rfl, ?_⟩) ?_ ?_
  rotate_left
  · intro w'
    go_simp
    with_reducible rfl
  rotate_left
  · simp only [Act.put, List.setIfInBounds_toArray, List.set_cons_zero, List.set_cons_succ, i64_w, i32_w]
    rfl
  refine take_ (i := 8) (N := some 13) (v := ?_) (a' := ?_) #[true, true, true, true, true, true, true, true, true, false, false] rfl rfl (by kernel_rfl) (fun _ _ _ h => h) (Or.inl ⟨by rfl, ?_⟩) hHeld ?_ ?_
  rotate_left
  · rintro w' ⟨s0, s1, s2⟩
    go_simp
    with_reducible rfl
  rotate_left
  · simp only [Act.put, List.setIfInBounds_toArray, List.set_cons_zero, List.set_cons_succ, i64_w, i32_w]
    rfl
  refine pure_ (i := 9) (N := some 14) (v := ?_) (a' := ?_) #[true, true, true, true, true, true, true, true, true, true, false] rfl rfl (by kernel_rfl) (fun _ _ _ h => h) (Or.inl ⟨by rfl, ?_⟩) ?_ ?_
  rotate_left
  · intro w'
    go_simp
    with_reducible rfl
  rotate_left
  · simp only [Act.put, List.setIfInBounds_toArray, List.set_cons_zero, List.set_cons_succ, i64_w, i32_w]
    rfl
  refine pure_ (i := 10) (N := some 15) (v := ?_) (a' := ?_) #[true, true, true, true, true, true, true, true, true, true, true] rfl rfl (by kernel_rfl) (fun _ _ _ h => h) (Or.inl ⟨by rfl, ?_⟩) ?_ ?_
  rotate_left
  · intro w'
    go_simp
    with_reducible rfl
  rotate_left
  · simp only [Act.put, List.setIfInBounds_toArray, List.set_cons_zero, List.set_cons_succ, i64_w, i32_w]
    rfl
  refine done_ (by kernel_rfl) ?_
  go_wp2
  go_ret
  unfold UpdX
  exact ⟨v, by first | rfl | simp [*], stk_below HS.out HB1.out, Mv.of_below HB1.out _ _⟩
set_option maxHeartbeats 8000000 in
set_option maxRecDepth 100000 in
theorem x_push_put {w : World} {base g : Nat} {v : Value} {a b c : Int} {l : List Ent} (h : StkX w base g v a b c l) (hl : 0 < l.length) (hm : l.length ≤ 35184372088) (x0 x1 : Int) (x2 : Bool) (hlow : ¬ x0 ≤ (topE l).lv) (hhigh : ¬ 125 < x0) :
    Calls Try.prog 50 #[.pointer (some ⟨g, 0, none⟩), .agg #[.int .i64 x0, .int .i64 x1, .bool x2]] w (UpdX w base g v (.returned (.bool true)) a b c (l ++ [⟨x0, x1, x2⟩])) := by
  have hk := Try.underlying72
  have he := Try.underlying46
  have HS := Aside0.mk h
  have HT := Aside0.mk (fun (W : World) (hb : Below w.heap.size w W) => x_top (stk_below h hb) hl (by omega))
  generalize (topE l).lv = t0 at HT hlow
  generalize (topE l).ov = t1 at HT
  generalize (topE l).iso = t2 at HT
  have hfl : ∀ W : World, (Instr.field 46 (.agg #[.int .i64 t0, .int .i64 t1, .bool t2]) 0).run Try.prog W = .ok (.int .i64 t0) W := fun W => by kernel_rfl
  have d0 : decide (x0 ≤ t0) = false := decide_eq_false hlow
  have d1 : decide (125 < x0) = false := decide_eq_false hhigh
  have HLM := Aside0.mk hm
  obtain ⟨A, cap, rfl, hcap, hC⟩ := stk_slice h
  have HCC := Aside0.mk hC
  clear h hl hm hlow hhigh hcap hC
  go_enter Try.func50, Try.ntmps50
  go_wp2_with (first | ((with_reducible refine gate_dst (N := 3) rfl ?_); refine box_event ?hg (N := 3) ?hd (cs := #[.int .i64 x0, .int .i64 x1, .bool x2]) (t := 46) ?hr ?_; (case hd => rfl); (case hg => rfl); (case hr => first | (go_simp; done) | (go_simp; rfl)); intro g3 hg w1 hbox hb; have BX := Aside0.mk hbox; have HB := Aside0.mk hb; have HG3 := Aside0.mk (show w.heap.size ≤ g3 by omega); clear hg hbox hb))
  have BX1 := Aside0.mk (blk_drew (g := g3) BX.out)
  have HB1 := Aside0.mk (below_drew1 HB.out)
  refine start_ (n := 11) (S := fun w' => w'.cell? ⟨g3, 0, none⟩ = some (.int .i64 x0) ∧ w'.cell? ⟨g3, 1, none⟩ = some (.int .i64 x1) ∧ w'.cell? ⟨g3, 2, none⟩ = some (.bool x2)) (ds := []) #[false, false, false, false, false, false, false, false, false, false, false] (by kernel_rfl) rfl rfl ⟨(blk_cell BX1.out 0).trans rfl, (blk_cell BX1.out 1).trans rfl, (blk_cell BX1.out 2).trans rfl⟩ (fun hHeld => ?_)
  generalize w1.drew = w3 at BX1 HB1 hHeld ⊢
  refine pure_ (i := 0) (N := some 5) (v := ?_) (a' := ?_) #[true, false, false, false, false, false, false, false, false, false, false] rfl rfl (by kernel_rfl) (fun _ _ _ h => h) (Or.inl ⟨by rfl, ?_⟩) ?_ ?_
  rotate_left
  · intro w'
    go_simp
    with_reducible rfl
  rotate_left
  · simp only [Act.put, List.setIfInBounds_toArray, List.set_cons_zero, List.set_cons_succ, i64_w, i32_w]
    rfl
  refine take_ (i := 1) (N := some 6) (v := ?_) (a' := ?_) #[true, true, false, false, false, false, false, false, false, false, false] rfl rfl (by kernel_rfl) (fun _ _ _ h => h) (Or.inl ⟨by rfl, ?_⟩) hHeld ?_ ?_
  rotate_left
  · rintro w' ⟨s0, s1, s2⟩
    go_simp
    with_reducible rfl
  rotate_left
  · simp only [Act.put, List.setIfInBounds_toArray, List.set_cons_zero, List.set_cons_succ, i64_w, i32_w]
    rfl
  refine pure_ (i := 2) (N := some 7) (v := ?_) (a' := ?_) #[true, true, true, false, false, false, false, false, false, false, false] rfl rfl (by kernel_rfl) (fun _ _ _ h => h) (Or.inl ⟨by rfl, ?_⟩) ?_ ?_
  rotate_left
  · intro w'
    go_simp
    with_reducible rfl
  rotate_left
  · simp only [Act.put, List.setIfInBounds_toArray, List.set_cons_zero, List.set_cons_succ, i64_w, i32_w]
    rfl
  refine one_ (i := 3) (N := some 8) #[true, true, true, true, false, false, false, false, false, false, false] rfl rfl (by kernel_rfl) (by decide) (fun K hK => ?_)
  refine (goes_ Try.func29 (by kernel_rfl) rfl #[.pointer (some ⟨g, 0, none⟩)] (by rfl) rfl rfl (by (try simp only [List.map_toArray, List.map_cons, List.map_nil]); first | done | rfl) ?_)
  (with_reducible refine (HT.out _ HB1.out).mono ?_)
  rintro e w5 ⟨rfl, hb⟩
  refine ⟨_, rfl, ?_⟩
  have BX2 := Aside0.mk (blk_below (g := g3) BX1.out hb)
  have HB2 := Aside0.mk (below_step HB1.out hb)
  clear hb BX1 HB1
  have BX1 := BX2
  have HB1 := HB2
  clear BX2 HB2
  refine hK.out _ _ ⟨(blk_cell BX1.out 0).trans rfl, (blk_cell BX1.out 1).trans rfl, (blk_cell BX1.out 2).trans rfl⟩ (fun hHeld => ?_)
  clear hK K
  refine norm_ (a' := ?_) ?_ ?_
  rotate_left
  · show Act.put _ (some 8) _ = _
    simp only [Act.put, List.setIfInBounds_toArray, List.set_cons_zero, List.set_cons_succ, i64_w, i32_w]
    rfl
  refine pure_ (i := 4) (N := some 9) (v := ?_) (a' := ?_) #[true, true, true, true, true, false, false, false, false, false, false] rfl rfl (by kernel_rfl) (fun _ _ _ h => h) (Or.inl ⟨by rfl, ?_⟩) ?_ ?_
  rotate_left
  · intro w'
    go_simp
    first | exact hfl _ | with_reducible rfl
  rotate_left
  · simp only [Act.put, List.setIfInBounds_toArray, List.set_cons_zero, List.set_cons_succ, i64_w, i32_w]
    rfl
  refine pure_ (i := 5) (N := some 10) (v := ?_) (a' := ?_) #[true, true, true, true, true, true, false, false, false, false, false] rfl rfl (by kernel_rfl) (fun _ _ _ h => h) (Or.inl ⟨by rfl, ?_⟩) ?_ ?_
  rotate_left
  · intro w'
    go_simp
    with_reducible rfl
  rotate_left
  · simp only [Act.put, List.setIfInBounds_toArray, List.set_cons_zero, List.set_cons_succ, i64_w, i32_w]
    rfl
  refine pure_ (i := 6) (N := some 11) (v := ?_) (a' := ?_) #[true, true, true, true, true, true, true, false, false, false, false] rfl rfl (by kernel_rfl) (fun _ _ _ h => h) (Or.inl ⟨by rfl, ?_⟩) ?_ ?_
  rotate_left
  · intro w'
    go_simp
    with_reducible rfl
  rotate_left
  · simp only [Act.put, List.setIfInBounds_toArray, List.set_cons_zero, List.set_cons_succ, i64_w, i32_w]
    rfl
  refine pure_ (i := 7) (N := some 12) (v := ?_) (a' := ?_) #[true, true, true, true, true, true, true, true, false, false, false] rfl rfl (by kernel_rfl) (fun _ _ _ h => h) (Or.inl ⟨by rfl, ?_⟩) ?_ ?_
  rotate_left
  · intro w'
    go_simp
    with_reducible rfl
  rotate_left
  · simp only [Act.put, List.setIfInBounds_toArray, List.set_cons_zero, List.set_cons_succ, i64_w, i32_w]
    rfl
  refine take_ (i := 8) (N := some 13) (v := ?_) (a' := ?_) #[true, true, true, true, true, true, true, true, true, false, false] rfl rfl (by kernel_rfl) (fun _ _ _ h => h) (Or.inl ⟨by rfl, ?_⟩) hHeld ?_ ?_
  rotate_left
  · rintro w' ⟨s0, s1, s2⟩
    go_simp
    with_reducible rfl
  rotate_left
  · simp only [Act.put, List.setIfInBounds_toArray, List.set_cons_zero, List.set_cons_succ, i64_w, i32_w]
    rfl
  refine pure_ (i := 9) (N := some 14) (v := ?_) (a' := ?_) #[true, true, true, true, true, true, true, true, true, true, false] rfl rfl (by kernel_rfl) (fun _ _ _ h => h) (Or.inl ⟨by rfl, ?_⟩) ?_ ?_
  rotate_left
  · intro w'
    go_simp
    with_reducible rfl
  rotate_left
  · simp only [Act.put, List.setIfInBounds_toArray, List.set_cons_zero, List.set_cons_succ, i64_w, i32_w]
    rfl
  refine pure_ (i := 10) (N := some 15) (v := ?_) (a' := ?_) #[true, true, true, true, true, true, true, true, true, true, true] rfl rfl (by kernel_rfl) (fun _ _ _ h => h) (Or.inl ⟨by rfl, ?_⟩) ?_ ?_
  rotate_left
  · intro w'
    go_simp
    with_reducible rfl
  rotate_left
  · simp only [Act.put, List.setIfInBounds_toArray, List.set_cons_zero, List.set_cons_succ, i64_w, i32_w]
    rfl
  refine done_ (by kernel_rfl) ?_
  go_wp2
  have HS3 := Aside0.mk (stk_drew (stk_below HS.out HB1.out))
  have BX2 := Aside0.mk (blk_drew BX1.out)
  have HM1 := Aside0.mk (Mv.of_below (below_drew HB1.out) g (.slice A l.length cap))
  have HC3 := Aside0.mk (Kd.C_below HCC.out (below_drew HB1.out))
  have HBB := Aside0.mk (HM1.out.below HS.out)
  refine start_ (n := 12) (S := fun w' => w'.cell? ⟨g, 0, none⟩ = some (.slice A l.length cap) ∧ w'.cell? ⟨g3, 0, none⟩ = some (.int .i64 x0) ∧ w'.cell? ⟨g3, 1, none⟩ = some (.int .i64 x1) ∧ w'.cell? ⟨g3, 2, none⟩ = some (.bool x2)) (ds := [8, 11]) #[false, false, false, false, false, false, false, false, false, false, false, false] (by kernel_rfl) rfl rfl ⟨(blk_cell HS3.out.1 0).trans rfl, (blk_cell BX2.out 0).trans rfl, (blk_cell BX2.out 1).trans rfl, (blk_cell BX2.out 2).trans rfl⟩ (fun hHeld => ?_)
  generalize w5.drew = w6 at HS3 BX2 HM1 HBB HC3 hHeld ⊢
  refine pure_ (i := 0) (N := some 16) (v := ?_) (a' := ?_) #[true, false, false, false, false, false, false, false, false, false, false, false] rfl rfl (by kernel_rfl) (fun _ _ _ h => h) (Or.inl ⟨by rfl, ?_⟩) ?_ ?_
  rotate_left
  · intro w'
    go_simp
    with_reducible rfl
  rotate_left
  · simp only [Act.put, List.setIfInBounds_toArray, List.set_cons_zero, List.set_cons_succ, i64_w, i32_w]
    rfl
  refine pure_ (i := 1) (N := some 17) (v := ?_) (a' := ?_) #[true, true, false, false, false, false, false, false, false, false, false, false] rfl rfl (by kernel_rfl) (fun _ _ _ h => h) (Or.inl ⟨by rfl, ?_⟩) ?_ ?_
  rotate_left
  · intro w'
    go_simp
    with_reducible rfl
  rotate_left
  · simp only [Act.put, List.setIfInBounds_toArray, List.set_cons_zero, List.set_cons_succ, i64_w, i32_w]
    rfl
  refine pure_ (i := 2) (N := some 18) (v := ?_) (a' := ?_) #[true, true, true, false, false, false, false, false, false, false, false, false] rfl rfl (by kernel_rfl) (fun _ _ _ h => h) (Or.inl ⟨by rfl, ?_⟩) ?_ ?_
  rotate_left
  · intro w'
    go_simp
    with_reducible rfl
  rotate_left
  · simp only [Act.put, List.setIfInBounds_toArray, List.set_cons_zero, List.set_cons_succ, i64_w, i32_w]
    rfl
  refine pure_ (i := 3) (N := some 19) (v := ?_) (a' := ?_) #[true, true, true, true, false, false, false, false, false, false, false, false] rfl rfl (by kernel_rfl) (fun _ _ _ h => h) (Or.inl ⟨by rfl, ?_⟩) ?_ ?_
  rotate_left
  · intro w'
    go_simp
    with_reducible rfl
  rotate_left
  · simp only [Act.put, List.setIfInBounds_toArray, List.set_cons_zero, List.set_cons_succ, i64_w, i32_w]
    rfl
  refine take_ (i := 4) (N := some 20) (v := ?_) (a' := ?_) #[true, true, true, true, true, false, false, false, false, false, false, false] rfl rfl (by kernel_rfl) (fun _ _ _ h => h) (Or.inl ⟨by rfl, ?_⟩) hHeld ?_ ?_
  rotate_left
  · rintro w' ⟨s0, s1, s2, s3⟩
    go_simp
    with_reducible rfl
  rotate_left
  · simp only [Act.put, List.setIfInBounds_toArray, List.set_cons_zero, List.set_cons_succ, i64_w, i32_w]
    rfl
  refine take_ (i := 6) (N := some 22) (v := ?_) (a' := ?_) #[true, true, true, true, true, false, true, false, false, false, false, false] rfl rfl (by kernel_rfl) (fun _ _ _ h => h) (Or.inl ⟨by rfl, ?_⟩) hHeld ?_ ?_
  rotate_left
  · rintro w' ⟨s0, s1, s2, s3⟩
    go_simp
    with_reducible rfl
  rotate_left
  · simp only [Act.put, List.setIfInBounds_toArray, List.set_cons_zero, List.set_cons_succ, i64_w, i32_w]
    rfl
  refine join_ (σ := Value × Nat) 4 #[true, true, true, true, true, true, true, true, false, false, false, false] (fun s => [(21, s.1), (23, .slice (some ⟨s.2, 0, none⟩) 1 1)]) (fun s w' => Kd.R kE 46 w' base (fun k => k ≠ g) s.1 l ∧ (∀ k, s.1.ownBlock = some k → w.heap.size ≤ k) ∧ w'.heap[s.2]? = some (.cells #[.int .i64 x0, .int .i64 x1, .bool x2] 46 (0, 0)) ∧ some s.2 ≠ s.1.ownBlock ∧ w'.heap[g]? = some (.cells #[.slice A l.length cap, .int .i64 a, .int .i64 b, .int .i64 c] 72 (0, 0)) ∧ Mv w w' g (.slice A l.length cap) (.slice A l.length cap)) ?_ (fun hc => ?_)
  rotate_left
  · refine two_ (i := 5) (j := 7) (Ni := some 21) (Nj := some 23) #[true, true, true, true, true, true, true, false, false, false, false, false] #[true, true, true, true, true, false, true, true, false, false, false, false] rfl rfl rfl rfl (by kernel_rfl) (by decide) (by decide) (fun K hK => ?_) (fun K hK => ?_)
    · refine Kd.R_append_rows_step kE (Rr := kE.K w6) (w0 := w) base (by rfl) (.const (.slice none 0 0)) (.tmp 20) 70 46 (.agg #[(.int .i64 0), (.int .i64 0), (.bool false)]) 24 rfl Try.underlying70 infoX rfl (by decide) (by omega) (.slice none 0 0) [] l A l.length cap (fun k => k ≠ g) (fun _ => False) rfl rfl ?paO ?paR ?paM (fun _ hk => hk.elim) ?paF ?paB ?paS ?paL ?_
      (case paO => exact Kd.R_nil kE 46 _ base (fun k => k ≠ g))
      (case paR => exact HC3.out)
      (case paM => exact (fun x cs hK => by obtain rfl := kE_open hK; exact kE_mkM _ _ _ x))
      (case paF => exact (fun k hk => by have := stk_lt HS3.out; omega))
      (case paB => exact HBB.out)
      (case paS => exact (by have := stk_lt HS3.out; have := HS3.out.2.2; omega))
      (case paL => have := HLM.out; simp only [List.length_nil]; omega)
      intro v1 w7 ho hb hg_ hat
      rw [List.nil_append] at ho
      have HO := Aside0.mk ho
      have HBX := Aside0.mk (show Mv w w7 g (.slice A l.length cap) (.slice A l.length cap) from HM1.out.beside hg_ (fun k hk => by simp [Value.ownBlock] at hk))
      have HG7 := Aside0.mk (blk_grown HS3.out.1 hg_ (by simp [Value.ownBlock]))
      have BX7 := Aside0.mk (blk_grown BX2.out hg_ (by simp [Value.ownBlock]))
      have HFR := Aside0.mk (fresh_of (B := w.heap.size) hat (fun k hk => by simp [Value.ownBlock] at hk) HM1.out.1.1)
      clear ho hb hg_ hat
      refine hK.out _ _ ⟨(blk_cell HG7.out 0).trans rfl, (blk_cell BX7.out 0).trans rfl, (blk_cell BX7.out 1).trans rfl, (blk_cell BX7.out 2).trans rfl⟩ (fun hHeld => ?_)
      clear hK K
      simp only [Act.put, List.setIfInBounds_toArray, List.set_cons_zero, List.set_cons_succ, i64_w, i32_w]
      refine one_ (i := 7) (N := some 23) #[true, true, true, true, true, true, true, true, false, false, false, false] rfl rfl (by kernel_rfl) (by decide) (fun K hK => ?_)
      refine value_ (w1 := ?_) (v := ?_) (by rfl) rfl ?_ ?_
      rotate_left 2
      · go_simp
        constructor
        · rfl
        · rfl
      refine hK.out _ _ ⟨(blk_cell (blk_alloc HG7.out _) 0).trans rfl, (blk_cell (blk_alloc BX7.out _) 0).trans rfl, (blk_cell (blk_alloc BX7.out _) 1).trans rfl, (blk_cell (blk_alloc BX7.out _) 2).trans rfl⟩ (fun _ => ?_)
      clear hK K
      exact hc (v1, w7.heap.size) _ ⟨Kd.R_alloc HO.out _, HFR.out, blk_new _ _, fun e => by have := Kd.R_lt HO.out _ e.symm; omega, blk_alloc HG7.out _, HBX.out.below_ (below_alloc (Below.refl _ _) _)⟩
    · refine value_ (w1 := ?_) (v := ?_) (by rfl) rfl ?_ ?_
      rotate_left 2
      · go_simp
        constructor
        · rfl
        · rfl
      have HSB := Aside0.mk (stk_below HS3.out (below_alloc (Below.refl _ _) (.cells #[.int .i64 x0, .int .i64 x1, .bool x2] 46)))
      have BXB := Aside0.mk (blk_alloc BX2.out (.cells #[.int .i64 x0, .int .i64 x1, .bool x2] 46))
      have BN := Aside0.mk (blk_new w6 (.cells #[.int .i64 x0, .int .i64 x1, .bool x2] 46))
      have HMB := Aside0.mk (HM1.out.below_ (below_alloc (Below.refl _ _) (.cells #[.int .i64 x0, .int .i64 x1, .bool x2] 46)))
      have HCB := Aside0.mk (Kd.C_below HC3.out (below_alloc (Below.refl _ _) (.cells #[.int .i64 x0, .int .i64 x1, .bool x2] 46)))
      refine hK.out _ _ ⟨(blk_cell HSB.out.1 0).trans rfl, (blk_cell BXB.out 0).trans rfl, (blk_cell BXB.out 1).trans rfl, (blk_cell BXB.out 2).trans rfl⟩ (fun hHeld => ?_)
      clear hK K
      simp only [Act.put, List.setIfInBounds_toArray, List.set_cons_zero, List.set_cons_succ, i64_w, i32_w]
      have HZ := Aside0.mk (show w6.heap.size < (w6.alloc (.cells #[.int .i64 x0, .int .i64 x1, .bool x2] 46)).heap.size by rw [World.size_alloc]; omega)
      generalize w6.heap.size = g5 at BN HZ ⊢
      generalize w6.alloc (.cells #[.int .i64 x0, .int .i64 x1, .bool x2] 46) = w7 at HSB BXB BN HMB HCB HZ hHeld ⊢
      refine one_ (i := 5) (N := some 21) #[true, true, true, true, true, true, true, true, false, false, false, false] rfl rfl (by kernel_rfl) (by decide) (fun K hK => ?_)
      refine Kd.R_append_rows_step kE (Rr := kE.K w7) (w0 := w) base (by rfl) (.const (.slice none 0 0)) (.tmp 20) 70 46 (.agg #[(.int .i64 0), (.int .i64 0), (.bool false)]) 24 rfl Try.underlying70 infoX rfl (by decide) (by omega) (.slice none 0 0) [] l A l.length cap (fun k => k ≠ g) (fun _ => False) rfl rfl ?qaO ?qaR ?qaM (fun _ hk => hk.elim) ?qaF ?qaB ?qaS ?qaL ?_
      (case qaO => exact Kd.R_nil kE 46 _ base (fun k => k ≠ g))
      (case qaR => exact HCB.out)
      (case qaM => exact (fun x cs hK => by obtain rfl := kE_open hK; exact kE_mkM _ _ _ x))
      (case qaF => exact (fun k hk => by have := stk_lt HSB.out; omega))
      (case qaB => exact (HMB.out.below HS.out))
      (case qaS => exact (by have := stk_lt HSB.out; have := HSB.out.2.2; omega))
      (case qaL => have := HLM.out; simp only [List.length_nil]; omega)
      intro v1 w8 ho hb hg_ hat
      rw [List.nil_append] at ho
      have HBX := Aside0.mk (show Mv w w8 g (.slice A l.length cap) (.slice A l.length cap) from HMB.out.beside hg_ (fun k hk => by simp [Value.ownBlock] at hk))
      have HG7 := Aside0.mk (blk_grown HSB.out.1 hg_ (by simp [Value.ownBlock]))
      have BX7 := Aside0.mk (blk_grown BXB.out hg_ (by simp [Value.ownBlock]))
      have BN7 := Aside0.mk (blk_grown BN.out hg_ (by simp [Value.ownBlock]))
      have HFR := Aside0.mk (fresh_of (B := w.heap.size) hat (fun k hk => by simp [Value.ownBlock] at hk) HMB.out.1.1)
      have HFN := Aside0.mk (fresh_of (B := w7.heap.size) hat (fun k hk => by simp [Value.ownBlock] at hk) (Nat.le_refl _))
      refine hK.out _ _ ⟨(blk_cell HG7.out 0).trans rfl, (blk_cell BX7.out 0).trans rfl, (blk_cell BX7.out 1).trans rfl, (blk_cell BX7.out 2).trans rfl⟩ (fun _ => ?_)
      clear hK K
      exact hc (v1, g5) _ ⟨ho, HFR.out, BN7.out, fun e => by have := HFN.out _ e.symm; have := HZ.out; omega, HG7.out, HBX.out⟩
  rintro ⟨v1, g5⟩ w7 ⟨ho, hfr, hbn, hne, hg7, hmv⟩
  have HO := Aside0.mk ho
  have HFR := Aside0.mk hfr
  have BN := Aside0.mk hbn
  have HNE := Aside0.mk hne
  have HG7 := Aside0.mk hg7
  have HMV := Aside0.mk hmv
  clear ho hfr hbn hne hg7 hmv hHeld
  simp only [putAll, Act.put, List.setIfInBounds_toArray, List.set_cons_zero, List.set_cons_succ, i64_w, i32_w]
  refine last_ (i := 8) (N := some 24) #[true, true, true, true, true, true, true, true, true, false, false, false] rfl rfl (by kernel_rfl) (by decide) (fun K hK => ?_)
  refine Kd.R_append_rows_step kE (Rr := kE.K w7) (w0 := w) base (by rfl) (.tmp 21) (.tmp 23) 70 46 (.agg #[(.int .i64 0), (.int .i64 0), (.bool false)]) 24 rfl Try.underlying70 infoX rfl (by decide) (by omega) v1 l [⟨x0, x1, x2⟩] (some ⟨g5, 0, none⟩) 1 1 (fun k => k ≠ g) (fun _ => False) rfl rfl ?aO ?aR ?aM (fun _ hk => hk.elim) ?aF ?aB ?aS ?aL ?_
  (case aO => exact HO.out)
  (case aR => exact kE_C_one BN.out ⟨x0, x1, x2⟩ rfl)
  (case aM => exact (fun x cs hK => by obtain rfl := kE_open hK; exact kE_mkM _ _ _ x))
  (case aF => exact (fun k hk => by have := blk_lt HG7.out; omega))
  (case aB => exact (HMV.out.below HS.out))
  (case aS => exact (by have := blk_lt HG7.out; have := HS.out.2.2; omega))
  (case aL => have := HLM.out; omega)
  intro v2 w8 ho hb hg_ hat
  obtain ⟨A1, c1, e1⟩ := Kd.R_slice ho
  generalize (l ++ [(⟨x0, x1, x2⟩ : Ent)]).length = n1 at e1
  subst e1
  have hG := Aside0.mk (blk_grown HG7.out hg_ (Kd.R_away HO.out (fun _ hk => hk)))
  have HO2 := Aside0.mk ho
  have HM2 := Aside0.mk (HMV.out.fresh hg_ HFR.out hat)
  clear ho hb hg_ hat
  refine hK.out _ _ ?_
  clear hK K
  refine norm_ (a' := ?_) ?_ ?_
  rotate_left
  · show Act.put _ (some 24) _ = _
    simp only [Act.put, List.setIfInBounds_toArray, List.set_cons_zero, List.set_cons_succ, i64_w, i32_w]
    rfl
  refine pure_ (i := 9) (N := some 25) (v := ?_) (a' := ?_) #[true, true, true, true, true, true, true, true, true, true, false, false] rfl rfl (by kernel_rfl) (fun _ _ _ h => h) (Or.inl ⟨by rfl, ?_⟩) ?_ ?_
  rotate_left
  · intro w'
    go_simp
    with_reducible rfl
  rotate_left
  · simp only [Act.put, List.setIfInBounds_toArray, List.set_cons_zero, List.set_cons_succ, i64_w, i32_w]
    rfl
  refine pure_ (i := 10) (N := some 26) (v := ?_) (a' := ?_) #[true, true, true, true, true, true, true, true, true, true, true, false] rfl rfl (by kernel_rfl) (fun _ _ _ h => h) (Or.inl ⟨by rfl, ?_⟩) ?_ ?_
  rotate_left
  · intro w'
    go_simp
    with_reducible rfl
  rotate_left
  · simp only [Act.put, List.setIfInBounds_toArray, List.set_cons_zero, List.set_cons_succ, i64_w, i32_w]
    rfl
  refine last_ (i := 11) (N := none) #[true, true, true, true, true, true, true, true, true, true, true, true] rfl rfl (by kernel_rfl) (by decide) (fun K hK => ?_)
  have hs := (blk_cell hG.out 0).trans rfl
  have hf := blk_frozen hG.out 0
  refine skip_ (w1 := w8.setCell ⟨g, 0, none⟩ (.slice A1 n1 c1)) (by rfl) rfl ?_ ?_
  · first | (go_simp; done) | (go_simp; rfl)
  refine hK.out _ _ ?_
  clear hK K hs hf
  refine done_ (by kernel_rfl) ?_
  go_wp2
  go_ret
  unfold UpdX
  exact ⟨.slice A1 n1 c1, by first | rfl | simp [*], stk_put hG.out HO2.out HS.out.2.2 0 rfl, HM2.out.set 0 _⟩
end Go.Proofs.Ytbkdaafphcfpdaa.Stk
