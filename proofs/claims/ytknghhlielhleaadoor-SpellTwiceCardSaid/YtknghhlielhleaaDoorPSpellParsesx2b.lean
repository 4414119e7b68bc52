import Derived.Test.YtknghhlielhleaaDoorPSpellParsesx2
import Derived.Test.YtknghhlielhleaaDoorPSpellParsesx0
import Derived.Test.YtknghhlielhleaaDoorPSpellParsesx1
namespace Go.Proofs.YtknghhlielhleaaDoor.PSpellParses
open Go.RowKit Go.Proofs.YtknghhlielhleaaDoorM Go.Proofs.YtknghhlielhleaaDoorW.PrintWords Go.Proofs.YtknghhlielhleaaDoorW.PrintLast Go.Proofs.YtknghhlielhleaaDoorW.PrintMore
attribute [local go_sem] max2_int min2_int max_two min_two max_three min_three max_four min_four   -- for this text's walks alone
set_option linter.unusedVariables false
set_option linter.unusedSimpArgs false
set_option maxHeartbeats 8000000 in
set_option maxRecDepth 100000 in
theorem option_Check.digits (g : Nat) (w : World) : Calls Tryd.prog 35 #[.pointer (some ⟨g, 0, none⟩)] w fun e w' => e = .returned (.agg #[.pointer (some ⟨g, 0, none⟩), .int .i64 4, .pointer (some ⟨g, 1, none⟩), .int .i64 5, .pointer (some ⟨g, 2, none⟩), .int .i64 5, .pointer (some ⟨g, 3, none⟩), .int .i64 5]) ∧ Below w.heap.size w w' := by
  have hu := Tryd.underlying69
  have hud := Tryd.underlying68
  have HB0 := Aside0.mk (Below.refl w.heap.size w)
  go_enter Tryd.func35, Tryd.ntmps35
  go_wp2_with (first | ((with_reducible refine gate_dst (N := 2) rfl ?_); refine box_event ?hg (N := 2) ?hd (cs := #[.pointer none, .int .i64 0, .pointer none, .int .i64 0, .pointer none, .int .i64 0, .pointer none, .int .i64 0]) (t := 69) ?hr ?_; (case hd => rfl); (case hg => rfl); (case hr => first | (go_simp; done) | (go_simp; rfl)); intro g2 hg w1 hbox hb; have BX := Aside0.mk hbox; have HB1 := Aside0.mk hb; have HG2 := Aside0.mk (show w.heap.size ≤ g2 by omega); clear hg hbox hb))
  have BX1 := Aside0.mk (blk_drew (g := g2) BX.out)
  have HB2 := Aside0.mk (below_drew1 HB1.out)
  refine start_ (n := 18) (S := fun _ => True) (ds := [17]) #[false, false, false, false, false, false, false, false, false, false, false, false, false, false, false, false, false, false] (by kernel_rfl) rfl rfl trivial (fun hHeld => ?_)
  generalize w1.drew = w2 at BX1 HB2 hHeld ⊢
  refine pure_ (i := 0) (N := some 3) (v := ?_) (a' := ?_) #[true, false, false, false, false, false, false, false, false, false, false, false, false, false, false, false, false, false] rfl rfl (by kernel_rfl) (fun _ _ _ h => h) (Or.inl ⟨by rfl, ?_⟩) ?_ ?_
  rotate_left
  · intro w'
    go_simp
    with_reducible rfl
  rotate_left
  · simp only [Act.put, List.setIfInBounds_toArray, List.set_cons_zero, List.set_cons_succ, i64_w, i32_w]
    rfl
  refine pure_ (i := 1) (N := some 4) (v := ?_) (a' := ?_) #[true, true, false, false, false, false, false, false, false, false, false, false, false, false, false, false, false, false] rfl rfl (by kernel_rfl) (fun _ _ _ h => h) (Or.inl ⟨by rfl, ?_⟩) ?_ ?_
  rotate_left
  · intro w'
    go_simp
    with_reducible rfl
  rotate_left
  · simp only [Act.put, List.setIfInBounds_toArray, List.set_cons_zero, List.set_cons_succ, i64_w, i32_w]
    rfl
  refine pure_ (i := 2) (N := some 5) (v := ?_) (a' := ?_) #[true, true, true, false, false, false, false, false, false, false, false, false, false, false, false, false, false, false] rfl rfl (by kernel_rfl) (fun _ _ _ h => h) (Or.inl ⟨by rfl, ?_⟩) ?_ ?_
  rotate_left
  · intro w'
    go_simp
    with_reducible rfl
  rotate_left
  · simp only [Act.put, List.setIfInBounds_toArray, List.set_cons_zero, List.set_cons_succ, i64_w, i32_w]
    rfl
  refine pure_ (i := 3) (N := some 6) (v := ?_) (a' := ?_) #[true, true, true, true, false, false, false, false, false, false, false, false, false, false, false, false, false, false] rfl rfl (by kernel_rfl) (fun _ _ _ h => h) (Or.inl ⟨by rfl, ?_⟩) ?_ ?_
  rotate_left
  · intro w'
    go_simp
    with_reducible rfl
  rotate_left
  · simp only [Act.put, List.setIfInBounds_toArray, List.set_cons_zero, List.set_cons_succ, i64_w, i32_w]
    rfl
  refine pure_ (i := 4) (N := some 7) (v := ?_) (a' := ?_) #[true, true, true, true, true, false, false, false, false, false, false, false, false, false, false, false, false, false] rfl rfl (by kernel_rfl) (fun _ _ _ h => h) (Or.inl ⟨by rfl, ?_⟩) ?_ ?_
  rotate_left
  · intro w'
    go_simp
    with_reducible rfl
  rotate_left
  · simp only [Act.put, List.setIfInBounds_toArray, List.set_cons_zero, List.set_cons_succ, i64_w, i32_w]
    rfl
  refine pure_ (i := 5) (N := some 8) (v := ?_) (a' := ?_) #[true, true, true, true, true, true, false, false, false, false, false, false, false, false, false, false, false, false] rfl rfl (by kernel_rfl) (fun _ _ _ h => h) (Or.inl ⟨by rfl, ?_⟩) ?_ ?_
  rotate_left
  · intro w'
    go_simp
    with_reducible rfl
  rotate_left
  · simp only [Act.put, List.setIfInBounds_toArray, List.set_cons_zero, List.set_cons_succ, i64_w, i32_w]
    rfl
  refine pure_ (i := 6) (N := some 9) (v := ?_) (a' := ?_) #[true, true, true, true, true, true, true, false, false, false, false, false, false, false, false, false, false, false] rfl rfl (by kernel_rfl) (fun _ _ _ h => h) (Or.inl ⟨by rfl, ?_⟩) ?_ ?_
  rotate_left
  · intro w'
    go_simp
    with_reducible rfl
  rotate_left
  · simp only [Act.put, List.setIfInBounds_toArray, List.set_cons_zero, List.set_cons_succ, i64_w, i32_w]
    rfl
  refine pure_ (i := 7) (N := some 10) (v := ?_) (a' := ?_) #[true, true, true, true, true, true, true, true, false, false, false, false, false, false, false, false, false, false] rfl rfl (by kernel_rfl) (fun _ _ _ h => h) (Or.inl ⟨by rfl, ?_⟩) ?_ ?_
  rotate_left
  · intro w'
    go_simp
    with_reducible rfl
  rotate_left
  · simp only [Act.put, List.setIfInBounds_toArray, List.set_cons_zero, List.set_cons_succ, i64_w, i32_w]
    rfl
  refine pure_ (i := 8) (N := some 11) (v := ?_) (a' := ?_) #[true, true, true, true, true, true, true, true, true, false, false, false, false, false, false, false, false, false] rfl rfl (by kernel_rfl) (fun _ _ _ h => h) (Or.inl ⟨by rfl, ?_⟩) ?_ ?_
  rotate_left
  · intro w'
    go_simp
    with_reducible rfl
  rotate_left
  · simp only [Act.put, List.setIfInBounds_toArray, List.set_cons_zero, List.set_cons_succ, i64_w, i32_w]
    rfl
  refine pure_ (i := 9) (N := some 12) (v := ?_) (a' := ?_) #[true, true, true, true, true, true, true, true, true, true, false, false, false, false, false, false, false, false] rfl rfl (by kernel_rfl) (fun _ _ _ h => h) (Or.inl ⟨by rfl, ?_⟩) ?_ ?_
  rotate_left
  · intro w'
    go_simp
    with_reducible rfl
  rotate_left
  · simp only [Act.put, List.setIfInBounds_toArray, List.set_cons_zero, List.set_cons_succ, i64_w, i32_w]
    rfl
  refine pure_ (i := 10) (N := some 13) (v := ?_) (a' := ?_) #[true, true, true, true, true, true, true, true, true, true, true, false, false, false, false, false, false, false] rfl rfl (by kernel_rfl) (fun _ _ _ h => h) (Or.inl ⟨by rfl, ?_⟩) ?_ ?_
  rotate_left
  · intro w'
    go_simp
    with_reducible rfl
  rotate_left
  · simp only [Act.put, List.setIfInBounds_toArray, List.set_cons_zero, List.set_cons_succ, i64_w, i32_w]
    rfl
  refine pure_ (i := 11) (N := some 14) (v := ?_) (a' := ?_) #[true, true, true, true, true, true, true, true, true, true, true, true, false, false, false, false, false, false] rfl rfl (by kernel_rfl) (fun _ _ _ h => h) (Or.inl ⟨by rfl, ?_⟩) ?_ ?_
  rotate_left
  · intro w'
    go_simp
    with_reducible rfl
  rotate_left
  · simp only [Act.put, List.setIfInBounds_toArray, List.set_cons_zero, List.set_cons_succ, i64_w, i32_w]
    rfl
  refine pure_ (i := 12) (N := some 15) (v := ?_) (a' := ?_) #[true, true, true, true, true, true, true, true, true, true, true, true, true, false, false, false, false, false] rfl rfl (by kernel_rfl) (fun _ _ _ h => h) (Or.inl ⟨by rfl, ?_⟩) ?_ ?_
  rotate_left
  · intro w'
    go_simp
    with_reducible rfl
  rotate_left
  · simp only [Act.put, List.setIfInBounds_toArray, List.set_cons_zero, List.set_cons_succ, i64_w, i32_w]
    rfl
  refine pure_ (i := 13) (N := some 16) (v := ?_) (a' := ?_) #[true, true, true, true, true, true, true, true, true, true, true, true, true, true, false, false, false, false] rfl rfl (by kernel_rfl) (fun _ _ _ h => h) (Or.inl ⟨by rfl, ?_⟩) ?_ ?_
  rotate_left
  · intro w'
    go_simp
    with_reducible rfl
  rotate_left
  · simp only [Act.put, List.setIfInBounds_toArray, List.set_cons_zero, List.set_cons_succ, i64_w, i32_w]
    rfl
  refine pure_ (i := 14) (N := some 17) (v := ?_) (a' := ?_) #[true, true, true, true, true, true, true, true, true, true, true, true, true, true, true, false, false, false] rfl rfl (by kernel_rfl) (fun _ _ _ h => h) (Or.inl ⟨by rfl, ?_⟩) ?_ ?_
  rotate_left
  · intro w'
    go_simp
    with_reducible rfl
  rotate_left
  · simp only [Act.put, List.setIfInBounds_toArray, List.set_cons_zero, List.set_cons_succ, i64_w, i32_w]
    rfl
  refine pure_ (i := 15) (N := some 18) (v := ?_) (a' := ?_) #[true, true, true, true, true, true, true, true, true, true, true, true, true, true, true, true, false, false] rfl rfl (by kernel_rfl) (fun _ _ _ h => h) (Or.inl ⟨by rfl, ?_⟩) ?_ ?_
  rotate_left
  · intro w'
    go_simp
    with_reducible rfl
  rotate_left
  · simp only [Act.put, List.setIfInBounds_toArray, List.set_cons_zero, List.set_cons_succ, i64_w, i32_w]
    rfl
  refine pure_ (i := 16) (N := some 19) (v := ?_) (a' := ?_) #[true, true, true, true, true, true, true, true, true, true, true, true, true, true, true, true, true, false] rfl rfl (by kernel_rfl) (fun _ _ _ h => h) (Or.inl ⟨by rfl, ?_⟩) ?_ ?_
  rotate_left
  · intro w'
    go_simp
    with_reducible rfl
  rotate_left
  · simp only [Act.put, List.setIfInBounds_toArray, List.set_cons_zero, List.set_cons_succ, i64_w, i32_w]
    rfl
  refine last_ (i := 17) (N := none) #[true, true, true, true, true, true, true, true, true, true, true, true, true, true, true, true, true, true] rfl rfl (by kernel_rfl) (by decide) (fun K hK => ?_)
  have hc0 := (blk_cell BX1.out 0).trans rfl
  have hf0 := blk_frozen BX1.out 0
  have hc1 := (blk_cell BX1.out 1).trans rfl
  have hf1 := blk_frozen BX1.out 1
  have hc2 := (blk_cell BX1.out 2).trans rfl
  have hf2 := blk_frozen BX1.out 2
  have hc3 := (blk_cell BX1.out 3).trans rfl
  have hf3 := blk_frozen BX1.out 3
  have hc4 := (blk_cell BX1.out 4).trans rfl
  have hf4 := blk_frozen BX1.out 4
  have hc5 := (blk_cell BX1.out 5).trans rfl
  have hf5 := blk_frozen BX1.out 5
  have hc6 := (blk_cell BX1.out 6).trans rfl
  have hf6 := blk_frozen BX1.out 6
  have hc7 := (blk_cell BX1.out 7).trans rfl
  have hf7 := blk_frozen BX1.out 7
  refine skip_ (w1 := ?_) (by rfl) rfl ?_ ?_
  rotate_left
  · go_simp
    rfl
  refine hK.out _ _ ?_
  clear hK K
  refine done_ (by kernel_rfl) ?_
  go_wp2
  refine bodyPost_ret (results_cell_row rfl _ _ g2 69 #[.pointer (some ⟨g, 0, none⟩), .int .i64 4, .pointer (some ⟨g, 1, none⟩), .int .i64 5, .pointer (some ⟨g, 2, none⟩), .int .i64 5, .pointer (some ⟨g, 3, none⟩), .int .i64 5] (0, 0) _ rfl (by refine blk_put (cs := #[.pointer (some ⟨g, 0, none⟩), .int .i64 4, .pointer (some ⟨g, 1, none⟩), .int .i64 5, .pointer (some ⟨g, 2, none⟩), .int .i64 5, .pointer (some ⟨g, 3, none⟩), .int .i64 0]) ?_ 7 _ rfl; refine blk_put (cs := #[.pointer (some ⟨g, 0, none⟩), .int .i64 4, .pointer (some ⟨g, 1, none⟩), .int .i64 5, .pointer (some ⟨g, 2, none⟩), .int .i64 5, .pointer none, .int .i64 0]) ?_ 6 _ rfl; refine blk_put (cs := #[.pointer (some ⟨g, 0, none⟩), .int .i64 4, .pointer (some ⟨g, 1, none⟩), .int .i64 5, .pointer (some ⟨g, 2, none⟩), .int .i64 0, .pointer none, .int .i64 0]) ?_ 5 _ rfl; refine blk_put (cs := #[.pointer (some ⟨g, 0, none⟩), .int .i64 4, .pointer (some ⟨g, 1, none⟩), .int .i64 5, .pointer none, .int .i64 0, .pointer none, .int .i64 0]) ?_ 4 _ rfl; refine blk_put (cs := #[.pointer (some ⟨g, 0, none⟩), .int .i64 4, .pointer (some ⟨g, 1, none⟩), .int .i64 0, .pointer none, .int .i64 0, .pointer none, .int .i64 0]) ?_ 3 _ rfl; refine blk_put (cs := #[.pointer (some ⟨g, 0, none⟩), .int .i64 4, .pointer none, .int .i64 0, .pointer none, .int .i64 0, .pointer none, .int .i64 0]) ?_ 2 _ rfl; refine blk_put (cs := #[.pointer (some ⟨g, 0, none⟩), .int .i64 0, .pointer none, .int .i64 0, .pointer none, .int .i64 0, .pointer none, .int .i64 0]) ?_ 1 _ rfl; refine blk_put (cs := #[.pointer none, .int .i64 0, .pointer none, .int .i64 0, .pointer none, .int .i64 0, .pointer none, .int .i64 0]) ?_ 0 _ rfl; exact BX1.out) Tryd.underlying69 rfl (by kernel_rfl)) rfl ?_
  exact ⟨rfl, (below_set (below_set (below_set (below_set (below_set (below_set (below_set (below_set HB2.out HG2.out) HG2.out) HG2.out) HG2.out) HG2.out) HG2.out) HG2.out) HG2.out)⟩
def option_Check.f (k : Nat) (a0_0 : Int) (a0_1 : Int) (a0_2 : Int) (a0_3 : Int) (a0_4 : Bool) (a0_5 : Bool) (a0_6 : Bool) (a0_7 : Bool) (a0_8 : Bool) (a0_9 : Bool) (a0_10 : Bool) (a0_11 : Bool) (a0_12 : Bool) (a0_13 : Bool) : Option (Int) := if (0 ≤ a0_0 ∧ a0_0 < 4) ∧ (0 ≤ a0_1 ∧ a0_1 < 5) ∧ (0 ≤ a0_2 ∧ a0_2 < 5) ∧ (0 ≤ a0_3 ∧ a0_3 < 5) then (option_clash.f k a0_0 a0_1 a0_2 a0_3 a0_4 a0_5 a0_6 a0_7 a0_8 a0_9 a0_10 a0_11 a0_12 a0_13).bind fun c => some (if c = true then 3 else 0) else some 1
theorem option_Check.mono : ∀ a0 a1 a2 a3 a4 a5 a6 a7 a8 a9 a10 a11 a12 a13 k, LeO (option_Check.f k a0 a1 a2 a3 a4 a5 a6 a7 a8 a9 a10 a11 a12 a13) (option_Check.f (k + 1) a0 a1 a2 a3 a4 a5 a6 a7 a8 a9 a10 a11 a12 a13) := by
  intro a0 a1 a2 a3 a4 a5 a6 a7 a8 a9 a10 a11 a12 a13 k
  unfold option_Check.f
  refine LeO.ite ?_ (LeO.refl _)
  exact LeO.bind (option_clash.mono _ _ _ _ _ _ _ _ _ _ _ _ _ _ _) (fun _ => LeO.refl _)
set_option maxHeartbeats 8000000 in
set_option maxRecDepth 100000 in
theorem option_Check.calls (k : Nat) (a0_0 : Int) (a0_1 : Int) (a0_2 : Int) (a0_3 : Int) (a0_4 : Bool) (a0_5 : Bool) (a0_6 : Bool) (a0_7 : Bool) (a0_8 : Bool) (a0_9 : Bool) (a0_10 : Bool) (a0_11 : Bool) (a0_12 : Bool) (a0_13 : Bool) (r : Int) (w : World) (h : option_Check.f k a0_0 a0_1 a0_2 a0_3 a0_4 a0_5 a0_6 a0_7 a0_8 a0_9 a0_10 a0_11 a0_12 a0_13 = some r) :
    Calls Tryd.prog 21 #[.agg #[.int .i64 a0_0, .int .i64 a0_1, .int .i64 a0_2, .int .i64 a0_3, .bool a0_4, .bool a0_5, .bool a0_6, .bool a0_7, .bool a0_8, .bool a0_9, .bool a0_10, .bool a0_11, .bool a0_12, .bool a0_13]] w fun e w' => e = .returned (.int .i64 r) ∧ Below w.heap.size w w' := by
  have hu := Tryd.underlying24
  have hud := Tryd.underlying68
  have H := Aside0.mk h
  unfold option_Check.f at H
  have HNO : Aside0 (¬ ((0 ≤ a0_0 ∧ a0_0 < 4) ∧ (0 ≤ a0_1 ∧ a0_1 < 5) ∧ (0 ≤ a0_2 ∧ a0_2 < 5) ∧ (0 ≤ a0_3 ∧ a0_3 < 5)) → r = 1) := ⟨fun hn => by have h_ := H.out; rw [if_neg hn] at h_; exact (Option.some.inj h_).symm⟩
  have HYES : Aside0 ((0 ≤ a0_0 ∧ a0_0 < 4) ∧ (0 ≤ a0_1 ∧ a0_1 < 5) ∧ (0 ≤ a0_2 ∧ a0_2 < 5) ∧ (0 ≤ a0_3 ∧ a0_3 < 5) → ∃ c : Bool, r = (if c = true then 3 else 0) ∧ ∀ W : World, Calls Tryd.prog 36 #[.agg #[.int .i64 a0_0, .int .i64 a0_1, .int .i64 a0_2, .int .i64 a0_3, .bool a0_4, .bool a0_5, .bool a0_6, .bool a0_7, .bool a0_8, .bool a0_9, .bool a0_10, .bool a0_11, .bool a0_12, .bool a0_13]] W fun e w' => e = .returned (.bool c) ∧ Below W.heap.size W w') := ⟨fun hn => by
    have h_ := H.out
    rw [if_pos hn] at h_
    obtain ⟨c, hc, h2⟩ := Option.bind_eq_some_iff.mp h_
    exact ⟨c, (Option.some.inj h2).symm, fun W => option_clash.calls k a0_0 a0_1 a0_2 a0_3 a0_4 a0_5 a0_6 a0_7 a0_8 a0_9 a0_10 a0_11 a0_12 a0_13 c W hc⟩⟩
  clear h H
  go_enter Tryd.func21, Tryd.ntmps21
  go_wp2_with (first | ((with_reducible refine gate_dst (N := 1) rfl ?_); refine box_event ?hg (N := 1) ?hd (cs := #[.int .i64 a0_0, .int .i64 a0_1, .int .i64 a0_2, .int .i64 a0_3, .bool a0_4, .bool a0_5, .bool a0_6, .bool a0_7, .bool a0_8, .bool a0_9, .bool a0_10, .bool a0_11, .bool a0_12, .bool a0_13]) (t := 24) ?hr ?_; (case hd => rfl); (case hg => rfl); (case hr => first | (go_simp; done) | (go_simp; rfl)); intro g hg w1 hbox hb; have BX := Aside0.mk hbox; have HB1 := Aside0.mk hb; clear hg hbox hb) | (go_at_call 35; (with_reducible refine (option_Check.digits g _).mono ?_); rintro e w2 ⟨rfl, hb2⟩; have HG2 := Aside0.mk (blk_below BX.out hb2); have HB2 := Aside0.mk (below_step HB1.out hb2); clear hb2))
  go_loopg [6] 4 (fun kq v6 w' => ∃ j : Int, v6 = .int .i64 j ∧ Aside0 (0 ≤ j ∧ j ≤ 4 ∧ (4 - j).toNat = kq ∧ (1 ≤ j → 0 ≤ a0_0 ∧ a0_0 < 4) ∧ (2 ≤ j → 0 ≤ a0_1 ∧ a0_1 < 5) ∧ (3 ≤ j → 0 ≤ a0_2 ∧ a0_2 < 5) ∧ (4 ≤ j → 0 ≤ a0_3 ∧ a0_3 < 5)) ∧ Aside0 (w'.heap[g]? = some (.cells #[.int .i64 a0_0, .int .i64 a0_1, .int .i64 a0_2, .int .i64 a0_3, .bool a0_4, .bool a0_5, .bool a0_6, .bool a0_7, .bool a0_8, .bool a0_9, .bool a0_10, .bool a0_11, .bool a0_12, .bool a0_13] 24 (0, 0))) ∧ Aside0 (Below w.heap.size w w'))
  case atStart => exact ⟨0, rfl, ⟨by omega, by omega, by omega, by omega, by omega, by omega, by omega⟩, HG2, HB2⟩
  case round =>
    clear HG2 HB2 BX HB1
    obtain ⟨j, rfl, HI, HG, HB⟩ := hrel
    have hj : j = 0 ∨ j = 1 ∨ j = 2 ∨ j = 3 ∨ j = 4 := by have := HI.out; omega
    rcases hj with rfl | rfl | rfl | rfl | rfl
    · have hix : ∀ W : World, (Instr.index 69 (.agg #[.pointer (some ⟨g, 0, none⟩), .int .i64 4, .pointer (some ⟨g, 1, none⟩), .int .i64 5, .pointer (some ⟨g, 2, none⟩), .int .i64 5, .pointer (some ⟨g, 3, none⟩), .int .i64 5]) (.int .i64 0)).run Tryd.prog W = .ok (.agg #[.pointer (some ⟨g, 0, none⟩), .int .i64 4]) W := fun W => by kernel_rfl
      by_cases hlo : a0_0 < 0
      · have b0 : decide (a0_0 < 0) = true := decide_eq_true hlo
        have HR := Aside0.mk (HNO.out (by omega))
        clear hlo
        go_wp2_with (first | ((with_reducible refine gate_dst (N := 4) rfl ?_); refine box_event ?hg (N := 4) ?hd (cs := #[.pointer none, .int .i64 0]) (t := 68) ?hr ?_; (case hd => rfl); (case hg => rfl); (case hr => first | (go_simp; done) | (go_simp; rfl)); intro g4 hg w2 hbox hb; have BX4 := Aside0.mk hbox; have HG2 := Aside0.mk (blk_below HG.out hb); have HB2 := Aside0.mk (below_step HB.out hb); have HG4 := Aside0.mk (show w.heap.size ≤ g4 by have := HB.out.size; omega); have hc0 := (blk_cell hbox 0).trans rfl; have hc1 := (blk_cell hbox 1).trans rfl; have hf0 := blk_frozen hbox 0; have hf1 := blk_frozen hbox 1; clear hg hbox hb) | ((with_reducible refine gate_store (t := 68) (p := 4) rfl ?_); refine store_event (t := 68) (p := 4) (v := ?vo) (w1 := (w2.setCell ⟨g4, 0, none⟩ (.pointer (some ⟨g, 0, none⟩))).setCell ⟨g4, 1, none⟩ (.int .i64 4)) ?hg ?ho ?hn ?hr ?_; (case ho => rfl); (case hg => rfl); (case hn => rfl); (case hr => first | (go_simp; done) | (go_simp; rfl)); intro w3 hw; have BX3 := Aside0.mk (show w3.heap[g4]? = some (.cells #[.pointer (some ⟨g, 0, none⟩), .int .i64 4] 68 (0, 0)) by rw [hw]; refine blk_put (cs := #[.pointer (some ⟨g, 0, none⟩), .int .i64 0]) ?_ 1 _ rfl; exact blk_put BX4.out 0 _ rfl); have HG3 := Aside0.mk (show w3.heap[g]? = some (.cells #[.int .i64 a0_0, .int .i64 a0_1, .int .i64 a0_2, .int .i64 a0_3, .bool a0_4, .bool a0_5, .bool a0_6, .bool a0_7, .bool a0_8, .bool a0_9, .bool a0_10, .bool a0_11, .bool a0_12, .bool a0_13] 24 (0, 0)) by rw [hw]; exact blk_far (blk_far HG2.out (p := ⟨g4, 0, none⟩) (blk_ne HG2.out BX4.out (by decide)) _) (p := ⟨g4, 1, none⟩) (blk_ne HG2.out BX4.out (by decide)) _); have HB3 := Aside0.mk (show Below w.heap.size w w3 by rw [hw]; exact below_set (below_set HB2.out HG4.out) HG4.out); clear hw hc0 hc1 hf0 hf1; have hd0 := (blk_cell BX3.out 0).trans rfl; have hd1 := (blk_cell BX3.out 1).trans rfl; have hdi := (blk_cell HG3.out 0).trans rfl))
        repeat (go_quiet (fail); try go_wp2)
        go_ret
        exact ⟨by rw [HR.out]; rfl, by (with_reducible repeat (first | apply pw_below_drewN | apply below_drew1)); exact HB3.out⟩
      · by_cases hhi : 4 ≤ a0_0
        · have b0 : decide (a0_0 < 0) = false := decide_eq_false hlo
          have b1 : decide (4 ≤ a0_0) = true := decide_eq_true hhi
          have HR := Aside0.mk (HNO.out (by omega))
          clear hlo hhi
          go_wp2_with (first | ((with_reducible refine gate_dst (N := 4) rfl ?_); refine box_event ?hg (N := 4) ?hd (cs := #[.pointer none, .int .i64 0]) (t := 68) ?hr ?_; (case hd => rfl); (case hg => rfl); (case hr => first | (go_simp; done) | (go_simp; rfl)); intro g4 hg w2 hbox hb; have BX4 := Aside0.mk hbox; have HG2 := Aside0.mk (blk_below HG.out hb); have HB2 := Aside0.mk (below_step HB.out hb); have HG4 := Aside0.mk (show w.heap.size ≤ g4 by have := HB.out.size; omega); have hc0 := (blk_cell hbox 0).trans rfl; have hc1 := (blk_cell hbox 1).trans rfl; have hf0 := blk_frozen hbox 0; have hf1 := blk_frozen hbox 1; clear hg hbox hb) | ((with_reducible refine gate_store (t := 68) (p := 4) rfl ?_); refine store_event (t := 68) (p := 4) (v := ?vo) (w1 := (w2.setCell ⟨g4, 0, none⟩ (.pointer (some ⟨g, 0, none⟩))).setCell ⟨g4, 1, none⟩ (.int .i64 4)) ?hg ?ho ?hn ?hr ?_; (case ho => rfl); (case hg => rfl); (case hn => rfl); (case hr => first | (go_simp; done) | (go_simp; rfl)); intro w3 hw; have BX3 := Aside0.mk (show w3.heap[g4]? = some (.cells #[.pointer (some ⟨g, 0, none⟩), .int .i64 4] 68 (0, 0)) by rw [hw]; refine blk_put (cs := #[.pointer (some ⟨g, 0, none⟩), .int .i64 0]) ?_ 1 _ rfl; exact blk_put BX4.out 0 _ rfl); have HG3 := Aside0.mk (show w3.heap[g]? = some (.cells #[.int .i64 a0_0, .int .i64 a0_1, .int .i64 a0_2, .int .i64 a0_3, .bool a0_4, .bool a0_5, .bool a0_6, .bool a0_7, .bool a0_8, .bool a0_9, .bool a0_10, .bool a0_11, .bool a0_12, .bool a0_13] 24 (0, 0)) by rw [hw]; exact blk_far (blk_far HG2.out (p := ⟨g4, 0, none⟩) (blk_ne HG2.out BX4.out (by decide)) _) (p := ⟨g4, 1, none⟩) (blk_ne HG2.out BX4.out (by decide)) _); have HB3 := Aside0.mk (show Below w.heap.size w w3 by rw [hw]; exact below_set (below_set HB2.out HG4.out) HG4.out); clear hw hc0 hc1 hf0 hf1; have hd0 := (blk_cell BX3.out 0).trans rfl; have hd1 := (blk_cell BX3.out 1).trans rfl; have hdi := (blk_cell HG3.out 0).trans rfl))
          repeat (go_quiet (fail); try go_wp2)
          go_ret
          exact ⟨by rw [HR.out]; rfl, by (with_reducible repeat (first | apply pw_below_drewN | apply below_drew1)); exact HB3.out⟩
        · have b0 : decide (a0_0 < 0) = false := decide_eq_false hlo
          have b1 : decide (4 ≤ a0_0) = false := decide_eq_false hhi
          have HK := Aside0.mk (show 0 ≤ a0_0 ∧ a0_0 < 4 by omega)
          clear hlo hhi
          go_wp2_with (first | ((with_reducible refine gate_dst (N := 4) rfl ?_); refine box_event ?hg (N := 4) ?hd (cs := #[.pointer none, .int .i64 0]) (t := 68) ?hr ?_; (case hd => rfl); (case hg => rfl); (case hr => first | (go_simp; done) | (go_simp; rfl)); intro g4 hg w2 hbox hb; have BX4 := Aside0.mk hbox; have HG2 := Aside0.mk (blk_below HG.out hb); have HB2 := Aside0.mk (below_step HB.out hb); have HG4 := Aside0.mk (show w.heap.size ≤ g4 by have := HB.out.size; omega); have hc0 := (blk_cell hbox 0).trans rfl; have hc1 := (blk_cell hbox 1).trans rfl; have hf0 := blk_frozen hbox 0; have hf1 := blk_frozen hbox 1; clear hg hbox hb) | ((with_reducible refine gate_store (t := 68) (p := 4) rfl ?_); refine store_event (t := 68) (p := 4) (v := ?vo) (w1 := (w2.setCell ⟨g4, 0, none⟩ (.pointer (some ⟨g, 0, none⟩))).setCell ⟨g4, 1, none⟩ (.int .i64 4)) ?hg ?ho ?hn ?hr ?_; (case ho => rfl); (case hg => rfl); (case hn => rfl); (case hr => first | (go_simp; done) | (go_simp; rfl)); intro w3 hw; have BX3 := Aside0.mk (show w3.heap[g4]? = some (.cells #[.pointer (some ⟨g, 0, none⟩), .int .i64 4] 68 (0, 0)) by rw [hw]; refine blk_put (cs := #[.pointer (some ⟨g, 0, none⟩), .int .i64 0]) ?_ 1 _ rfl; exact blk_put BX4.out 0 _ rfl); have HG3 := Aside0.mk (show w3.heap[g]? = some (.cells #[.int .i64 a0_0, .int .i64 a0_1, .int .i64 a0_2, .int .i64 a0_3, .bool a0_4, .bool a0_5, .bool a0_6, .bool a0_7, .bool a0_8, .bool a0_9, .bool a0_10, .bool a0_11, .bool a0_12, .bool a0_13] 24 (0, 0)) by rw [hw]; exact blk_far (blk_far HG2.out (p := ⟨g4, 0, none⟩) (blk_ne HG2.out BX4.out (by decide)) _) (p := ⟨g4, 1, none⟩) (blk_ne HG2.out BX4.out (by decide)) _); have HB3 := Aside0.mk (show Below w.heap.size w w3 by rw [hw]; exact below_set (below_set HB2.out HG4.out) HG4.out); clear hw hc0 hc1 hf0 hf1; have hd0 := (blk_cell BX3.out 0).trans rfl; have hd1 := (blk_cell BX3.out 1).trans rfl; have hdi := (blk_cell HG3.out 0).trans rfl))
          repeat (go_quiet (fail); try go_wp2)
          go_roundg 3
          case measure => have := HI.out; omega
          case rel => exact ⟨1, by first | rfl | decide, ⟨by omega, by omega, by omega, fun _ => HK.out, fun h_ => absurd h_ (by omega), fun h_ => absurd h_ (by omega), fun h_ => absurd h_ (by omega)⟩, ⟨by (with_reducible repeat (first | refine blk_drewN ?_ _ | refine blk_drew ?_)); exact HG3.out⟩, ⟨by (with_reducible repeat (first | apply pw_below_drewN | apply below_drew1)); exact HB3.out⟩⟩
    · have hix : ∀ W : World, (Instr.index 69 (.agg #[.pointer (some ⟨g, 0, none⟩), .int .i64 4, .pointer (some ⟨g, 1, none⟩), .int .i64 5, .pointer (some ⟨g, 2, none⟩), .int .i64 5, .pointer (some ⟨g, 3, none⟩), .int .i64 5]) (.int .i64 1)).run Tryd.prog W = .ok (.agg #[.pointer (some ⟨g, 1, none⟩), .int .i64 5]) W := fun W => by kernel_rfl
      by_cases hlo : a0_1 < 0
      · have b0 : decide (a0_1 < 0) = true := decide_eq_true hlo
        have HR := Aside0.mk (HNO.out (by omega))
        clear hlo
        go_wp2_with (first | ((with_reducible refine gate_dst (N := 4) rfl ?_); refine box_event ?hg (N := 4) ?hd (cs := #[.pointer none, .int .i64 0]) (t := 68) ?hr ?_; (case hd => rfl); (case hg => rfl); (case hr => first | (go_simp; done) | (go_simp; rfl)); intro g4 hg w2 hbox hb; have BX4 := Aside0.mk hbox; have HG2 := Aside0.mk (blk_below HG.out hb); have HB2 := Aside0.mk (below_step HB.out hb); have HG4 := Aside0.mk (show w.heap.size ≤ g4 by have := HB.out.size; omega); have hc0 := (blk_cell hbox 0).trans rfl; have hc1 := (blk_cell hbox 1).trans rfl; have hf0 := blk_frozen hbox 0; have hf1 := blk_frozen hbox 1; clear hg hbox hb) | ((with_reducible refine gate_store (t := 68) (p := 4) rfl ?_); refine store_event (t := 68) (p := 4) (v := ?vo) (w1 := (w2.setCell ⟨g4, 0, none⟩ (.pointer (some ⟨g, 1, none⟩))).setCell ⟨g4, 1, none⟩ (.int .i64 5)) ?hg ?ho ?hn ?hr ?_; (case ho => rfl); (case hg => rfl); (case hn => rfl); (case hr => first | (go_simp; done) | (go_simp; rfl)); intro w3 hw; have BX3 := Aside0.mk (show w3.heap[g4]? = some (.cells #[.pointer (some ⟨g, 1, none⟩), .int .i64 5] 68 (0, 0)) by rw [hw]; refine blk_put (cs := #[.pointer (some ⟨g, 1, none⟩), .int .i64 0]) ?_ 1 _ rfl; exact blk_put BX4.out 0 _ rfl); have HG3 := Aside0.mk (show w3.heap[g]? = some (.cells #[.int .i64 a0_0, .int .i64 a0_1, .int .i64 a0_2, .int .i64 a0_3, .bool a0_4, .bool a0_5, .bool a0_6, .bool a0_7, .bool a0_8, .bool a0_9, .bool a0_10, .bool a0_11, .bool a0_12, .bool a0_13] 24 (0, 0)) by rw [hw]; exact blk_far (blk_far HG2.out (p := ⟨g4, 0, none⟩) (blk_ne HG2.out BX4.out (by decide)) _) (p := ⟨g4, 1, none⟩) (blk_ne HG2.out BX4.out (by decide)) _); have HB3 := Aside0.mk (show Below w.heap.size w w3 by rw [hw]; exact below_set (below_set HB2.out HG4.out) HG4.out); clear hw hc0 hc1 hf0 hf1; have hd0 := (blk_cell BX3.out 0).trans rfl; have hd1 := (blk_cell BX3.out 1).trans rfl; have hdi := (blk_cell HG3.out 1).trans rfl))
        repeat (go_quiet (fail); try go_wp2)
        go_ret
        exact ⟨by rw [HR.out]; rfl, by (with_reducible repeat (first | apply pw_below_drewN | apply below_drew1)); exact HB3.out⟩
      · by_cases hhi : 5 ≤ a0_1
        · have b0 : decide (a0_1 < 0) = false := decide_eq_false hlo
          have b1 : decide (5 ≤ a0_1) = true := decide_eq_true hhi
          have HR := Aside0.mk (HNO.out (by omega))
          clear hlo hhi
          go_wp2_with (first | ((with_reducible refine gate_dst (N := 4) rfl ?_); refine box_event ?hg (N := 4) ?hd (cs := #[.pointer none, .int .i64 0]) (t := 68) ?hr ?_; (case hd => rfl); (case hg => rfl); (case hr => first | (go_simp; done) | (go_simp; rfl)); intro g4 hg w2 hbox hb; have BX4 := Aside0.mk hbox; have HG2 := Aside0.mk (blk_below HG.out hb); have HB2 := Aside0.mk (below_step HB.out hb); have HG4 := Aside0.mk (show w.heap.size ≤ g4 by have := HB.out.size; omega); have hc0 := (blk_cell hbox 0).trans rfl; have hc1 := (blk_cell hbox 1).trans rfl; have hf0 := blk_frozen hbox 0; have hf1 := blk_frozen hbox 1; clear hg hbox hb) | ((with_reducible refine gate_store (t := 68) (p := 4) rfl ?_); refine store_event (t := 68) (p := 4) (v := ?vo) (w1 := (w2.setCell ⟨g4, 0, none⟩ (.pointer (some ⟨g, 1, none⟩))).setCell ⟨g4, 1, none⟩ (.int .i64 5)) ?hg ?ho ?hn ?hr ?_; (case ho => rfl); (case hg => rfl); (case hn => rfl); (case hr => first | (go_simp; done) | (go_simp; rfl)); intro w3 hw; have BX3 := Aside0.mk (show w3.heap[g4]? = some (.cells #[.pointer (some ⟨g, 1, none⟩), .int .i64 5] 68 (0, 0)) by rw [hw]; refine blk_put (cs := #[.pointer (some ⟨g, 1, none⟩), .int .i64 0]) ?_ 1 _ rfl; exact blk_put BX4.out 0 _ rfl); have HG3 := Aside0.mk (show w3.heap[g]? = some (.cells #[.int .i64 a0_0, .int .i64 a0_1, .int .i64 a0_2, .int .i64 a0_3, .bool a0_4, .bool a0_5, .bool a0_6, .bool a0_7, .bool a0_8, .bool a0_9, .bool a0_10, .bool a0_11, .bool a0_12, .bool a0_13] 24 (0, 0)) by rw [hw]; exact blk_far (blk_far HG2.out (p := ⟨g4, 0, none⟩) (blk_ne HG2.out BX4.out (by decide)) _) (p := ⟨g4, 1, none⟩) (blk_ne HG2.out BX4.out (by decide)) _); have HB3 := Aside0.mk (show Below w.heap.size w w3 by rw [hw]; exact below_set (below_set HB2.out HG4.out) HG4.out); clear hw hc0 hc1 hf0 hf1; have hd0 := (blk_cell BX3.out 0).trans rfl; have hd1 := (blk_cell BX3.out 1).trans rfl; have hdi := (blk_cell HG3.out 1).trans rfl))
          repeat (go_quiet (fail); try go_wp2)
          go_ret
          exact ⟨by rw [HR.out]; rfl, by (with_reducible repeat (first | apply pw_below_drewN | apply below_drew1)); exact HB3.out⟩
        · have b0 : decide (a0_1 < 0) = false := decide_eq_false hlo
          have b1 : decide (5 ≤ a0_1) = false := decide_eq_false hhi
          have HK := Aside0.mk (show 0 ≤ a0_1 ∧ a0_1 < 5 by omega)
          clear hlo hhi
          go_wp2_with (first | ((with_reducible refine gate_dst (N := 4) rfl ?_); refine box_event ?hg (N := 4) ?hd (cs := #[.pointer none, .int .i64 0]) (t := 68) ?hr ?_; (case hd => rfl); (case hg => rfl); (case hr => first | (go_simp; done) | (go_simp; rfl)); intro g4 hg w2 hbox hb; have BX4 := Aside0.mk hbox; have HG2 := Aside0.mk (blk_below HG.out hb); have HB2 := Aside0.mk (below_step HB.out hb); have HG4 := Aside0.mk (show w.heap.size ≤ g4 by have := HB.out.size; omega); have hc0 := (blk_cell hbox 0).trans rfl; have hc1 := (blk_cell hbox 1).trans rfl; have hf0 := blk_frozen hbox 0; have hf1 := blk_frozen hbox 1; clear hg hbox hb) | ((with_reducible refine gate_store (t := 68) (p := 4) rfl ?_); refine store_event (t := 68) (p := 4) (v := ?vo) (w1 := (w2.setCell ⟨g4, 0, none⟩ (.pointer (some ⟨g, 1, none⟩))).setCell ⟨g4, 1, none⟩ (.int .i64 5)) ?hg ?ho ?hn ?hr ?_; (case ho => rfl); (case hg => rfl); (case hn => rfl); (case hr => first | (go_simp; done) | (go_simp; rfl)); intro w3 hw; have BX3 := Aside0.mk (show w3.heap[g4]? = some (.cells #[.pointer (some ⟨g, 1, none⟩), .int .i64 5] 68 (0, 0)) by rw [hw]; refine blk_put (cs := #[.pointer (some ⟨g, 1, none⟩), .int .i64 0]) ?_ 1 _ rfl; exact blk_put BX4.out 0 _ rfl); have HG3 := Aside0.mk (show w3.heap[g]? = some (.cells #[.int .i64 a0_0, .int .i64 a0_1, .int .i64 a0_2, .int .i64 a0_3, .bool a0_4, .bool a0_5, .bool a0_6, .bool a0_7, .bool a0_8, .bool a0_9, .bool a0_10, .bool a0_11, .bool a0_12, .bool a0_13] 24 (0, 0)) by rw [hw]; exact blk_far (blk_far HG2.out (p := ⟨g4, 0, none⟩) (blk_ne HG2.out BX4.out (by decide)) _) (p := ⟨g4, 1, none⟩) (blk_ne HG2.out BX4.out (by decide)) _); have HB3 := Aside0.mk (show Below w.heap.size w w3 by rw [hw]; exact below_set (below_set HB2.out HG4.out) HG4.out); clear hw hc0 hc1 hf0 hf1; have hd0 := (blk_cell BX3.out 0).trans rfl; have hd1 := (blk_cell BX3.out 1).trans rfl; have hdi := (blk_cell HG3.out 1).trans rfl))
          repeat (go_quiet (fail); try go_wp2)
          go_roundg 2
          case measure => have := HI.out; omega
          case rel => exact ⟨2, by first | rfl | decide, ⟨by omega, by omega, by omega, fun _ => HI.out.2.2.2.1 (by omega), fun _ => HK.out, fun h_ => absurd h_ (by omega), fun h_ => absurd h_ (by omega)⟩, ⟨by (with_reducible repeat (first | refine blk_drewN ?_ _ | refine blk_drew ?_)); exact HG3.out⟩, ⟨by (with_reducible repeat (first | apply pw_below_drewN | apply below_drew1)); exact HB3.out⟩⟩
    · have hix : ∀ W : World, (Instr.index 69 (.agg #[.pointer (some ⟨g, 0, none⟩), .int .i64 4, .pointer (some ⟨g, 1, none⟩), .int .i64 5, .pointer (some ⟨g, 2, none⟩), .int .i64 5, .pointer (some ⟨g, 3, none⟩), .int .i64 5]) (.int .i64 2)).run Tryd.prog W = .ok (.agg #[.pointer (some ⟨g, 2, none⟩), .int .i64 5]) W := fun W => by kernel_rfl
      by_cases hlo : a0_2 < 0
      · have b0 : decide (a0_2 < 0) = true := decide_eq_true hlo
        have HR := Aside0.mk (HNO.out (by omega))
        clear hlo
        go_wp2_with (first | ((with_reducible refine gate_dst (N := 4) rfl ?_); refine box_event ?hg (N := 4) ?hd (cs := #[.pointer none, .int .i64 0]) (t := 68) ?hr ?_; (case hd => rfl); (case hg => rfl); (case hr => first | (go_simp; done) | (go_simp; rfl)); intro g4 hg w2 hbox hb; have BX4 := Aside0.mk hbox; have HG2 := Aside0.mk (blk_below HG.out hb); have HB2 := Aside0.mk (below_step HB.out hb); have HG4 := Aside0.mk (show w.heap.size ≤ g4 by have := HB.out.size; omega); have hc0 := (blk_cell hbox 0).trans rfl; have hc1 := (blk_cell hbox 1).trans rfl; have hf0 := blk_frozen hbox 0; have hf1 := blk_frozen hbox 1; clear hg hbox hb) | ((with_reducible refine gate_store (t := 68) (p := 4) rfl ?_); refine store_event (t := 68) (p := 4) (v := ?vo) (w1 := (w2.setCell ⟨g4, 0, none⟩ (.pointer (some ⟨g, 2, none⟩))).setCell ⟨g4, 1, none⟩ (.int .i64 5)) ?hg ?ho ?hn ?hr ?_; (case ho => rfl); (case hg => rfl); (case hn => rfl); (case hr => first | (go_simp; done) | (go_simp; rfl)); intro w3 hw; have BX3 := Aside0.mk (show w3.heap[g4]? = some (.cells #[.pointer (some ⟨g, 2, none⟩), .int .i64 5] 68 (0, 0)) by rw [hw]; refine blk_put (cs := #[.pointer (some ⟨g, 2, none⟩), .int .i64 0]) ?_ 1 _ rfl; exact blk_put BX4.out 0 _ rfl); have HG3 := Aside0.mk (show w3.heap[g]? = some (.cells #[.int .i64 a0_0, .int .i64 a0_1, .int .i64 a0_2, .int .i64 a0_3, .bool a0_4, .bool a0_5, .bool a0_6, .bool a0_7, .bool a0_8, .bool a0_9, .bool a0_10, .bool a0_11, .bool a0_12, .bool a0_13] 24 (0, 0)) by rw [hw]; exact blk_far (blk_far HG2.out (p := ⟨g4, 0, none⟩) (blk_ne HG2.out BX4.out (by decide)) _) (p := ⟨g4, 1, none⟩) (blk_ne HG2.out BX4.out (by decide)) _); have HB3 := Aside0.mk (show Below w.heap.size w w3 by rw [hw]; exact below_set (below_set HB2.out HG4.out) HG4.out); clear hw hc0 hc1 hf0 hf1; have hd0 := (blk_cell BX3.out 0).trans rfl; have hd1 := (blk_cell BX3.out 1).trans rfl; have hdi := (blk_cell HG3.out 2).trans rfl))
        repeat (go_quiet (fail); try go_wp2)
        go_ret
        exact ⟨by rw [HR.out]; rfl, by (with_reducible repeat (first | apply pw_below_drewN | apply below_drew1)); exact HB3.out⟩
      · by_cases hhi : 5 ≤ a0_2
        · have b0 : decide (a0_2 < 0) = false := decide_eq_false hlo
          have b1 : decide (5 ≤ a0_2) = true := decide_eq_true hhi
          have HR := Aside0.mk (HNO.out (by omega))
          clear hlo hhi
          go_wp2_with (first | ((with_reducible refine gate_dst (N := 4) rfl ?_); refine box_event ?hg (N := 4) ?hd (cs := #[.pointer none, .int .i64 0]) (t := 68) ?hr ?_; (case hd => rfl); (case hg => rfl); (case hr => first | (go_simp; done) | (go_simp; rfl)); intro g4 hg w2 hbox hb; have BX4 := Aside0.mk hbox; have HG2 := Aside0.mk (blk_below HG.out hb); have HB2 := Aside0.mk (below_step HB.out hb); have HG4 := Aside0.mk (show w.heap.size ≤ g4 by have := HB.out.size; omega); have hc0 := (blk_cell hbox 0).trans rfl; have hc1 := (blk_cell hbox 1).trans rfl; have hf0 := blk_frozen hbox 0; have hf1 := blk_frozen hbox 1; clear hg hbox hb) | ((with_reducible refine gate_store (t := 68) (p := 4) rfl ?_); refine store_event (t := 68) (p := 4) (v := ?vo) (w1 := (w2.setCell ⟨g4, 0, none⟩ (.pointer (some ⟨g, 2, none⟩))).setCell ⟨g4, 1, none⟩ (.int .i64 5)) ?hg ?ho ?hn ?hr ?_; (case ho => rfl); (case hg => rfl); (case hn => rfl); (case hr => first | (go_simp; done) | (go_simp; rfl)); intro w3 hw; have BX3 := Aside0.mk (show w3.heap[g4]? = some (.cells #[.pointer (some ⟨g, 2, none⟩), .int .i64 5] 68 (0, 0)) by rw [hw]; refine blk_put (cs := #[.pointer (some ⟨g, 2, none⟩), .int .i64 0]) ?_ 1 _ rfl; exact blk_put BX4.out 0 _ rfl); have HG3 := Aside0.mk (show w3.heap[g]? = some (.cells #[.int .i64 a0_0, .int .i64 a0_1, .int .i64 a0_2, .int .i64 a0_3, .bool a0_4, .bool a0_5, .bool a0_6, .bool a0_7, .bool a0_8, .bool a0_9, .bool a0_10, .bool a0_11, .bool a0_12, .bool a0_13] 24 (0, 0)) by rw [hw]; exact blk_far (blk_far HG2.out (p := ⟨g4, 0, none⟩) (blk_ne HG2.out BX4.out (by decide)) _) (p := ⟨g4, 1, none⟩) (blk_ne HG2.out BX4.out (by decide)) _); have HB3 := Aside0.mk (show Below w.heap.size w w3 by rw [hw]; exact below_set (below_set HB2.out HG4.out) HG4.out); clear hw hc0 hc1 hf0 hf1; have hd0 := (blk_cell BX3.out 0).trans rfl; have hd1 := (blk_cell BX3.out 1).trans rfl; have hdi := (blk_cell HG3.out 2).trans rfl))
          repeat (go_quiet (fail); try go_wp2)
          go_ret
          exact ⟨by rw [HR.out]; rfl, by (with_reducible repeat (first | apply pw_below_drewN | apply below_drew1)); exact HB3.out⟩
        · have b0 : decide (a0_2 < 0) = false := decide_eq_false hlo
          have b1 : decide (5 ≤ a0_2) = false := decide_eq_false hhi
          have HK := Aside0.mk (show 0 ≤ a0_2 ∧ a0_2 < 5 by omega)
          clear hlo hhi
          go_wp2_with (first | ((with_reducible refine gate_dst (N := 4) rfl ?_); refine box_event ?hg (N := 4) ?hd (cs := #[.pointer none, .int .i64 0]) (t := 68) ?hr ?_; (case hd => rfl); (case hg => rfl); (case hr => first | (go_simp; done) | (go_simp; rfl)); intro g4 hg w2 hbox hb; have BX4 := Aside0.mk hbox; have HG2 := Aside0.mk (blk_below HG.out hb); have HB2 := Aside0.mk (below_step HB.out hb); have HG4 := Aside0.mk (show w.heap.size ≤ g4 by have := HB.out.size; omega); have hc0 := (blk_cell hbox 0).trans rfl; have hc1 := (blk_cell hbox 1).trans rfl; have hf0 := blk_frozen hbox 0; have hf1 := blk_frozen hbox 1; clear hg hbox hb) | ((with_reducible refine gate_store (t := 68) (p := 4) rfl ?_); refine store_event (t := 68) (p := 4) (v := ?vo) (w1 := (w2.setCell ⟨g4, 0, none⟩ (.pointer (some ⟨g, 2, none⟩))).setCell ⟨g4, 1, none⟩ (.int .i64 5)) ?hg ?ho ?hn ?hr ?_; (case ho => rfl); (case hg => rfl); (case hn => rfl); (case hr => first | (go_simp; done) | (go_simp; rfl)); intro w3 hw; have BX3 := Aside0.mk (show w3.heap[g4]? = some (.cells #[.pointer (some ⟨g, 2, none⟩), .int .i64 5] 68 (0, 0)) by rw [hw]; refine blk_put (cs := #[.pointer (some ⟨g, 2, none⟩), .int .i64 0]) ?_ 1 _ rfl; exact blk_put BX4.out 0 _ rfl); have HG3 := Aside0.mk (show w3.heap[g]? = some (.cells #[.int .i64 a0_0, .int .i64 a0_1, .int .i64 a0_2, .int .i64 a0_3, .bool a0_4, .bool a0_5, .bool a0_6, .bool a0_7, .bool a0_8, .bool a0_9, .bool a0_10, .bool a0_11, .bool a0_12, .bool a0_13] 24 (0, 0)) by rw [hw]; exact blk_far (blk_far HG2.out (p := ⟨g4, 0, none⟩) (blk_ne HG2.out BX4.out (by decide)) _) (p := ⟨g4, 1, none⟩) (blk_ne HG2.out BX4.out (by decide)) _); have HB3 := Aside0.mk (show Below w.heap.size w w3 by rw [hw]; exact below_set (below_set HB2.out HG4.out) HG4.out); clear hw hc0 hc1 hf0 hf1; have hd0 := (blk_cell BX3.out 0).trans rfl; have hd1 := (blk_cell BX3.out 1).trans rfl; have hdi := (blk_cell HG3.out 2).trans rfl))
          repeat (go_quiet (fail); try go_wp2)
          go_roundg 1
          case measure => have := HI.out; omega
          case rel => exact ⟨3, by first | rfl | decide, ⟨by omega, by omega, by omega, fun _ => HI.out.2.2.2.1 (by omega), fun _ => HI.out.2.2.2.2.1 (by omega), fun _ => HK.out, fun h_ => absurd h_ (by omega)⟩, ⟨by (with_reducible repeat (first | refine blk_drewN ?_ _ | refine blk_drew ?_)); exact HG3.out⟩, ⟨by (with_reducible repeat (first | apply pw_below_drewN | apply below_drew1)); exact HB3.out⟩⟩
    · have hix : ∀ W : World, (Instr.index 69 (.agg #[.pointer (some ⟨g, 0, none⟩), .int .i64 4, .pointer (some ⟨g, 1, none⟩), .int .i64 5, .pointer (some ⟨g, 2, none⟩), .int .i64 5, .pointer (some ⟨g, 3, none⟩), .int .i64 5]) (.int .i64 3)).run Tryd.prog W = .ok (.agg #[.pointer (some ⟨g, 3, none⟩), .int .i64 5]) W := fun W => by kernel_rfl
      by_cases hlo : a0_3 < 0
      · have b0 : decide (a0_3 < 0) = true := decide_eq_true hlo
        have HR := Aside0.mk (HNO.out (by omega))
        clear hlo
        go_wp2_with (first | ((with_reducible refine gate_dst (N := 4) rfl ?_); refine box_event ?hg (N := 4) ?hd (cs := #[.pointer none, .int .i64 0]) (t := 68) ?hr ?_; (case hd => rfl); (case hg => rfl); (case hr => first | (go_simp; done) | (go_simp; rfl)); intro g4 hg w2 hbox hb; have BX4 := Aside0.mk hbox; have HG2 := Aside0.mk (blk_below HG.out hb); have HB2 := Aside0.mk (below_step HB.out hb); have HG4 := Aside0.mk (show w.heap.size ≤ g4 by have := HB.out.size; omega); have hc0 := (blk_cell hbox 0).trans rfl; have hc1 := (blk_cell hbox 1).trans rfl; have hf0 := blk_frozen hbox 0; have hf1 := blk_frozen hbox 1; clear hg hbox hb) | ((with_reducible refine gate_store (t := 68) (p := 4) rfl ?_); refine store_event (t := 68) (p := 4) (v := ?vo) (w1 := (w2.setCell ⟨g4, 0, none⟩ (.pointer (some ⟨g, 3, none⟩))).setCell ⟨g4, 1, none⟩ (.int .i64 5)) ?hg ?ho ?hn ?hr ?_; (case ho => rfl); (case hg => rfl); (case hn => rfl); (case hr => first | (go_simp; done) | (go_simp; rfl)); intro w3 hw; have BX3 := Aside0.mk (show w3.heap[g4]? = some (.cells #[.pointer (some ⟨g, 3, none⟩), .int .i64 5] 68 (0, 0)) by rw [hw]; refine blk_put (cs := #[.pointer (some ⟨g, 3, none⟩), .int .i64 0]) ?_ 1 _ rfl; exact blk_put BX4.out 0 _ rfl); have HG3 := Aside0.mk (show w3.heap[g]? = some (.cells #[.int .i64 a0_0, .int .i64 a0_1, .int .i64 a0_2, .int .i64 a0_3, .bool a0_4, .bool a0_5, .bool a0_6, .bool a0_7, .bool a0_8, .bool a0_9, .bool a0_10, .bool a0_11, .bool a0_12, .bool a0_13] 24 (0, 0)) by rw [hw]; exact blk_far (blk_far HG2.out (p := ⟨g4, 0, none⟩) (blk_ne HG2.out BX4.out (by decide)) _) (p := ⟨g4, 1, none⟩) (blk_ne HG2.out BX4.out (by decide)) _); have HB3 := Aside0.mk (show Below w.heap.size w w3 by rw [hw]; exact below_set (below_set HB2.out HG4.out) HG4.out); clear hw hc0 hc1 hf0 hf1; have hd0 := (blk_cell BX3.out 0).trans rfl; have hd1 := (blk_cell BX3.out 1).trans rfl; have hdi := (blk_cell HG3.out 3).trans rfl))
        repeat (go_quiet (fail); try go_wp2)
        go_ret
        exact ⟨by rw [HR.out]; rfl, by (with_reducible repeat (first | apply pw_below_drewN | apply below_drew1)); exact HB3.out⟩
      · by_cases hhi : 5 ≤ a0_3
        · have b0 : decide (a0_3 < 0) = false := decide_eq_false hlo
          have b1 : decide (5 ≤ a0_3) = true := decide_eq_true hhi
          have HR := Aside0.mk (HNO.out (by omega))
          clear hlo hhi
          go_wp2_with (first | ((with_reducible refine gate_dst (N := 4) rfl ?_); refine box_event ?hg (N := 4) ?hd (cs := #[.pointer none, .int .i64 0]) (t := 68) ?hr ?_; (case hd => rfl); (case hg => rfl); (case hr => first | (go_simp; done) | (go_simp; rfl)); intro g4 hg w2 hbox hb; have BX4 := Aside0.mk hbox; have HG2 := Aside0.mk (blk_below HG.out hb); have HB2 := Aside0.mk (below_step HB.out hb); have HG4 := Aside0.mk (show w.heap.size ≤ g4 by have := HB.out.size; omega); have hc0 := (blk_cell hbox 0).trans rfl; have hc1 := (blk_cell hbox 1).trans rfl; have hf0 := blk_frozen hbox 0; have hf1 := blk_frozen hbox 1; clear hg hbox hb) | ((with_reducible refine gate_store (t := 68) (p := 4) rfl ?_); refine store_event (t := 68) (p := 4) (v := ?vo) (w1 := (w2.setCell ⟨g4, 0, none⟩ (.pointer (some ⟨g, 3, none⟩))).setCell ⟨g4, 1, none⟩ (.int .i64 5)) ?hg ?ho ?hn ?hr ?_; (case ho => rfl); (case hg => rfl); (case hn => rfl); (case hr => first | (go_simp; done) | (go_simp; rfl)); intro w3 hw; have BX3 := Aside0.mk (show w3.heap[g4]? = some (.cells #[.pointer (some ⟨g, 3, none⟩), .int .i64 5] 68 (0, 0)) by rw [hw]; refine blk_put (cs := #[.pointer (some ⟨g, 3, none⟩), .int .i64 0]) ?_ 1 _ rfl; exact blk_put BX4.out 0 _ rfl); have HG3 := Aside0.mk (show w3.heap[g]? = some (.cells #[.int .i64 a0_0, .int .i64 a0_1, .int .i64 a0_2, .int .i64 a0_3, .bool a0_4, .bool a0_5, .bool a0_6, .bool a0_7, .bool a0_8, .bool a0_9, .bool a0_10, .bool a0_11, .bool a0_12, .bool a0_13] 24 (0, 0)) by rw [hw]; exact blk_far (blk_far HG2.out (p := ⟨g4, 0, none⟩) (blk_ne HG2.out BX4.out (by decide)) _) (p := ⟨g4, 1, none⟩) (blk_ne HG2.out BX4.out (by decide)) _); have HB3 := Aside0.mk (show Below w.heap.size w w3 by rw [hw]; exact below_set (below_set HB2.out HG4.out) HG4.out); clear hw hc0 hc1 hf0 hf1; have hd0 := (blk_cell BX3.out 0).trans rfl; have hd1 := (blk_cell BX3.out 1).trans rfl; have hdi := (blk_cell HG3.out 3).trans rfl))
          repeat (go_quiet (fail); try go_wp2)
          go_ret
          exact ⟨by rw [HR.out]; rfl, by (with_reducible repeat (first | apply pw_below_drewN | apply below_drew1)); exact HB3.out⟩
        · have b0 : decide (a0_3 < 0) = false := decide_eq_false hlo
          have b1 : decide (5 ≤ a0_3) = false := decide_eq_false hhi
          have HK := Aside0.mk (show 0 ≤ a0_3 ∧ a0_3 < 5 by omega)
          clear hlo hhi
          go_wp2_with (first | ((with_reducible refine gate_dst (N := 4) rfl ?_); refine box_event ?hg (N := 4) ?hd (cs := #[.pointer none, .int .i64 0]) (t := 68) ?hr ?_; (case hd => rfl); (case hg => rfl); (case hr => first | (go_simp; done) | (go_simp; rfl)); intro g4 hg w2 hbox hb; have BX4 := Aside0.mk hbox; have HG2 := Aside0.mk (blk_below HG.out hb); have HB2 := Aside0.mk (below_step HB.out hb); have HG4 := Aside0.mk (show w.heap.size ≤ g4 by have := HB.out.size; omega); have hc0 := (blk_cell hbox 0).trans rfl; have hc1 := (blk_cell hbox 1).trans rfl; have hf0 := blk_frozen hbox 0; have hf1 := blk_frozen hbox 1; clear hg hbox hb) | ((with_reducible refine gate_store (t := 68) (p := 4) rfl ?_); refine store_event (t := 68) (p := 4) (v := ?vo) (w1 := (w2.setCell ⟨g4, 0, none⟩ (.pointer (some ⟨g, 3, none⟩))).setCell ⟨g4, 1, none⟩ (.int .i64 5)) ?hg ?ho ?hn ?hr ?_; (case ho => rfl); (case hg => rfl); (case hn => rfl); (case hr => first | (go_simp; done) | (go_simp; rfl)); intro w3 hw; have BX3 := Aside0.mk (show w3.heap[g4]? = some (.cells #[.pointer (some ⟨g, 3, none⟩), .int .i64 5] 68 (0, 0)) by rw [hw]; refine blk_put (cs := #[.pointer (some ⟨g, 3, none⟩), .int .i64 0]) ?_ 1 _ rfl; exact blk_put BX4.out 0 _ rfl); have HG3 := Aside0.mk (show w3.heap[g]? = some (.cells #[.int .i64 a0_0, .int .i64 a0_1, .int .i64 a0_2, .int .i64 a0_3, .bool a0_4, .bool a0_5, .bool a0_6, .bool a0_7, .bool a0_8, .bool a0_9, .bool a0_10, .bool a0_11, .bool a0_12, .bool a0_13] 24 (0, 0)) by rw [hw]; exact blk_far (blk_far HG2.out (p := ⟨g4, 0, none⟩) (blk_ne HG2.out BX4.out (by decide)) _) (p := ⟨g4, 1, none⟩) (blk_ne HG2.out BX4.out (by decide)) _); have HB3 := Aside0.mk (show Below w.heap.size w w3 by rw [hw]; exact below_set (below_set HB2.out HG4.out) HG4.out); clear hw hc0 hc1 hf0 hf1; have hd0 := (blk_cell BX3.out 0).trans rfl; have hd1 := (blk_cell BX3.out 1).trans rfl; have hdi := (blk_cell HG3.out 3).trans rfl))
          repeat (go_quiet (fail); try go_wp2)
          go_roundg 0
          case measure => have := HI.out; omega
          case rel => exact ⟨4, by first | rfl | decide, ⟨by omega, by omega, by omega, fun _ => HI.out.2.2.2.1 (by omega), fun _ => HI.out.2.2.2.2.1 (by omega), fun _ => HI.out.2.2.2.2.2.1 (by omega), fun _ => HK.out⟩, ⟨by (with_reducible repeat (first | refine blk_drewN ?_ _ | refine blk_drew ?_)); exact HG3.out⟩, ⟨by (with_reducible repeat (first | apply pw_below_drewN | apply below_drew1)); exact HB3.out⟩⟩
    · have hd := HI.out.2.2.2
      obtain ⟨c, hr, hc⟩ := HYES.out ⟨hd.1 (by omega), hd.2.1 (by omega), hd.2.2.1 (by omega), hd.2.2.2 (by omega)⟩
      have HR := Aside0.mk hr
      have HC := Aside0.mk hc
      clear hd hr hc
      have hz0 := (blk_cell HG.out 0).trans rfl
      have hz1 := (blk_cell HG.out 1).trans rfl
      have hz2 := (blk_cell HG.out 2).trans rfl
      have hz3 := (blk_cell HG.out 3).trans rfl
      have hz4 := (blk_cell HG.out 4).trans rfl
      have hz5 := (blk_cell HG.out 5).trans rfl
      have hz6 := (blk_cell HG.out 6).trans rfl
      have hz7 := (blk_cell HG.out 7).trans rfl
      have hz8 := (blk_cell HG.out 8).trans rfl
      have hz9 := (blk_cell HG.out 9).trans rfl
      have hz10 := (blk_cell HG.out 10).trans rfl
      have hz11 := (blk_cell HG.out 11).trans rfl
      have hz12 := (blk_cell HG.out 12).trans rfl
      have hz13 := (blk_cell HG.out 13).trans rfl
      cases c with
      | true =>
        go_wp2_with (first | (go_at_call 36; (with_reducible refine (HC.out _).mono ?_); rintro e w5 ⟨rfl, hb5⟩; have HB5 := Aside0.mk (below_step HB.out hb5); clear hb5))
        go_ret
        exact ⟨by rw [HR.out]; rfl, HB5.out⟩
      | false =>
        go_wp2_with (first | (go_at_call 36; (with_reducible refine (HC.out _).mono ?_); rintro e w5 ⟨rfl, hb5⟩; have HB5 := Aside0.mk (below_step HB.out hb5); clear hb5))
        go_ret
        exact ⟨by rw [HR.out]; rfl, HB5.out⟩
def naskhref10_in.f (a0 : Int) (a1 : Int) : Option (Bool) := if a0 ≥ 0 then (some (decide (a0 ≤ a1))) else (some false)
set_option maxHeartbeats 8000000 in
set_option maxRecDepth 100000 in
theorem naskhref10_in.calls (a0 : Int) (a1 : Int) (r : Bool) (w : World) (h : naskhref10_in.f a0 a1 = some r) :
    Calls Tryd.prog 29 #[.int .i64 a0, .int .i64 a1] w fun e w' => e = .returned (.bool r) ∧ Drawn0 w w' := by
  have H : (if a0 ≥ 0 then (some (decide (a0 ≤ a1))) else (some false)) = some r := h
  clear h
  by_cases c3 : a0 ≥ 0
  · rw [if_pos c3] at H
    have c3b0 : decide (0 ≤ a0) = true := decide_eq_true c3
    clear c3
    obtain rfl := Option.some.inj H
    go_enter Tryd.func29, Tryd.ntmps29
    go_wp2
    go_ret
    exact ⟨by first | rfl | (simp; done) | (simp [*]; done), by repeat (first | exact Drawn0.refl _ | apply Drawn0.step)⟩
  · rw [if_neg c3] at H
    have c3b0 : decide (0 ≤ a0) = false := decide_eq_false c3
    clear c3
    obtain rfl := Option.some.inj H
    go_enter Tryd.func29, Tryd.ntmps29
    go_wp2
    go_ret
    exact ⟨by first | rfl | (simp; done) | (simp [*]; done), by repeat (first | exact Drawn0.refl _ | apply Drawn0.step)⟩
end Go.Proofs.YtknghhlielhleaaDoor.PSpellParses
