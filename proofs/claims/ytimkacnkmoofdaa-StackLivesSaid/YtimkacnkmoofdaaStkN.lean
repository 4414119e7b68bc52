/- A stack that no call made has nothing. No condition. -/
import Derived.Test.YtimkacnkmoofdaaStkD
namespace Go.Proofs.Ytimkacnkmoofdaa.Stk
open Go.RowKit Go.Proofs.YtimkacnkmoofdaaW.PrintWords Go.Proofs.YtimkacnkmoofdaaW.PrintLast Go.Proofs.YtimkacnkmoofdaaW.PrintMore
attribute [local go_sem] max2_int min2_int max_two min_two max_three min_three max_four min_four   -- for this text's walks alone
set_option linter.unusedVariables false
set_option linter.unusedSimpArgs false
set_option maxHeartbeats 8000000 in
set_option maxRecDepth 100000 in
theorem n_len (p : Value) (w : World) (HM : ∀ W : World, Below w.heap.size w W → Calls Try.prog 55 #[p] W fun e w' => e = .returned (.bool false) ∧ W = w') : Calls Try.prog 17 #[p] w fun e w' => e = .returned (.int .i64 0) ∧ w = w' := by
  have HMA := Aside0.mk HM
  clear HM
  go_enter Try.func17, Try.ntmps17
  go_wp2_with (first | (go_at_call 55; (with_reducible refine (HMA.out _ (Below.refl _ _)).mono ?_); rintro e w1 ⟨rfl, rfl⟩))
  go_ret
  exact ⟨by first | rfl | simp [*], rfl⟩
set_option maxHeartbeats 8000000 in
set_option maxRecDepth 100000 in
theorem n_embed (p : Value) (w : World) (HM : ∀ W : World, Below w.heap.size w W → Calls Try.prog 55 #[p] W fun e w' => e = .returned (.bool false) ∧ W = w') (right : Bool) (ov : Int) : Calls Try.prog 18 #[p, .bool right, .int .i64 ov] w fun e w' => e = .returned (.bool false) ∧ w = w' := by
  have HMA := Aside0.mk HM
  clear HM
  go_enter Try.func18, Try.ntmps18
  go_wp2_with (first | (go_at_call 55; (with_reducible refine (HMA.out _ (Below.refl _ _)).mono ?_); rintro e w1 ⟨rfl, rfl⟩))
  go_ret
  exact ⟨by first | rfl | simp [*], rfl⟩
set_option maxHeartbeats 8000000 in
set_option maxRecDepth 100000 in
theorem n_isolate (p : Value) (w : World) (HM : ∀ W : World, Below w.heap.size w W → Calls Try.prog 55 #[p] W fun e w' => e = .returned (.bool false) ∧ W = w') (right : Bool) : Calls Try.prog 19 #[p, .bool right] w fun e w' => e = .returned (.bool false) ∧ w = w' := by
  have HMA := Aside0.mk HM
  clear HM
  go_enter Try.func19, Try.ntmps19
  go_wp2_with (first | (go_at_call 55; (with_reducible refine (HMA.out _ (Below.refl _ _)).mono ?_); rintro e w1 ⟨rfl, rfl⟩))
  go_ret
  exact ⟨by first | rfl | simp [*], rfl⟩
set_option maxHeartbeats 8000000 in
set_option maxRecDepth 100000 in
theorem n_endembed (p : Value) (w : World) (HM : ∀ W : World, Below w.heap.size w W → Calls Try.prog 55 #[p] W fun e w' => e = .returned (.bool false) ∧ W = w') : Calls Try.prog 20 #[p] w fun e w' => e = .returned (.tuple #[]) ∧ w = w' := by
  have HMA := Aside0.mk HM
  clear HM
  go_enter Try.func20, Try.ntmps20
  go_wp2_with (first | (go_at_call 55; (with_reducible refine (HMA.out _ (Below.refl _ _)).mono ?_); rintro e w1 ⟨rfl, rfl⟩))
  first | go_end0 | ((try simp only [Exit.inBlock, Exit.then]); refine bodyPost_ret (results_none rfl _ _ _) rfl ?_)
  exact ⟨by first | rfl | simp [*], rfl⟩
set_option maxHeartbeats 8000000 in
set_option maxRecDepth 100000 in
theorem n_endiso (p : Value) (w : World) (HM : ∀ W : World, Below w.heap.size w W → Calls Try.prog 55 #[p] W fun e w' => e = .returned (.bool false) ∧ W = w') : Calls Try.prog 21 #[p] w fun e w' => e = .returned (.tuple #[]) ∧ w = w' := by
  have HMA := Aside0.mk HM
  clear HM
  go_enter Try.func21, Try.ntmps21
  go_wp2_with (first | (go_at_call 55; (with_reducible refine (HMA.out _ (Below.refl _ _)).mono ?_); rintro e w1 ⟨rfl, rfl⟩))
  first | go_end0 | ((try simp only [Exit.inBlock, Exit.then]); refine bodyPost_ret (results_none rfl _ _ _) rfl ?_)
  exact ⟨by first | rfl | simp [*], rfl⟩
set_option maxHeartbeats 8000000 in
set_option maxRecDepth 100000 in
theorem n_over (p : Value) (w : World) (HM : ∀ W : World, Below w.heap.size w W → Calls Try.prog 55 #[p] W fun e w' => e = .returned (.bool false) ∧ W = w') : Calls Try.prog 25 #[p] w fun e w' => e = .returned (.tuple #[.int .i64 0, .int .i64 0, .int .i64 0]) ∧ w = w' := by
  have HMA := Aside0.mk HM
  clear HM
  go_enter Try.func25, Try.ntmps25
  go_wp2_with (first | (go_at_call 55; (with_reducible refine (HMA.out _ (Below.refl _ _)).mono ?_); rintro e w1 ⟨rfl, rfl⟩))
  go_ret3
  exact ⟨by first | rfl | simp [*], rfl⟩
set_option maxHeartbeats 8000000 in
set_option maxRecDepth 100000 in
theorem n_pop (p : Value) (w : World) (HM : ∀ W : World, Below w.heap.size w W → Calls Try.prog 55 #[p] W fun e w' => e = .returned (.bool false) ∧ W = w') : Calls Try.prog 31 #[p] w fun e w' => e = .returned (.bool false) ∧ w = w' := by
  have HL := Aside0.mk (n_len p w HM)
  clear HM
  go_enter Try.func31, Try.ntmps31
  go_wp2_with (first | (go_at_call 17; (with_reducible refine (HL.out).mono ?_); rintro e w1 ⟨rfl, rfl⟩))
  go_ret
  exact ⟨by first | rfl | simp [*], rfl⟩
set_option maxHeartbeats 8000000 in
set_option maxRecDepth 100000 in
theorem n_top (p : Value) (w : World) (HM : ∀ W : World, Below w.heap.size w W → Calls Try.prog 55 #[p] W fun e w' => e = .returned (.bool false) ∧ W = w') : Calls Try.prog 16 #[p] w fun e w' => e = .returned (.agg #[.int .i64 0, .int .i64 13, .bool false]) ∧ Below w.heap.size w w' := by
  have HMA := Aside0.mk HM
  clear HM
  have he := Try.underlying28
  go_enter Try.func16, Try.ntmps16
  go_wp2_with (first | ((with_reducible refine gate_dst (N := 2) rfl ?_); refine box_event ?hg (N := 2) ?hd (cs := #[.int .i64 0, .int .i64 0, .bool false]) (t := 28) ?hr ?_; (case hd => rfl); (case hg => rfl); (case hr => first | (go_simp; done) | (go_simp; rfl)); intro g2 hg w1 hbox hb; have BX1 := Aside0.mk hbox; have HB2 := Aside0.mk hb; have HG2 := Aside0.mk (show w.heap.size ≤ g2 by omega); clear hg hbox hb) | (go_at_call 55; (with_reducible refine (HMA.out _ HB2.out).mono ?_); rintro e w2 ⟨rfl, rfl⟩; have hc0 := (blk_cell BX1.out 0).trans rfl; have hc1 := (blk_cell BX1.out 1).trans rfl; have hc2 := (blk_cell BX1.out 2).trans rfl; have hf0 := blk_frozen BX1.out 0; have hf1 := blk_frozen BX1.out 1; have hf2 := blk_frozen BX1.out 2))
  refine bodyPost_ret (results_cell_row rfl _ _ g2 28 #[.int .i64 0, .int .i64 13, .bool false] (0, 0) _ rfl (by refine blk_put (cs := #[.int .i64 0, .int .i64 13, .bool false]) ?_ 2 _ rfl; refine blk_put (cs := #[.int .i64 0, .int .i64 0, .bool false]) ?_ 1 _ rfl; refine blk_put (cs := #[.int .i64 0, .int .i64 0, .bool false]) ?_ 0 _ rfl; exact BX1.out) Try.underlying28 rfl (by kernel_rfl)) rfl ?_
  exact ⟨rfl, below_set (below_set (below_set HB2.out HG2.out) HG2.out) HG2.out⟩
set_option maxHeartbeats 8000000 in
set_option maxRecDepth 100000 in
theorem n_next (p : Value) (w : World) (HM : ∀ W : World, Below w.heap.size w W → Calls Try.prog 55 #[p] W fun e w' => e = .returned (.bool false) ∧ W = w') (right : Bool) : Calls Try.prog 28 #[p, .bool right] w fun e w' => e = .returned (.int .i64 (if right = true then 1 else 2)) ∧ Below w.heap.size w w' := by
  have HT := Aside0.mk (n_top p w HM)
  clear HM
  have hfl : ∀ W : World, (Instr.field 28 (.agg #[.int .i64 0, .int .i64 13, .bool false]) 0).run Try.prog W = .ok (.int .i64 0) W := fun W => by kernel_rfl
  cases right with
  | true =>
    go_enter Try.func28, Try.ntmps28
    go_wp2_with (first | (go_at_call 16; (with_reducible refine (HT.out).mono ?_); rintro e w2 ⟨rfl, hb2⟩; have HB := Aside0.mk hb2; clear hb2))
    go_ret
    exact ⟨by first | rfl | simp [*], HB.out⟩
  | false =>
    go_enter Try.func28, Try.ntmps28
    go_wp2_with (first | (go_at_call 16; (with_reducible refine (HT.out).mono ?_); rintro e w2 ⟨rfl, hb2⟩; have HB := Aside0.mk hb2; clear hb2))
    go_ret
    exact ⟨by first | rfl | simp [*], HB.out⟩
set_option maxHeartbeats 8000000 in
set_option maxRecDepth 100000 in
theorem n_push (p : Value) (w : World) (HM : ∀ W : World, Below w.heap.size w W → Calls Try.prog 55 #[p] W fun e w' => e = .returned (.bool false) ∧ W = w') (x0 x1 : Int) (x2 : Bool) : Calls Try.prog 30 #[p, .agg #[.int .i64 x0, .int .i64 x1, .bool x2]] w fun e w' => e = .returned (.bool false) ∧ Below w.heap.size w w' := by
  have HMA := Aside0.mk HM
  clear HM
  go_enter Try.func30, Try.ntmps30
  go_wp2_with (first | ((with_reducible refine gate_dst (N := 3) rfl ?_); refine box_event ?hg (N := 3) ?hd (cs := #[.int .i64 x0, .int .i64 x1, .bool x2]) (t := 28) ?hr ?_; (case hd => rfl); (case hg => rfl); (case hr => first | (go_simp; done) | (go_simp; rfl)); intro g3 hg w1 hbox hb; have HB := Aside0.mk hb; clear hg hbox hb))
  have HB1 := Aside0.mk (below_drew1 HB.out)
  refine start_ (n := 16) (S := fun _ => True) (ds := []) #[false, false, false, false, false, false, false, false, false, false, false, false, false, false, false, false] (by kernel_rfl) rfl rfl trivial (fun hHeld => ?_)
  generalize w1.drew = w3 at HB1 ⊢
  refine pure_ (i := 0) (N := some 5) (v := ?_) (a' := ?_) #[true, false, false, false, false, false, false, false, false, false, false, false, false, false, false, false] rfl rfl (by kernel_rfl) (fun _ _ _ h => h) (Or.inl ⟨by rfl, ?_⟩) ?_ ?_
  rotate_left
  · intro w'
    go_simp
    with_reducible rfl
  rotate_left
  · simp only [Act.put, List.setIfInBounds_toArray, List.set_cons_zero, List.set_cons_succ, i64_w, i32_w]
    rfl
  refine one_ (i := 1) (N := some 6) #[true, true, false, false, false, false, false, false, false, false, false, false, false, false, false, false] rfl rfl (by kernel_rfl) (by decide) (fun K hK => ?_)
  refine (goes_ Try.func55 (by kernel_rfl) rfl #[p] (by rfl) rfl rfl (by (try simp only [List.map_toArray, List.map_cons, List.map_nil]); first | done | rfl) ?_)
  (with_reducible refine (HMA.out _ HB1.out).mono ?_)
  rintro e w5 ⟨rfl, rfl⟩
  refine ⟨_, rfl, ?_⟩
  refine hK.out _ _ trivial (fun hHeld => ?_)
  clear hK K
  refine norm_ (a' := ?_) ?_ ?_
  rotate_left
  · show Act.put _ (some 6) _ = _
    simp only [Act.put, List.setIfInBounds_toArray, List.set_cons_zero, List.set_cons_succ, i64_w, i32_w]
    rfl
  refine pure_ (i := 2) (N := some 7) (v := ?_) (a' := ?_) #[true, true, true, false, false, false, false, false, false, false, false, false, false, false, false, false] rfl rfl (by kernel_rfl) (fun _ _ _ h => h) (Or.inl ⟨by rfl, ?_⟩) ?_ ?_
  rotate_left
  · intro w'
    go_simp
    with_reducible rfl
  rotate_left
  · simp only [Act.put, List.setIfInBounds_toArray, List.set_cons_zero, List.set_cons_succ, i64_w, i32_w]
    rfl
  refine pure_ (i := 3) (N := some 8) (v := ?_) (a' := ?_) #[true, true, true, true, false, false, false, false, false, false, false, false, false, false, false, false] rfl rfl (by kernel_rfl) (fun _ _ _ h => h) (Or.inl ⟨by rfl, ?_⟩) ?_ ?_
  rotate_left
  · intro w'
    go_simp
    with_reducible rfl
  rotate_left
  · simp only [Act.put, List.setIfInBounds_toArray, List.set_cons_zero, List.set_cons_succ, i64_w, i32_w]
    rfl
  refine pure_ (i := 4) (N := some 9) (v := undef) (a' := ?_) #[true, true, true, true, true, false, false, false, false, false, false, false, false, false, false, false] rfl rfl (by kernel_rfl) (fun _ _ _ h => h) (Or.inr ⟨by rfl, rfl⟩) ?_ ?_
  rotate_left
  · simp only [Act.put, List.setIfInBounds_toArray, List.set_cons_zero, List.set_cons_succ, i64_w, i32_w]
    rfl
  refine pure_ (i := 5) (N := some 10) (v := undef) (a' := ?_) #[true, true, true, true, true, true, false, false, false, false, false, false, false, false, false, false] rfl rfl (by kernel_rfl) (fun _ _ _ h => h) (Or.inr ⟨by rfl, rfl⟩) ?_ ?_
  rotate_left
  · simp only [Act.put, List.setIfInBounds_toArray, List.set_cons_zero, List.set_cons_succ, i64_w, i32_w]
    rfl
  refine pure_ (i := 6) (N := some 11) (v := undef) (a' := ?_) #[true, true, true, true, true, true, true, false, false, false, false, false, false, false, false, false] rfl rfl (by kernel_rfl) (fun _ _ _ h => h) (Or.inr ⟨by rfl, rfl⟩) ?_ ?_
  rotate_left
  · simp only [Act.put, List.setIfInBounds_toArray, List.set_cons_zero, List.set_cons_succ, i64_w, i32_w]
    rfl
  refine pure_ (i := 7) (N := some 12) (v := undef) (a' := ?_) #[true, true, true, true, true, true, true, true, false, false, false, false, false, false, false, false] rfl rfl (by kernel_rfl) (fun _ _ _ h => h) (Or.inr ⟨by rfl, rfl⟩) ?_ ?_
  rotate_left
  · simp only [Act.put, List.setIfInBounds_toArray, List.set_cons_zero, List.set_cons_succ, i64_w, i32_w]
    rfl
  refine pure_ (i := 8) (N := some 13) (v := undef) (a' := ?_) #[true, true, true, true, true, true, true, true, true, false, false, false, false, false, false, false] rfl rfl (by kernel_rfl) (fun _ _ _ h => h) (Or.inr ⟨by rfl, rfl⟩) ?_ ?_
  rotate_left
  · simp only [Act.put, List.setIfInBounds_toArray, List.set_cons_zero, List.set_cons_succ, i64_w, i32_w]
    rfl
  refine pure_ (i := 9) (N := some 14) (v := undef) (a' := ?_) #[true, true, true, true, true, true, true, true, true, true, false, false, false, false, false, false] rfl rfl (by kernel_rfl) (fun _ _ _ h => h) (Or.inr ⟨by rfl, rfl⟩) ?_ ?_
  rotate_left
  · simp only [Act.put, List.setIfInBounds_toArray, List.set_cons_zero, List.set_cons_succ, i64_w, i32_w]
    rfl
  refine pure_ (i := 10) (N := some 15) (v := ?_) (a' := ?_) #[true, true, true, true, true, true, true, true, true, true, true, false, false, false, false, false] rfl rfl (by kernel_rfl) (fun _ _ _ h => h) (Or.inl ⟨by rfl, ?_⟩) ?_ ?_
  rotate_left
  · intro w'
    go_simp
    with_reducible rfl
  rotate_left
  · simp only [Act.put, List.setIfInBounds_toArray, List.set_cons_zero, List.set_cons_succ, i64_w, i32_w]
    rfl
  refine pure_ (i := 11) (N := some 16) (v := ?_) (a' := ?_) #[true, true, true, true, true, true, true, true, true, true, true, true, false, false, false, false] rfl rfl (by kernel_rfl) (fun _ _ _ h => h) (Or.inl ⟨by rfl, ?_⟩) ?_ ?_
  rotate_left
  · intro w'
    go_simp
    with_reducible rfl
  rotate_left
  · simp only [Act.put, List.setIfInBounds_toArray, List.set_cons_zero, List.set_cons_succ, i64_w, i32_w]
    rfl
  refine pure_ (i := 12) (N := some 17) (v := undef) (a' := ?_) #[true, true, true, true, true, true, true, true, true, true, true, true, true, false, false, false] rfl rfl (by kernel_rfl) (fun _ _ _ h => h) (Or.inr ⟨by rfl, rfl⟩) ?_ ?_
  rotate_left
  · simp only [Act.put, List.setIfInBounds_toArray, List.set_cons_zero, List.set_cons_succ, i64_w, i32_w]
    rfl
  refine pure_ (i := 13) (N := some 18) (v := undef) (a' := ?_) #[true, true, true, true, true, true, true, true, true, true, true, true, true, true, false, false] rfl rfl (by kernel_rfl) (fun _ _ _ h => h) (Or.inr ⟨by rfl, rfl⟩) ?_ ?_
  rotate_left
  · simp only [Act.put, List.setIfInBounds_toArray, List.set_cons_zero, List.set_cons_succ, i64_w, i32_w]
    rfl
  refine pure_ (i := 14) (N := some 19) (v := undef) (a' := ?_) #[true, true, true, true, true, true, true, true, true, true, true, true, true, true, true, false] rfl rfl (by kernel_rfl) (fun _ _ _ h => h) (Or.inr ⟨by rfl, rfl⟩) ?_ ?_
  rotate_left
  · simp only [Act.put, List.setIfInBounds_toArray, List.set_cons_zero, List.set_cons_succ, i64_w, i32_w]
    rfl
  refine pure_ (i := 15) (N := some 20) (v := ?_) (a' := ?_) #[true, true, true, true, true, true, true, true, true, true, true, true, true, true, true, true] rfl rfl (by kernel_rfl) (fun _ _ _ h => h) (Or.inl ⟨by rfl, ?_⟩) ?_ ?_
  rotate_left
  · intro w'
    go_simp
    with_reducible rfl
  rotate_left
  · simp only [Act.put, List.setIfInBounds_toArray, List.set_cons_zero, List.set_cons_succ, i64_w, i32_w]
    rfl
  refine done_ (by kernel_rfl) ?_
  go_wp2
  go_ret
  exact ⟨by first | rfl | simp [*], HB1.out⟩
set_option maxHeartbeats 8000000 in
set_option maxRecDepth 100000 in
theorem made_nil (w : World) : ∀ W : World, Below w.heap.size w W → Calls Try.prog 55 #[.pointer none] W fun e w' => e = .returned (.bool false) ∧ W = w' := by
  intro W _
  go_enter Try.func55, Try.ntmps55
  go_wp2
  go_ret
  exact ⟨by first | rfl | simp [*], rfl⟩
theorem made_zero {w : World} {base g : Nat} {v : Value} {a b c : Int} (h : StkP w base g v a b c []) : ∀ W : World, Below w.heap.size w W → Calls Try.prog 55 #[.pointer (some ⟨g, 0, none⟩)] W fun e w' => e = .returned (.bool false) ∧ W = w' := fun W hb => p_made (show StkP W base g v a b c [] from stk_below h hb) false rfl
end Go.Proofs.Ytimkacnkmoofdaa.Stk
