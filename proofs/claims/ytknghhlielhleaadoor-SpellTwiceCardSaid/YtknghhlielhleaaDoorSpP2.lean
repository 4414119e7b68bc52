import Derived.Test.YtknghhlielhleaaDoorSpP1
namespace Go.Proofs.YtknghhlielhleaaDoor.Stk
open Go.RowKit Go.Proofs.YtknghhlielhleaaDoorW.PrintWords Go.Proofs.YtknghhlielhleaaDoorW.PrintLast Go.Proofs.YtknghhlielhleaaDoorW.PrintMore
attribute [local go_sem] max2_int min2_int max_two min_two max_three min_three max_four min_four   -- for this text's walks alone
set_option linter.unusedVariables false
set_option linter.unusedSimpArgs false
set_option maxHeartbeats 8000000 in
set_option maxRecDepth 100000 in
theorem p_fields (o : Nat) (w : World) (ho : o < w.heap.size) :
    Calls Tryd.prog 18 #[.pointer (some ⟨o, 0, none⟩)] w fun e w' => ∃ gA r, e = .returned (.slice (some ⟨gA, 0, none⟩) 14 14) ∧ FAt w' o gA r ∧ Below w.heap.size w w' ∧ w.heap.size ≤ gA := by
  have hu := Tryd.underlying49
  have hk := Tryd.underlying24
  go_enter Tryd.func18, Tryd.ntmps18
  go_wp2
  refine start_ (n := 62) (S := fun _ => True) (ds := []) #[false, false, false, false, false, false, false, false, false, false, false, false, false, false, false, false, false, false, false, false, false, false, false, false, false, false, false, false, false, false, false, false, false, false, false, false, false, false, false, false, false, false, false, false, false, false, false, false, false, false, false, false, false, false, false, false, false, false, false, false, false, false] (by kernel_rfl) rfl rfl trivial (fun hHeld => ?_)
  refine pure_ (i := 0) (N := some 3) (v := ?_) (a' := ?_) #[true, false, false, false, false, false, false, false, false, false, false, false, false, false, false, false, false, false, false, false, false, false, false, false, false, false, false, false, false, false, false, false, false, false, false, false, false, false, false, false, false, false, false, false, false, false, false, false, false, false, false, false, false, false, false, false, false, false, false, false, false, false] rfl rfl (by kernel_rfl) (fun _ _ _ h => h) (Or.inl ⟨by rfl, ?_⟩) ?_ ?_
  rotate_left
  · intro w'
    go_simp
    with_reducible rfl
  rotate_left
  · simp only [Act.put, List.setIfInBounds_toArray, List.set_cons_zero, List.set_cons_succ, i64_w, i32_w]
    rfl
  refine pure_ (i := 1) (N := some 4) (v := ?_) (a' := ?_) #[true, true, false, false, false, false, false, false, false, false, false, false, false, false, false, false, false, false, false, false, false, false, false, false, false, false, false, false, false, false, false, false, false, false, false, false, false, false, false, false, false, false, false, false, false, false, false, false, false, false, false, false, false, false, false, false, false, false, false, false, false, false] rfl rfl (by kernel_rfl) (fun _ _ _ h => h) (Or.inl ⟨by rfl, ?_⟩) ?_ ?_
  rotate_left
  · intro w'
    go_simp
    with_reducible rfl
  rotate_left
  · simp only [Act.put, List.setIfInBounds_toArray, List.set_cons_zero, List.set_cons_succ, i64_w, i32_w]
    rfl
  refine pure_ (i := 2) (N := some 5) (v := ?_) (a' := ?_) #[true, true, true, false, false, false, false, false, false, false, false, false, false, false, false, false, false, false, false, false, false, false, false, false, false, false, false, false, false, false, false, false, false, false, false, false, false, false, false, false, false, false, false, false, false, false, false, false, false, false, false, false, false, false, false, false, false, false, false, false, false, false] rfl rfl (by kernel_rfl) (fun _ _ _ h => h) (Or.inl ⟨by rfl, ?_⟩) ?_ ?_
  rotate_left
  · intro w'
    go_simp
    with_reducible rfl
  rotate_left
  · simp only [Act.put, List.setIfInBounds_toArray, List.set_cons_zero, List.set_cons_succ, i64_w, i32_w]
    rfl
  refine pure_ (i := 5) (N := some 8) (v := ?_) (a' := ?_) #[true, true, true, false, false, true, false, false, false, false, false, false, false, false, false, false, false, false, false, false, false, false, false, false, false, false, false, false, false, false, false, false, false, false, false, false, false, false, false, false, false, false, false, false, false, false, false, false, false, false, false, false, false, false, false, false, false, false, false, false, false, false] rfl rfl (by kernel_rfl) (fun _ _ _ h => h) (Or.inl ⟨by rfl, ?_⟩) ?_ ?_
  rotate_left
  · intro w'
    go_simp
    with_reducible rfl
  rotate_left
  · simp only [Act.put, List.setIfInBounds_toArray, List.set_cons_zero, List.set_cons_succ, i64_w, i32_w]
    rfl
  refine pure_ (i := 6) (N := some 9) (v := ?_) (a' := ?_) #[true, true, true, false, false, true, true, false, false, false, false, false, false, false, false, false, false, false, false, false, false, false, false, false, false, false, false, false, false, false, false, false, false, false, false, false, false, false, false, false, false, false, false, false, false, false, false, false, false, false, false, false, false, false, false, false, false, false, false, false, false, false] rfl rfl (by kernel_rfl) (fun _ _ _ h => h) (Or.inl ⟨by rfl, ?_⟩) ?_ ?_
  rotate_left
  · intro w'
    go_simp
    with_reducible rfl
  rotate_left
  · simp only [Act.put, List.setIfInBounds_toArray, List.set_cons_zero, List.set_cons_succ, i64_w, i32_w]
    rfl
  refine pure_ (i := 7) (N := some 10) (v := ?_) (a' := ?_) #[true, true, true, false, false, true, true, true, false, false, false, false, false, false, false, false, false, false, false, false, false, false, false, false, false, false, false, false, false, false, false, false, false, false, false, false, false, false, false, false, false, false, false, false, false, false, false, false, false, false, false, false, false, false, false, false, false, false, false, false, false, false] rfl rfl (by kernel_rfl) (fun _ _ _ h => h) (Or.inl ⟨by rfl, ?_⟩) ?_ ?_
  rotate_left
  · intro w'
    go_simp
    with_reducible rfl
  rotate_left
  · simp only [Act.put, List.setIfInBounds_toArray, List.set_cons_zero, List.set_cons_succ, i64_w, i32_w]
    rfl
  refine pure_ (i := 10) (N := some 13) (v := ?_) (a' := ?_) #[true, true, true, false, false, true, true, true, false, false, true, false, false, false, false, false, false, false, false, false, false, false, false, false, false, false, false, false, false, false, false, false, false, false, false, false, false, false, false, false, false, false, false, false, false, false, false, false, false, false, false, false, false, false, false, false, false, false, false, false, false, false] rfl rfl (by kernel_rfl) (fun _ _ _ h => h) (Or.inl ⟨by rfl, ?_⟩) ?_ ?_
  rotate_left
  · intro w'
    go_simp
    with_reducible rfl
  rotate_left
  · simp only [Act.put, List.setIfInBounds_toArray, List.set_cons_zero, List.set_cons_succ, i64_w, i32_w]
    rfl
  refine pure_ (i := 11) (N := some 14) (v := ?_) (a' := ?_) #[true, true, true, false, false, true, true, true, false, false, true, true, false, false, false, false, false, false, false, false, false, false, false, false, false, false, false, false, false, false, false, false, false, false, false, false, false, false, false, false, false, false, false, false, false, false, false, false, false, false, false, false, false, false, false, false, false, false, false, false, false, false] rfl rfl (by kernel_rfl) (fun _ _ _ h => h) (Or.inl ⟨by rfl, ?_⟩) ?_ ?_
  rotate_left
  · intro w'
    go_simp
    with_reducible rfl
  rotate_left
  · simp only [Act.put, List.setIfInBounds_toArray, List.set_cons_zero, List.set_cons_succ, i64_w, i32_w]
    rfl
  refine pure_ (i := 12) (N := some 15) (v := ?_) (a' := ?_) #[true, true, true, false, false, true, true, true, false, false, true, true, true, false, false, false, false, false, false, false, false, false, false, false, false, false, false, false, false, false, false, false, false, false, false, false, false, false, false, false, false, false, false, false, false, false, false, false, false, false, false, false, false, false, false, false, false, false, false, false, false, false] rfl rfl (by kernel_rfl) (fun _ _ _ h => h) (Or.inl ⟨by rfl, ?_⟩) ?_ ?_
  rotate_left
  · intro w'
    go_simp
    with_reducible rfl
  rotate_left
  · simp only [Act.put, List.setIfInBounds_toArray, List.set_cons_zero, List.set_cons_succ, i64_w, i32_w]
    rfl
  refine pure_ (i := 15) (N := some 18) (v := ?_) (a' := ?_) #[true, true, true, false, false, true, true, true, false, false, true, true, true, false, false, true, false, false, false, false, false, false, false, false, false, false, false, false, false, false, false, false, false, false, false, false, false, false, false, false, false, false, false, false, false, false, false, false, false, false, false, false, false, false, false, false, false, false, false, false, false, false] rfl rfl (by kernel_rfl) (fun _ _ _ h => h) (Or.inl ⟨by rfl, ?_⟩) ?_ ?_
  rotate_left
  · intro w'
    go_simp
    with_reducible rfl
  rotate_left
  · simp only [Act.put, List.setIfInBounds_toArray, List.set_cons_zero, List.set_cons_succ, i64_w, i32_w]
    rfl
  refine pure_ (i := 16) (N := some 19) (v := ?_) (a' := ?_) #[true, true, true, false, false, true, true, true, false, false, true, true, true, false, false, true, true, false, false, false, false, false, false, false, false, false, false, false, false, false, false, false, false, false, false, false, false, false, false, false, false, false, false, false, false, false, false, false, false, false, false, false, false, false, false, false, false, false, false, false, false, false] rfl rfl (by kernel_rfl) (fun _ _ _ h => h) (Or.inl ⟨by rfl, ?_⟩) ?_ ?_
  rotate_left
  · intro w'
    go_simp
    with_reducible rfl
  rotate_left
  · simp only [Act.put, List.setIfInBounds_toArray, List.set_cons_zero, List.set_cons_succ, i64_w, i32_w]
    rfl
  refine pure_ (i := 17) (N := some 20) (v := ?_) (a' := ?_) #[true, true, true, false, false, true, true, true, false, false, true, true, true, false, false, true, true, true, false, false, false, false, false, false, false, false, false, false, false, false, false, false, false, false, false, false, false, false, false, false, false, false, false, false, false, false, false, false, false, false, false, false, false, false, false, false, false, false, false, false, false, false] rfl rfl (by kernel_rfl) (fun _ _ _ h => h) (Or.inl ⟨by rfl, ?_⟩) ?_ ?_
  rotate_left
  · intro w'
    go_simp
    with_reducible rfl
  rotate_left
  · simp only [Act.put, List.setIfInBounds_toArray, List.set_cons_zero, List.set_cons_succ, i64_w, i32_w]
    rfl
  refine pure_ (i := 20) (N := some 23) (v := ?_) (a' := ?_) #[true, true, true, false, false, true, true, true, false, false, true, true, true, false, false, true, true, true, false, false, true, false, false, false, false, false, false, false, false, false, false, false, false, false, false, false, false, false, false, false, false, false, false, false, false, false, false, false, false, false, false, false, false, false, false, false, false, false, false, false, false, false] rfl rfl (by kernel_rfl) (fun _ _ _ h => h) (Or.inl ⟨by rfl, ?_⟩) ?_ ?_
  rotate_left
  · intro w'
    go_simp
    with_reducible rfl
  rotate_left
  · simp only [Act.put, List.setIfInBounds_toArray, List.set_cons_zero, List.set_cons_succ, i64_w, i32_w]
    rfl
  refine pure_ (i := 21) (N := some 24) (v := ?_) (a' := ?_) #[true, true, true, false, false, true, true, true, false, false, true, true, true, false, false, true, true, true, false, false, true, true, false, false, false, false, false, false, false, false, false, false, false, false, false, false, false, false, false, false, false, false, false, false, false, false, false, false, false, false, false, false, false, false, false, false, false, false, false, false, false, false] rfl rfl (by kernel_rfl) (fun _ _ _ h => h) (Or.inl ⟨by rfl, ?_⟩) ?_ ?_
  rotate_left
  · intro w'
    go_simp
    with_reducible rfl
  rotate_left
  · simp only [Act.put, List.setIfInBounds_toArray, List.set_cons_zero, List.set_cons_succ, i64_w, i32_w]
    rfl
  refine pure_ (i := 22) (N := some 25) (v := ?_) (a' := ?_) #[true, true, true, false, false, true, true, true, false, false, true, true, true, false, false, true, true, true, false, false, true, true, true, false, false, false, false, false, false, false, false, false, false, false, false, false, false, false, false, false, false, false, false, false, false, false, false, false, false, false, false, false, false, false, false, false, false, false, false, false, false, false] rfl rfl (by kernel_rfl) (fun _ _ _ h => h) (Or.inl ⟨by rfl, ?_⟩) ?_ ?_
  rotate_left
  · intro w'
    go_simp
    with_reducible rfl
  rotate_left
  · simp only [Act.put, List.setIfInBounds_toArray, List.set_cons_zero, List.set_cons_succ, i64_w, i32_w]
    rfl
  refine pure_ (i := 24) (N := some 27) (v := ?_) (a' := ?_) #[true, true, true, false, false, true, true, true, false, false, true, true, true, false, false, true, true, true, false, false, true, true, true, false, true, false, false, false, false, false, false, false, false, false, false, false, false, false, false, false, false, false, false, false, false, false, false, false, false, false, false, false, false, false, false, false, false, false, false, false, false, false] rfl rfl (by kernel_rfl) (fun _ _ _ h => h) (Or.inl ⟨by rfl, ?_⟩) ?_ ?_
  rotate_left
  · intro w'
    go_simp
    with_reducible rfl
  rotate_left
  · simp only [Act.put, List.setIfInBounds_toArray, List.set_cons_zero, List.set_cons_succ, i64_w, i32_w]
    rfl
  refine pure_ (i := 25) (N := some 28) (v := ?_) (a' := ?_) #[true, true, true, false, false, true, true, true, false, false, true, true, true, false, false, true, true, true, false, false, true, true, true, false, true, true, false, false, false, false, false, false, false, false, false, false, false, false, false, false, false, false, false, false, false, false, false, false, false, false, false, false, false, false, false, false, false, false, false, false, false, false] rfl rfl (by kernel_rfl) (fun _ _ _ h => h) (Or.inl ⟨by rfl, ?_⟩) ?_ ?_
  rotate_left
  · intro w'
    go_simp
    with_reducible rfl
  rotate_left
  · simp only [Act.put, List.setIfInBounds_toArray, List.set_cons_zero, List.set_cons_succ, i64_w, i32_w]
    rfl
  refine pure_ (i := 26) (N := some 29) (v := ?_) (a' := ?_) #[true, true, true, false, false, true, true, true, false, false, true, true, true, false, false, true, true, true, false, false, true, true, true, false, true, true, true, false, false, false, false, false, false, false, false, false, false, false, false, false, false, false, false, false, false, false, false, false, false, false, false, false, false, false, false, false, false, false, false, false, false, false] rfl rfl (by kernel_rfl) (fun _ _ _ h => h) (Or.inl ⟨by rfl, ?_⟩) ?_ ?_
  rotate_left
  · intro w'
    go_simp
    with_reducible rfl
  rotate_left
  · simp only [Act.put, List.setIfInBounds_toArray, List.set_cons_zero, List.set_cons_succ, i64_w, i32_w]
    rfl
  refine pure_ (i := 28) (N := some 31) (v := ?_) (a' := ?_) #[true, true, true, false, false, true, true, true, false, false, true, true, true, false, false, true, true, true, false, false, true, true, true, false, true, true, true, false, true, false, false, false, false, false, false, false, false, false, false, false, false, false, false, false, false, false, false, false, false, false, false, false, false, false, false, false, false, false, false, false, false, false] rfl rfl (by kernel_rfl) (fun _ _ _ h => h) (Or.inl ⟨by rfl, ?_⟩) ?_ ?_
  rotate_left
  · intro w'
    go_simp
    with_reducible rfl
  rotate_left
  · simp only [Act.put, List.setIfInBounds_toArray, List.set_cons_zero, List.set_cons_succ, i64_w, i32_w]
    rfl
  refine pure_ (i := 29) (N := some 32) (v := ?_) (a' := ?_) #[true, true, true, false, false, true, true, true, false, false, true, true, true, false, false, true, true, true, false, false, true, true, true, false, true, true, true, false, true, true, false, false, false, false, false, false, false, false, false, false, false, false, false, false, false, false, false, false, false, false, false, false, false, false, false, false, false, false, false, false, false, false] rfl rfl (by kernel_rfl) (fun _ _ _ h => h) (Or.inl ⟨by rfl, ?_⟩) ?_ ?_
  rotate_left
  · intro w'
    go_simp
    with_reducible rfl
  rotate_left
  · simp only [Act.put, List.setIfInBounds_toArray, List.set_cons_zero, List.set_cons_succ, i64_w, i32_w]
    rfl
  refine pure_ (i := 30) (N := some 33) (v := ?_) (a' := ?_) #[true, true, true, false, false, true, true, true, false, false, true, true, true, false, false, true, true, true, false, false, true, true, true, false, true, true, true, false, true, true, true, false, false, false, false, false, false, false, false, false, false, false, false, false, false, false, false, false, false, false, false, false, false, false, false, false, false, false, false, false, false, false] rfl rfl (by kernel_rfl) (fun _ _ _ h => h) (Or.inl ⟨by rfl, ?_⟩) ?_ ?_
  rotate_left
  · intro w'
    go_simp
    with_reducible rfl
  rotate_left
  · simp only [Act.put, List.setIfInBounds_toArray, List.set_cons_zero, List.set_cons_succ, i64_w, i32_w]
    rfl
  refine pure_ (i := 32) (N := some 35) (v := ?_) (a' := ?_) #[true, true, true, false, false, true, true, true, false, false, true, true, true, false, false, true, true, true, false, false, true, true, true, false, true, true, true, false, true, true, true, false, true, false, false, false, false, false, false, false, false, false, false, false, false, false, false, false, false, false, false, false, false, false, false, false, false, false, false, false, false, false] rfl rfl (by kernel_rfl) (fun _ _ _ h => h) (Or.inl ⟨by rfl, ?_⟩) ?_ ?_
  rotate_left
  · intro w'
    go_simp
    with_reducible rfl
  rotate_left
  · simp only [Act.put, List.setIfInBounds_toArray, List.set_cons_zero, List.set_cons_succ, i64_w, i32_w]
    rfl
  refine pure_ (i := 33) (N := some 36) (v := ?_) (a' := ?_) #[true, true, true, false, false, true, true, true, false, false, true, true, true, false, false, true, true, true, false, false, true, true, true, false, true, true, true, false, true, true, true, false, true, true, false, false, false, false, false, false, false, false, false, false, false, false, false, false, false, false, false, false, false, false, false, false, false, false, false, false, false, false] rfl rfl (by kernel_rfl) (fun _ _ _ h => h) (Or.inl ⟨by rfl, ?_⟩) ?_ ?_
  rotate_left
  · intro w'
    go_simp
    with_reducible rfl
  rotate_left
  · simp only [Act.put, List.setIfInBounds_toArray, List.set_cons_zero, List.set_cons_succ, i64_w, i32_w]
    rfl
  refine pure_ (i := 34) (N := some 37) (v := ?_) (a' := ?_) #[true, true, true, false, false, true, true, true, false, false, true, true, true, false, false, true, true, true, false, false, true, true, true, false, true, true, true, false, true, true, true, false, true, true, true, false, false, false, false, false, false, false, false, false, false, false, false, false, false, false, false, false, false, false, false, false, false, false, false, false, false, false] rfl rfl (by kernel_rfl) (fun _ _ _ h => h) (Or.inl ⟨by rfl, ?_⟩) ?_ ?_
  rotate_left
  · intro w'
    go_simp
    with_reducible rfl
  rotate_left
  · simp only [Act.put, List.setIfInBounds_toArray, List.set_cons_zero, List.set_cons_succ, i64_w, i32_w]
    rfl
  refine pure_ (i := 36) (N := some 39) (v := ?_) (a' := ?_) #[true, true, true, false, false, true, true, true, false, false, true, true, true, false, false, true, true, true, false, false, true, true, true, false, true, true, true, false, true, true, true, false, true, true, true, false, true, false, false, false, false, false, false, false, false, false, false, false, false, false, false, false, false, false, false, false, false, false, false, false, false, false] rfl rfl (by kernel_rfl) (fun _ _ _ h => h) (Or.inl ⟨by rfl, ?_⟩) ?_ ?_
  rotate_left
  · intro w'
    go_simp
    with_reducible rfl
  rotate_left
  · simp only [Act.put, List.setIfInBounds_toArray, List.set_cons_zero, List.set_cons_succ, i64_w, i32_w]
    rfl
  refine pure_ (i := 37) (N := some 40) (v := ?_) (a' := ?_) #[true, true, true, false, false, true, true, true, false, false, true, true, true, false, false, true, true, true, false, false, true, true, true, false, true, true, true, false, true, true, true, false, true, true, true, false, true, true, false, false, false, false, false, false, false, false, false, false, false, false, false, false, false, false, false, false, false, false, false, false, false, false] rfl rfl (by kernel_rfl) (fun _ _ _ h => h) (Or.inl ⟨by rfl, ?_⟩) ?_ ?_
  rotate_left
  · intro w'
    go_simp
    with_reducible rfl
  rotate_left
  · simp only [Act.put, List.setIfInBounds_toArray, List.set_cons_zero, List.set_cons_succ, i64_w, i32_w]
    rfl
  refine pure_ (i := 38) (N := some 41) (v := ?_) (a' := ?_) #[true, true, true, false, false, true, true, true, false, false, true, true, true, false, false, true, true, true, false, false, true, true, true, false, true, true, true, false, true, true, true, false, true, true, true, false, true, true, true, false, false, false, false, false, false, false, false, false, false, false, false, false, false, false, false, false, false, false, false, false, false, false] rfl rfl (by kernel_rfl) (fun _ _ _ h => h) (Or.inl ⟨by rfl, ?_⟩) ?_ ?_
  rotate_left
  · intro w'
    go_simp
    with_reducible rfl
  rotate_left
  · simp only [Act.put, List.setIfInBounds_toArray, List.set_cons_zero, List.set_cons_succ, i64_w, i32_w]
    rfl
  refine pure_ (i := 40) (N := some 43) (v := ?_) (a' := ?_) #[true, true, true, false, false, true, true, true, false, false, true, true, true, false, false, true, true, true, false, false, true, true, true, false, true, true, true, false, true, true, true, false, true, true, true, false, true, true, true, false, true, false, false, false, false, false, false, false, false, false, false, false, false, false, false, false, false, false, false, false, false, false] rfl rfl (by kernel_rfl) (fun _ _ _ h => h) (Or.inl ⟨by rfl, ?_⟩) ?_ ?_
  rotate_left
  · intro w'
    go_simp
    with_reducible rfl
  rotate_left
  · simp only [Act.put, List.setIfInBounds_toArray, List.set_cons_zero, List.set_cons_succ, i64_w, i32_w]
    rfl
  refine pure_ (i := 41) (N := some 44) (v := ?_) (a' := ?_) #[true, true, true, false, false, true, true, true, false, false, true, true, true, false, false, true, true, true, false, false, true, true, true, false, true, true, true, false, true, true, true, false, true, true, true, false, true, true, true, false, true, true, false, false, false, false, false, false, false, false, false, false, false, false, false, false, false, false, false, false, false, false] rfl rfl (by kernel_rfl) (fun _ _ _ h => h) (Or.inl ⟨by rfl, ?_⟩) ?_ ?_
  rotate_left
  · intro w'
    go_simp
    with_reducible rfl
  rotate_left
  · simp only [Act.put, List.setIfInBounds_toArray, List.set_cons_zero, List.set_cons_succ, i64_w, i32_w]
    rfl
  refine pure_ (i := 42) (N := some 45) (v := ?_) (a' := ?_) #[true, true, true, false, false, true, true, true, false, false, true, true, true, false, false, true, true, true, false, false, true, true, true, false, true, true, true, false, true, true, true, false, true, true, true, false, true, true, true, false, true, true, true, false, false, false, false, false, false, false, false, false, false, false, false, false, false, false, false, false, false, false] rfl rfl (by kernel_rfl) (fun _ _ _ h => h) (Or.inl ⟨by rfl, ?_⟩) ?_ ?_
  rotate_left
  · intro w'
    go_simp
    with_reducible rfl
  rotate_left
  · simp only [Act.put, List.setIfInBounds_toArray, List.set_cons_zero, List.set_cons_succ, i64_w, i32_w]
    rfl
  refine pure_ (i := 44) (N := some 47) (v := ?_) (a' := ?_) #[true, true, true, false, false, true, true, true, false, false, true, true, true, false, false, true, true, true, false, false, true, true, true, false, true, true, true, false, true, true, true, false, true, true, true, false, true, true, true, false, true, true, true, false, true, false, false, false, false, false, false, false, false, false, false, false, false, false, false, false, false, false] rfl rfl (by kernel_rfl) (fun _ _ _ h => h) (Or.inl ⟨by rfl, ?_⟩) ?_ ?_
  rotate_left
  · intro w'
    go_simp
    with_reducible rfl
  rotate_left
  · simp only [Act.put, List.setIfInBounds_toArray, List.set_cons_zero, List.set_cons_succ, i64_w, i32_w]
    rfl
  refine pure_ (i := 45) (N := some 48) (v := ?_) (a' := ?_) #[true, true, true, false, false, true, true, true, false, false, true, true, true, false, false, true, true, true, false, false, true, true, true, false, true, true, true, false, true, true, true, false, true, true, true, false, true, true, true, false, true, true, true, false, true, true, false, false, false, false, false, false, false, false, false, false, false, false, false, false, false, false] rfl rfl (by kernel_rfl) (fun _ _ _ h => h) (Or.inl ⟨by rfl, ?_⟩) ?_ ?_
  rotate_left
  · intro w'
    go_simp
    with_reducible rfl
  rotate_left
  · simp only [Act.put, List.setIfInBounds_toArray, List.set_cons_zero, List.set_cons_succ, i64_w, i32_w]
    rfl
  refine pure_ (i := 46) (N := some 49) (v := ?_) (a' := ?_) #[true, true, true, false, false, true, true, true, false, false, true, true, true, false, false, true, true, true, false, false, true, true, true, false, true, true, true, false, true, true, true, false, true, true, true, false, true, true, true, false, true, true, true, false, true, true, true, false, false, false, false, false, false, false, false, false, false, false, false, false, false, false] rfl rfl (by kernel_rfl) (fun _ _ _ h => h) (Or.inl ⟨by rfl, ?_⟩) ?_ ?_
  rotate_left
  · intro w'
    go_simp
    with_reducible rfl
  rotate_left
  · simp only [Act.put, List.setIfInBounds_toArray, List.set_cons_zero, List.set_cons_succ, i64_w, i32_w]
    rfl
  refine pure_ (i := 48) (N := some 51) (v := ?_) (a' := ?_) #[true, true, true, false, false, true, true, true, false, false, true, true, true, false, false, true, true, true, false, false, true, true, true, false, true, true, true, false, true, true, true, false, true, true, true, false, true, true, true, false, true, true, true, false, true, true, true, false, true, false, false, false, false, false, false, false, false, false, false, false, false, false] rfl rfl (by kernel_rfl) (fun _ _ _ h => h) (Or.inl ⟨by rfl, ?_⟩) ?_ ?_
  rotate_left
  · intro w'
    go_simp
    with_reducible rfl
  rotate_left
  · simp only [Act.put, List.setIfInBounds_toArray, List.set_cons_zero, List.set_cons_succ, i64_w, i32_w]
    rfl
  refine pure_ (i := 49) (N := some 52) (v := ?_) (a' := ?_) #[true, true, true, false, false, true, true, true, false, false, true, true, true, false, false, true, true, true, false, false, true, true, true, false, true, true, true, false, true, true, true, false, true, true, true, false, true, true, true, false, true, true, true, false, true, true, true, false, true, true, false, false, false, false, false, false, false, false, false, false, false, false] rfl rfl (by kernel_rfl) (fun _ _ _ h => h) (Or.inl ⟨by rfl, ?_⟩) ?_ ?_
  rotate_left
  · intro w'
    go_simp
    with_reducible rfl
  rotate_left
  · simp only [Act.put, List.setIfInBounds_toArray, List.set_cons_zero, List.set_cons_succ, i64_w, i32_w]
    rfl
  refine pure_ (i := 50) (N := some 53) (v := ?_) (a' := ?_) #[true, true, true, false, false, true, true, true, false, false, true, true, true, false, false, true, true, true, false, false, true, true, true, false, true, true, true, false, true, true, true, false, true, true, true, false, true, true, true, false, true, true, true, false, true, true, true, false, true, true, true, false, false, false, false, false, false, false, false, false, false, false] rfl rfl (by kernel_rfl) (fun _ _ _ h => h) (Or.inl ⟨by rfl, ?_⟩) ?_ ?_
  rotate_left
  · intro w'
    go_simp
    with_reducible rfl
  rotate_left
  · simp only [Act.put, List.setIfInBounds_toArray, List.set_cons_zero, List.set_cons_succ, i64_w, i32_w]
    rfl
  refine pure_ (i := 52) (N := some 55) (v := ?_) (a' := ?_) #[true, true, true, false, false, true, true, true, false, false, true, true, true, false, false, true, true, true, false, false, true, true, true, false, true, true, true, false, true, true, true, false, true, true, true, false, true, true, true, false, true, true, true, false, true, true, true, false, true, true, true, false, true, false, false, false, false, false, false, false, false, false] rfl rfl (by kernel_rfl) (fun _ _ _ h => h) (Or.inl ⟨by rfl, ?_⟩) ?_ ?_
  rotate_left
  · intro w'
    go_simp
    with_reducible rfl
  rotate_left
  · simp only [Act.put, List.setIfInBounds_toArray, List.set_cons_zero, List.set_cons_succ, i64_w, i32_w]
    rfl
  refine pure_ (i := 53) (N := some 56) (v := ?_) (a' := ?_) #[true, true, true, false, false, true, true, true, false, false, true, true, true, false, false, true, true, true, false, false, true, true, true, false, true, true, true, false, true, true, true, false, true, true, true, false, true, true, true, false, true, true, true, false, true, true, true, false, true, true, true, false, true, true, false, false, false, false, false, false, false, false] rfl rfl (by kernel_rfl) (fun _ _ _ h => h) (Or.inl ⟨by rfl, ?_⟩) ?_ ?_
  rotate_left
  · intro w'
    go_simp
    with_reducible rfl
  rotate_left
  · simp only [Act.put, List.setIfInBounds_toArray, List.set_cons_zero, List.set_cons_succ, i64_w, i32_w]
    rfl
  refine pure_ (i := 54) (N := some 57) (v := ?_) (a' := ?_) #[true, true, true, false, false, true, true, true, false, false, true, true, true, false, false, true, true, true, false, false, true, true, true, false, true, true, true, false, true, true, true, false, true, true, true, false, true, true, true, false, true, true, true, false, true, true, true, false, true, true, true, false, true, true, true, false, false, false, false, false, false, false] rfl rfl (by kernel_rfl) (fun _ _ _ h => h) (Or.inl ⟨by rfl, ?_⟩) ?_ ?_
  rotate_left
  · intro w'
    go_simp
    with_reducible rfl
  rotate_left
  · simp only [Act.put, List.setIfInBounds_toArray, List.set_cons_zero, List.set_cons_succ, i64_w, i32_w]
    rfl
  refine pure_ (i := 56) (N := some 59) (v := ?_) (a' := ?_) #[true, true, true, false, false, true, true, true, false, false, true, true, true, false, false, true, true, true, false, false, true, true, true, false, true, true, true, false, true, true, true, false, true, true, true, false, true, true, true, false, true, true, true, false, true, true, true, false, true, true, true, false, true, true, true, false, true, false, false, false, false, false] rfl rfl (by kernel_rfl) (fun _ _ _ h => h) (Or.inl ⟨by rfl, ?_⟩) ?_ ?_
  rotate_left
  · intro w'
    go_simp
    with_reducible rfl
  rotate_left
  · simp only [Act.put, List.setIfInBounds_toArray, List.set_cons_zero, List.set_cons_succ, i64_w, i32_w]
    rfl
  refine pure_ (i := 57) (N := some 60) (v := ?_) (a' := ?_) #[true, true, true, false, false, true, true, true, false, false, true, true, true, false, false, true, true, true, false, false, true, true, true, false, true, true, true, false, true, true, true, false, true, true, true, false, true, true, true, false, true, true, true, false, true, true, true, false, true, true, true, false, true, true, true, false, true, true, false, false, false, false] rfl rfl (by kernel_rfl) (fun _ _ _ h => h) (Or.inl ⟨by rfl, ?_⟩) ?_ ?_
  rotate_left
  · intro w'
    go_simp
    with_reducible rfl
  rotate_left
  · simp only [Act.put, List.setIfInBounds_toArray, List.set_cons_zero, List.set_cons_succ, i64_w, i32_w]
    rfl
  refine pure_ (i := 58) (N := some 61) (v := ?_) (a' := ?_) #[true, true, true, false, false, true, true, true, false, false, true, true, true, false, false, true, true, true, false, false, true, true, true, false, true, true, true, false, true, true, true, false, true, true, true, false, true, true, true, false, true, true, true, false, true, true, true, false, true, true, true, false, true, true, true, false, true, true, true, false, false, false] rfl rfl (by kernel_rfl) (fun _ _ _ h => h) (Or.inl ⟨by rfl, ?_⟩) ?_ ?_
  rotate_left
  · intro w'
    go_simp
    with_reducible rfl
  rotate_left
  · simp only [Act.put, List.setIfInBounds_toArray, List.set_cons_zero, List.set_cons_succ, i64_w, i32_w]
    rfl
  refine join_ (σ := Nat × Nat × Nat × Nat) 12 #[true, true, true, true, true, true, true, true, true, true, true, true, true, true, true, true, true, true, true, true, true, true, true, false, true, true, true, false, true, true, true, false, true, true, true, false, true, true, true, false, true, true, true, false, true, true, true, false, true, true, true, false, true, true, true, false, true, true, true, false, false, false] (fun | (g0, g1, g2, g3) => [(6, .slice (some ⟨g0, 0, none⟩) 4 4), (11, .slice (some ⟨g1, 0, none⟩) 4 4), (16, .slice (some ⟨g2, 0, none⟩) 4 4), (21, .slice (some ⟨g3, 0, none⟩) 4 4), (7, .agg #[.slice (some ⟨g0, 0, none⟩) 4 4, .pointer (some ⟨o, 0, none⟩), .pointer none, .int .i64 0]), (12, .agg #[.slice (some ⟨g1, 0, none⟩) 4 4, .pointer (some ⟨o, 1, none⟩), .pointer none, .int .i64 1]), (17, .agg #[.slice (some ⟨g2, 0, none⟩) 4 4, .pointer (some ⟨o, 2, none⟩), .pointer none, .int .i64 1]), (22, .agg #[.slice (some ⟨g3, 0, none⟩) 4 4, .pointer (some ⟨o, 3, none⟩), .pointer none, .int .i64 1])]) (fun s w' => match s with | (g0, g1, g2, g3) => Below w.heap.size w w' ∧ w'.heap[g0]? = some (.cells (wcells 0) 9 (0, 0)) ∧ w.heap.size ≤ g0 ∧ w'.heap[g1]? = some (.cells (wcells 1) 9 (0, 0)) ∧ w.heap.size ≤ g1 ∧ w'.heap[g2]? = some (.cells (wcells 2) 9 (0, 0)) ∧ w.heap.size ≤ g2 ∧ w'.heap[g3]? = some (.cells (wcells 3) 9 (0, 0)) ∧ w.heap.size ≤ g3) ?_ (fun st0123_4 => ?_)
  · rintro ⟨g0, g1, g2, g3⟩ w1 hF
    obtain ⟨hB, h0, l0, h1, l1, h2, l2, h3, l3⟩ := hF
    refine norm_ (a' := ?_) ?_ ?_
    rotate_left
    · simp only [putAll, Act.put, List.setIfInBounds_toArray, List.set_cons_zero, List.set_cons_succ]
      rfl
    refine one_ (i := 23) (N := some 26) #[true, true, true, true, true, true, true, true, true, true, true, true, true, true, true, true, true, true, true, true, true, true, true, true, true, true, true, false, true, true, true, false, true, true, true, false, true, true, true, false, true, true, true, false, true, true, true, false, true, true, true, false, true, true, true, false, true, true, true, false, false, false] rfl rfl (by kernel_rfl) (by decide) (fun K hK => ?_)
    refine (goes_ Tryd.func33 (by kernel_rfl) rfl #[.pointer (some ⟨o, 4, none⟩), .string ⟨#[101, 97, 115, 116, 101, 114, 110]⟩] (by rfl) rfl rfl (by (try simp only [List.map_toArray, List.map_cons, List.map_nil]); first | done | rfl) ?_)
    refine (p_flagged _ _ _).mono ?_
    rintro e w2 ⟨g4, rfl, hb, l4, h4⟩
    refine ⟨_, rfl, ?_⟩
    replace l4 := Nat.le_trans hB.size l4
    replace hB := below_then hB hB.size hb
    replace h0 := blk_below h0 hb
    replace h1 := blk_below h1 hb
    replace h2 := blk_below h2 hb
    replace h3 := blk_below h3 hb
    refine hK.out _ _ trivial (fun _ => ?_)
    clear hK K hb
    refine norm_ (a' := ?_) ?_ ?_
    rotate_left
    · show Act.put _ (some 26) _ = _
      simp only [putAll, Act.put, List.setIfInBounds_toArray, List.set_cons_zero, List.set_cons_succ]
      rfl
    refine one_ (i := 27) (N := some 30) #[true, true, true, true, true, true, true, true, true, true, true, true, true, true, true, true, true, true, true, true, true, true, true, true, true, true, true, true, true, true, true, false, true, true, true, false, true, true, true, false, true, true, true, false, true, true, true, false, true, true, true, false, true, true, true, false, true, true, true, false, false, false] rfl rfl (by kernel_rfl) (by decide) (fun K hK => ?_)
    refine (goes_ Tryd.func33 (by kernel_rfl) rfl #[.pointer (some ⟨o, 5, none⟩), .string ⟨#[108, 101, 116, 116, 101, 114, 115]⟩] (by rfl) rfl rfl (by (try simp only [List.map_toArray, List.map_cons, List.map_nil]); first | done | rfl) ?_)
    refine (p_flagged _ _ _).mono ?_
    rintro e w2 ⟨g5, rfl, hb, l5, h5⟩
    refine ⟨_, rfl, ?_⟩
    replace l5 := Nat.le_trans hB.size l5
    replace hB := below_then hB hB.size hb
    replace h0 := blk_below h0 hb
    replace h1 := blk_below h1 hb
    replace h2 := blk_below h2 hb
    replace h3 := blk_below h3 hb
    replace h4 := blk_below h4 hb
    refine hK.out _ _ trivial (fun _ => ?_)
    clear hK K hb
    refine norm_ (a' := ?_) ?_ ?_
    rotate_left
    · show Act.put _ (some 30) _ = _
      simp only [putAll, Act.put, List.setIfInBounds_toArray, List.set_cons_zero, List.set_cons_succ]
      rfl
    refine one_ (i := 31) (N := some 34) #[true, true, true, true, true, true, true, true, true, true, true, true, true, true, true, true, true, true, true, true, true, true, true, true, true, true, true, true, true, true, true, true, true, true, true, false, true, true, true, false, true, true, true, false, true, true, true, false, true, true, true, false, true, true, true, false, true, true, true, false, false, false] rfl rfl (by kernel_rfl) (by decide) (fun K hK => ?_)
    refine (goes_ Tryd.func33 (by kernel_rfl) rfl #[.pointer (some ⟨o, 6, none⟩), .string ⟨#[116, 104, 114, 111, 117, 103, 104]⟩] (by rfl) rfl rfl (by (try simp only [List.map_toArray, List.map_cons, List.map_nil]); first | done | rfl) ?_)
    refine (p_flagged _ _ _).mono ?_
    rintro e w2 ⟨g6, rfl, hb, l6, h6⟩
    refine ⟨_, rfl, ?_⟩
    replace l6 := Nat.le_trans hB.size l6
    replace hB := below_then hB hB.size hb
    replace h0 := blk_below h0 hb
    replace h1 := blk_below h1 hb
    replace h2 := blk_below h2 hb
    replace h3 := blk_below h3 hb
    replace h4 := blk_below h4 hb
    replace h5 := blk_below h5 hb
    refine hK.out _ _ trivial (fun _ => ?_)
    clear hK K hb
    refine norm_ (a' := ?_) ?_ ?_
    rotate_left
    · show Act.put _ (some 34) _ = _
      simp only [putAll, Act.put, List.setIfInBounds_toArray, List.set_cons_zero, List.set_cons_succ]
      rfl
    refine one_ (i := 35) (N := some 38) #[true, true, true, true, true, true, true, true, true, true, true, true, true, true, true, true, true, true, true, true, true, true, true, true, true, true, true, true, true, true, true, true, true, true, true, true, true, true, true, false, true, true, true, false, true, true, true, false, true, true, true, false, true, true, true, false, true, true, true, false, false, false] rfl rfl (by kernel_rfl) (by decide) (fun K hK => ?_)
    refine (goes_ Tryd.func33 (by kernel_rfl) rfl #[.pointer (some ⟨o, 7, none⟩), .string ⟨#[112, 105, 108, 101]⟩] (by rfl) rfl rfl (by (try simp only [List.map_toArray, List.map_cons, List.map_nil]); first | done | rfl) ?_)
    refine (p_flagged _ _ _).mono ?_
    rintro e w2 ⟨g7, rfl, hb, l7, h7⟩
    refine ⟨_, rfl, ?_⟩
    replace l7 := Nat.le_trans hB.size l7
    replace hB := below_then hB hB.size hb
    replace h0 := blk_below h0 hb
    replace h1 := blk_below h1 hb
    replace h2 := blk_below h2 hb
    replace h3 := blk_below h3 hb
    replace h4 := blk_below h4 hb
    replace h5 := blk_below h5 hb
    replace h6 := blk_below h6 hb
    refine hK.out _ _ trivial (fun _ => ?_)
    clear hK K hb
    refine norm_ (a' := ?_) ?_ ?_
    rotate_left
    · show Act.put _ (some 38) _ = _
      simp only [putAll, Act.put, List.setIfInBounds_toArray, List.set_cons_zero, List.set_cons_succ]
      rfl
    refine one_ (i := 39) (N := some 42) #[true, true, true, true, true, true, true, true, true, true, true, true, true, true, true, true, true, true, true, true, true, true, true, true, true, true, true, true, true, true, true, true, true, true, true, true, true, true, true, true, true, true, true, false, true, true, true, false, true, true, true, false, true, true, true, false, true, true, true, false, false, false] rfl rfl (by kernel_rfl) (by decide) (fun K hK => ?_)
    refine (goes_ Tryd.func33 (by kernel_rfl) rfl #[.pointer (some ⟨o, 8, none⟩), .string ⟨#[115, 101, 101, 110]⟩] (by rfl) rfl rfl (by (try simp only [List.map_toArray, List.map_cons, List.map_nil]); first | done | rfl) ?_)
    refine (p_flagged _ _ _).mono ?_
    rintro e w2 ⟨g8, rfl, hb, l8, h8⟩
    refine ⟨_, rfl, ?_⟩
    replace l8 := Nat.le_trans hB.size l8
    replace hB := below_then hB hB.size hb
    replace h0 := blk_below h0 hb
    replace h1 := blk_below h1 hb
    replace h2 := blk_below h2 hb
    replace h3 := blk_below h3 hb
    replace h4 := blk_below h4 hb
    replace h5 := blk_below h5 hb
    replace h6 := blk_below h6 hb
    replace h7 := blk_below h7 hb
    refine hK.out _ _ trivial (fun _ => ?_)
    clear hK K hb
    refine norm_ (a' := ?_) ?_ ?_
    rotate_left
    · show Act.put _ (some 42) _ = _
      simp only [putAll, Act.put, List.setIfInBounds_toArray, List.set_cons_zero, List.set_cons_succ]
      rfl
    refine one_ (i := 43) (N := some 46) #[true, true, true, true, true, true, true, true, true, true, true, true, true, true, true, true, true, true, true, true, true, true, true, true, true, true, true, true, true, true, true, true, true, true, true, true, true, true, true, true, true, true, true, true, true, true, true, false, true, true, true, false, true, true, true, false, true, true, true, false, false, false] rfl rfl (by kernel_rfl) (by decide) (fun K hK => ?_)
    refine (goes_ Tryd.func33 (by kernel_rfl) rfl #[.pointer (some ⟨o, 9, none⟩), .string ⟨#[121, 101, 104]⟩] (by rfl) rfl rfl (by (try simp only [List.map_toArray, List.map_cons, List.map_nil]); first | done | rfl) ?_)
    refine (p_flagged _ _ _).mono ?_
    rintro e w2 ⟨g9, rfl, hb, l9, h9⟩
    refine ⟨_, rfl, ?_⟩
    replace l9 := Nat.le_trans hB.size l9
    replace hB := below_then hB hB.size hb
    replace h0 := blk_below h0 hb
    replace h1 := blk_below h1 hb
    replace h2 := blk_below h2 hb
    replace h3 := blk_below h3 hb
    replace h4 := blk_below h4 hb
    replace h5 := blk_below h5 hb
    replace h6 := blk_below h6 hb
    replace h7 := blk_below h7 hb
    replace h8 := blk_below h8 hb
    refine hK.out _ _ trivial (fun _ => ?_)
    clear hK K hb
    refine norm_ (a' := ?_) ?_ ?_
    rotate_left
    · show Act.put _ (some 46) _ = _
      simp only [putAll, Act.put, List.setIfInBounds_toArray, List.set_cons_zero, List.set_cons_succ]
      rfl
    refine one_ (i := 47) (N := some 50) #[true, true, true, true, true, true, true, true, true, true, true, true, true, true, true, true, true, true, true, true, true, true, true, true, true, true, true, true, true, true, true, true, true, true, true, true, true, true, true, true, true, true, true, true, true, true, true, true, true, true, true, false, true, true, true, false, true, true, true, false, false, false] rfl rfl (by kernel_rfl) (by decide) (fun K hK => ?_)
    refine (goes_ Tryd.func33 (by kernel_rfl) rfl #[.pointer (some ⟨o, 10, none⟩), .string ⟨#[114, 101, 111, 114, 100, 101, 114]⟩] (by rfl) rfl rfl (by (try simp only [List.map_toArray, List.map_cons, List.map_nil]); first | done | rfl) ?_)
    refine (p_flagged _ _ _).mono ?_
    rintro e w2 ⟨g10, rfl, hb, l10, h10⟩
    refine ⟨_, rfl, ?_⟩
    replace l10 := Nat.le_trans hB.size l10
    replace hB := below_then hB hB.size hb
    replace h0 := blk_below h0 hb
    replace h1 := blk_below h1 hb
    replace h2 := blk_below h2 hb
    replace h3 := blk_below h3 hb
    replace h4 := blk_below h4 hb
    replace h5 := blk_below h5 hb
    replace h6 := blk_below h6 hb
    replace h7 := blk_below h7 hb
    replace h8 := blk_below h8 hb
    replace h9 := blk_below h9 hb
    refine hK.out _ _ trivial (fun _ => ?_)
    clear hK K hb
    refine norm_ (a' := ?_) ?_ ?_
    rotate_left
    · show Act.put _ (some 50) _ = _
      simp only [putAll, Act.put, List.setIfInBounds_toArray, List.set_cons_zero, List.set_cons_succ]
      rfl
    refine one_ (i := 51) (N := some 54) #[true, true, true, true, true, true, true, true, true, true, true, true, true, true, true, true, true, true, true, true, true, true, true, true, true, true, true, true, true, true, true, true, true, true, true, true, true, true, true, true, true, true, true, true, true, true, true, true, true, true, true, true, true, true, true, false, true, true, true, false, false, false] rfl rfl (by kernel_rfl) (by decide) (fun K hK => ?_)
    refine (goes_ Tryd.func33 (by kernel_rfl) rfl #[.pointer (some ⟨o, 11, none⟩), .string ⟨#[109, 97, 114, 107, 115]⟩] (by rfl) rfl rfl (by (try simp only [List.map_toArray, List.map_cons, List.map_nil]); first | done | rfl) ?_)
    refine (p_flagged _ _ _).mono ?_
    rintro e w2 ⟨g11, rfl, hb, l11, h11⟩
    refine ⟨_, rfl, ?_⟩
    replace l11 := Nat.le_trans hB.size l11
    replace hB := below_then hB hB.size hb
    replace h0 := blk_below h0 hb
    replace h1 := blk_below h1 hb
    replace h2 := blk_below h2 hb
    replace h3 := blk_below h3 hb
    replace h4 := blk_below h4 hb
    replace h5 := blk_below h5 hb
    replace h6 := blk_below h6 hb
    replace h7 := blk_below h7 hb
    replace h8 := blk_below h8 hb
    replace h9 := blk_below h9 hb
    replace h10 := blk_below h10 hb
    refine hK.out _ _ trivial (fun _ => ?_)
    clear hK K hb
    refine norm_ (a' := ?_) ?_ ?_
    rotate_left
    · show Act.put _ (some 54) _ = _
      simp only [putAll, Act.put, List.setIfInBounds_toArray, List.set_cons_zero, List.set_cons_succ]
      rfl
    refine one_ (i := 55) (N := some 58) #[true, true, true, true, true, true, true, true, true, true, true, true, true, true, true, true, true, true, true, true, true, true, true, true, true, true, true, true, true, true, true, true, true, true, true, true, true, true, true, true, true, true, true, true, true, true, true, true, true, true, true, true, true, true, true, true, true, true, true, false, false, false] rfl rfl (by kernel_rfl) (by decide) (fun K hK => ?_)
    refine (goes_ Tryd.func33 (by kernel_rfl) rfl #[.pointer (some ⟨o, 12, none⟩), .string ⟨#[109, 105, 114, 114, 111, 114]⟩] (by rfl) rfl rfl (by (try simp only [List.map_toArray, List.map_cons, List.map_nil]); first | done | rfl) ?_)
    refine (p_flagged _ _ _).mono ?_
    rintro e w2 ⟨g12, rfl, hb, l12, h12⟩
    refine ⟨_, rfl, ?_⟩
    replace l12 := Nat.le_trans hB.size l12
    replace hB := below_then hB hB.size hb
    replace h0 := blk_below h0 hb
    replace h1 := blk_below h1 hb
    replace h2 := blk_below h2 hb
    replace h3 := blk_below h3 hb
    replace h4 := blk_below h4 hb
    replace h5 := blk_below h5 hb
    replace h6 := blk_below h6 hb
    replace h7 := blk_below h7 hb
    replace h8 := blk_below h8 hb
    replace h9 := blk_below h9 hb
    replace h10 := blk_below h10 hb
    replace h11 := blk_below h11 hb
    refine hK.out _ _ trivial (fun _ => ?_)
    clear hK K hb
    refine norm_ (a' := ?_) ?_ ?_
    rotate_left
    · show Act.put _ (some 58) _ = _
      simp only [putAll, Act.put, List.setIfInBounds_toArray, List.set_cons_zero, List.set_cons_succ]
      rfl
    refine one_ (i := 59) (N := some 62) #[true, true, true, true, true, true, true, true, true, true, true, true, true, true, true, true, true, true, true, true, true, true, true, true, true, true, true, true, true, true, true, true, true, true, true, true, true, true, true, true, true, true, true, true, true, true, true, true, true, true, true, true, true, true, true, true, true, true, true, true, false, false] rfl rfl (by kernel_rfl) (by decide) (fun K hK => ?_)
    refine (goes_ Tryd.func33 (by kernel_rfl) rfl #[.pointer (some ⟨o, 13, none⟩), .string ⟨#[115, 116, 114, 105, 112]⟩] (by rfl) rfl rfl (by (try simp only [List.map_toArray, List.map_cons, List.map_nil]); first | done | rfl) ?_)
    refine (p_flagged _ _ _).mono ?_
    rintro e w2 ⟨g13, rfl, hb, l13, h13⟩
    refine ⟨_, rfl, ?_⟩
    replace l13 := Nat.le_trans hB.size l13
    replace hB := below_then hB hB.size hb
    replace h0 := blk_below h0 hb
    replace h1 := blk_below h1 hb
    replace h2 := blk_below h2 hb
    replace h3 := blk_below h3 hb
    replace h4 := blk_below h4 hb
    replace h5 := blk_below h5 hb
    replace h6 := blk_below h6 hb
    replace h7 := blk_below h7 hb
    replace h8 := blk_below h8 hb
    replace h9 := blk_below h9 hb
    replace h10 := blk_below h10 hb
    replace h11 := blk_below h11 hb
    replace h12 := blk_below h12 hb
    refine hK.out _ _ trivial (fun _ => ?_)
    clear hK K hb
    refine norm_ (a' := ?_) ?_ ?_
    rotate_left
    · show Act.put _ (some 62) _ = _
      simp only [putAll, Act.put, List.setIfInBounds_toArray, List.set_cons_zero, List.set_cons_succ]
      rfl
    refine one_ (i := 60) (N := some 63) #[true, true, true, true, true, true, true, true, true, true, true, true, true, true, true, true, true, true, true, true, true, true, true, true, true, true, true, true, true, true, true, true, true, true, true, true, true, true, true, true, true, true, true, true, true, true, true, true, true, true, true, true, true, true, true, true, true, true, true, true, true, false] rfl rfl (by kernel_rfl) (by decide) (fun K hK => ?_)
    go_simp
    refine hK.out _ _ trivial (fun _ => ?_)
    clear hK K
    refine pure_ (i := 61) (N := some 2) (v := ?_) (a' := ?_) #[true, true, true, true, true, true, true, true, true, true, true, true, true, true, true, true, true, true, true, true, true, true, true, true, true, true, true, true, true, true, true, true, true, true, true, true, true, true, true, true, true, true, true, true, true, true, true, true, true, true, true, true, true, true, true, true, true, true, true, true, true, true] rfl rfl (by kernel_rfl) (fun _ _ _ h => h) (Or.inl ⟨by rfl, ?_⟩) ?_ ?_
    rotate_left
    · intro w'
      go_simp
      with_reducible rfl
    rotate_left
    · simp only [putAll, Act.put, List.setIfInBounds_toArray, List.set_cons_zero, List.set_cons_succ]
      rfl
    refine done_ (by kernel_rfl) ?_
    go_wp2
    go_ret
    refine ⟨_, fun i => [g0, g1, g2, g3, g4, g5, g6, g7, g8, g9, g10, g11, g12, g13].getD i 0, rfl, ⟨blk_new _ _, fun i hi => ?_, by have := hB.size; omega, fun i hi => ?_⟩, below_alloc hB _, hB.size⟩
    · obtain rfl | rfl | rfl | rfl | rfl | rfl | rfl | rfl | rfl | rfl | rfl | rfl | rfl | rfl : i = 0 ∨ i = 1 ∨ i = 2 ∨ i = 3 ∨ i = 4 ∨ i = 5 ∨ i = 6 ∨ i = 7 ∨ i = 8 ∨ i = 9 ∨ i = 10 ∨ i = 11 ∨ i = 12 ∨ i = 13 := by omega
      · exact blk_alloc h0 _
      · exact blk_alloc h1 _
      · exact blk_alloc h2 _
      · exact blk_alloc h3 _
      · exact blk_alloc h4 _
      · exact blk_alloc h5 _
      · exact blk_alloc h6 _
      · exact blk_alloc h7 _
      · exact blk_alloc h8 _
      · exact blk_alloc h9 _
      · exact blk_alloc h10 _
      · exact blk_alloc h11 _
      · exact blk_alloc h12 _
      · exact blk_alloc h13 _
    · obtain rfl | rfl | rfl | rfl | rfl | rfl | rfl | rfl | rfl | rfl | rfl | rfl | rfl | rfl : i = 0 ∨ i = 1 ∨ i = 2 ∨ i = 3 ∨ i = 4 ∨ i = 5 ∨ i = 6 ∨ i = 7 ∨ i = 8 ∨ i = 9 ∨ i = 10 ∨ i = 11 ∨ i = 12 ∨ i = 13 := by omega
      · exact Nat.lt_of_lt_of_le ho l0
      · exact Nat.lt_of_lt_of_le ho l1
      · exact Nat.lt_of_lt_of_le ho l2
      · exact Nat.lt_of_lt_of_le ho l3
      · exact Nat.lt_of_lt_of_le ho l4
      · exact Nat.lt_of_lt_of_le ho l5
      · exact Nat.lt_of_lt_of_le ho l6
      · exact Nat.lt_of_lt_of_le ho l7
      · exact Nat.lt_of_lt_of_le ho l8
      · exact Nat.lt_of_lt_of_le ho l9
      · exact Nat.lt_of_lt_of_le ho l10
      · exact Nat.lt_of_lt_of_le ho l11
      · exact Nat.lt_of_lt_of_le ho l12
      · exact Nat.lt_of_lt_of_le ho l13
  refine join_ (σ := Nat × Nat × Nat × Nat) 13 #[true, true, true, true, true, true, true, true, true, true, true, true, true, true, true, true, true, true, true, false, true, true, true, false, true, true, true, false, true, true, true, false, true, true, true, false, true, true, true, false, true, true, true, false, true, true, true, false, true, true, true, false, true, true, true, false, true, true, true, false, false, false] (fun | (g0, g1, g2, g3) => [(6, .slice (some ⟨g0, 0, none⟩) 4 4), (11, .slice (some ⟨g1, 0, none⟩) 4 4), (16, .slice (some ⟨g2, 0, none⟩) 4 4), (21, .slice (some ⟨g3, 0, none⟩) 4 4), (7, .agg #[.slice (some ⟨g0, 0, none⟩) 4 4, .pointer (some ⟨o, 0, none⟩), .pointer none, .int .i64 0]), (12, .agg #[.slice (some ⟨g1, 0, none⟩) 4 4, .pointer (some ⟨o, 1, none⟩), .pointer none, .int .i64 1]), (17, .agg #[.slice (some ⟨g2, 0, none⟩) 4 4, .pointer (some ⟨o, 2, none⟩), .pointer none, .int .i64 1])]) (fun s w' => match s with | (g0, g1, g2, g3) => Below w.heap.size w w' ∧ w'.heap[g0]? = some (.cells (wcells 0) 9 (0, 0)) ∧ w.heap.size ≤ g0 ∧ w'.heap[g1]? = some (.cells (wcells 1) 9 (0, 0)) ∧ w.heap.size ≤ g1 ∧ w'.heap[g2]? = some (.cells (wcells 2) 9 (0, 0)) ∧ w.heap.size ≤ g2 ∧ w'.heap[g3]? = some (.cells (wcells 3) 9 (0, 0)) ∧ w.heap.size ≤ g3) ?_ (fun st0123_3 => ?_)
  · rintro ⟨g0, g1, g2, g3⟩ w1 hF
    obtain ⟨hB, h0, l0, h1, l1, h2, l2, h3, l3⟩ := hF
    refine norm_ (a' := ?_) ?_ ?_
    rotate_left
    · simp only [putAll, Act.put, List.setIfInBounds_toArray, List.set_cons_zero, List.set_cons_succ]
      rfl
    refine wpAnyLast_ready (rs := [19]) (by kernel_rfl) (by simp) (AllReadyL.cons rfl (by decide) (fun K hK => ?_) (AllReadyL.nil))
    · refine (goes_ Tryd.func32 (by kernel_rfl) rfl #[.pointer (some ⟨o, 3, none⟩), .int .i64 1, .slice (some ⟨g3, 0, none⟩) 4 4] (by rfl) rfl rfl (by (try simp only [List.map_toArray, List.map_cons, List.map_nil]); first | done | rfl) ?_)
      refine (p_numbered _ _ _ _ _).mono ?_
      rintro e w2 ⟨rfl, hb⟩
      refine ⟨_, rfl, ?_⟩
      refine hK.out _ _ trivial (fun _ => ?_)
      refine norm_ ?_ (st0123_4 (g0, g1, g2, g3) _ ?_)
      · show Act.put _ (some 22) _ = _
        simp only [putAll, Act.put, List.setIfInBounds_toArray, List.set_cons_zero, List.set_cons_succ]
      · exact ⟨below_then hB hB.size hb, blk_below h0 hb, l0, blk_below h1 hb, l1, blk_below h2 hb, l2, blk_below h3 hb, l3⟩
  refine join_ (σ := Nat × Nat × Nat × Nat) 14 #[true, true, true, true, true, true, true, true, true, true, true, true, true, true, true, true, true, true, false, false, true, true, true, false, true, true, true, false, true, true, true, false, true, true, true, false, true, true, true, false, true, true, true, false, true, true, true, false, true, true, true, false, true, true, true, false, true, true, true, false, false, false] (fun | (g0, g1, g2, g3) => [(6, .slice (some ⟨g0, 0, none⟩) 4 4), (11, .slice (some ⟨g1, 0, none⟩) 4 4), (16, .slice (some ⟨g2, 0, none⟩) 4 4), (7, .agg #[.slice (some ⟨g0, 0, none⟩) 4 4, .pointer (some ⟨o, 0, none⟩), .pointer none, .int .i64 0]), (12, .agg #[.slice (some ⟨g1, 0, none⟩) 4 4, .pointer (some ⟨o, 1, none⟩), .pointer none, .int .i64 1]), (17, .agg #[.slice (some ⟨g2, 0, none⟩) 4 4, .pointer (some ⟨o, 2, none⟩), .pointer none, .int .i64 1])]) (fun s w' => match s with | (g0, g1, g2, g3) => Below w.heap.size w w' ∧ w'.heap[g0]? = some (.cells (wcells 0) 9 (0, 0)) ∧ w.heap.size ≤ g0 ∧ w'.heap[g1]? = some (.cells (wcells 1) 9 (0, 0)) ∧ w.heap.size ≤ g1 ∧ w'.heap[g2]? = some (.cells (wcells 2) 9 (0, 0)) ∧ w.heap.size ≤ g2) ?_ (fun st012_3 => ?_)
  · rintro ⟨g0, g1, g2, g3⟩ w1 hF
    obtain ⟨hB, h0, l0, h1, l1, h2, l2⟩ := hF
    refine norm_ (a' := ?_) ?_ ?_
    rotate_left
    · simp only [putAll, Act.put, List.setIfInBounds_toArray, List.set_cons_zero, List.set_cons_succ]
      rfl
    refine wpAnyLast_ready (rs := [18]) (by kernel_rfl) (by simp) (AllReadyL.cons rfl (by decide) (fun K hK => ?_) (AllReadyL.nil))
    · go_simp
      refine hK.out _ _ trivial (fun _ => ?_)
      refine norm_ ?_ (st0123_3 (g0, g1, g2, w1.heap.size) _ ?_)
      · simp only [putAll, Act.put, List.setIfInBounds_toArray, List.set_cons_zero, List.set_cons_succ]
      · exact ⟨below_alloc hB _, blk_alloc h0 _, l0, blk_alloc h1 _, l1, blk_alloc h2 _, l2, blk_new w1 _, hB.size⟩
  refine join_ (σ := Nat × Nat × Nat × Nat) 14 #[true, true, true, true, true, true, true, true, true, true, true, true, true, true, false, true, true, true, true, false, true, true, true, false, true, true, true, false, true, true, true, false, true, true, true, false, true, true, true, false, true, true, true, false, true, true, true, false, true, true, true, false, true, true, true, false, true, true, true, false, false, false] (fun | (g0, g1, g2, g3) => [(6, .slice (some ⟨g0, 0, none⟩) 4 4), (11, .slice (some ⟨g1, 0, none⟩) 4 4), (16, .slice (some ⟨g2, 0, none⟩) 4 4), (21, .slice (some ⟨g3, 0, none⟩) 4 4), (7, .agg #[.slice (some ⟨g0, 0, none⟩) 4 4, .pointer (some ⟨o, 0, none⟩), .pointer none, .int .i64 0]), (12, .agg #[.slice (some ⟨g1, 0, none⟩) 4 4, .pointer (some ⟨o, 1, none⟩), .pointer none, .int .i64 1])]) (fun s w' => match s with | (g0, g1, g2, g3) => Below w.heap.size w w' ∧ w'.heap[g0]? = some (.cells (wcells 0) 9 (0, 0)) ∧ w.heap.size ≤ g0 ∧ w'.heap[g1]? = some (.cells (wcells 1) 9 (0, 0)) ∧ w.heap.size ≤ g1 ∧ w'.heap[g2]? = some (.cells (wcells 2) 9 (0, 0)) ∧ w.heap.size ≤ g2 ∧ w'.heap[g3]? = some (.cells (wcells 3) 9 (0, 0)) ∧ w.heap.size ≤ g3) ?_ (fun st0123_2 => ?_)
  · rintro ⟨g0, g1, g2, g3⟩ w1 hF
    obtain ⟨hB, h0, l0, h1, l1, h2, l2, h3, l3⟩ := hF
    refine norm_ (a' := ?_) ?_ ?_
    rotate_left
    · simp only [putAll, Act.put, List.setIfInBounds_toArray, List.set_cons_zero, List.set_cons_succ]
      rfl
    refine wpAnyLast_ready (rs := [14]) (by kernel_rfl) (by simp) (AllReadyL.cons rfl (by decide) (fun K hK => ?_) (AllReadyL.nil))
    · refine (goes_ Tryd.func32 (by kernel_rfl) rfl #[.pointer (some ⟨o, 2, none⟩), .int .i64 1, .slice (some ⟨g2, 0, none⟩) 4 4] (by rfl) rfl rfl (by (try simp only [List.map_toArray, List.map_cons, List.map_nil]); first | done | rfl) ?_)
      refine (p_numbered _ _ _ _ _).mono ?_
      rintro e w2 ⟨rfl, hb⟩
      refine ⟨_, rfl, ?_⟩
      refine hK.out _ _ trivial (fun _ => ?_)
      refine norm_ ?_ (st0123_3 (g0, g1, g2, g3) _ ?_)
      · show Act.put _ (some 17) _ = _
        simp only [putAll, Act.put, List.setIfInBounds_toArray, List.set_cons_zero, List.set_cons_succ]
      · exact ⟨below_then hB hB.size hb, blk_below h0 hb, l0, blk_below h1 hb, l1, blk_below h2 hb, l2, blk_below h3 hb, l3⟩
  refine join_ (σ := Nat × Nat × Nat × Nat) 15 #[true, true, true, true, true, true, true, true, true, true, true, true, true, true, false, true, true, true, false, false, true, true, true, false, true, true, true, false, true, true, true, false, true, true, true, false, true, true, true, false, true, true, true, false, true, true, true, false, true, true, true, false, true, true, true, false, true, true, true, false, false, false] (fun | (g0, g1, g2, g3) => [(6, .slice (some ⟨g0, 0, none⟩) 4 4), (11, .slice (some ⟨g1, 0, none⟩) 4 4), (16, .slice (some ⟨g2, 0, none⟩) 4 4), (7, .agg #[.slice (some ⟨g0, 0, none⟩) 4 4, .pointer (some ⟨o, 0, none⟩), .pointer none, .int .i64 0]), (12, .agg #[.slice (some ⟨g1, 0, none⟩) 4 4, .pointer (some ⟨o, 1, none⟩), .pointer none, .int .i64 1])]) (fun s w' => match s with | (g0, g1, g2, g3) => Below w.heap.size w w' ∧ w'.heap[g0]? = some (.cells (wcells 0) 9 (0, 0)) ∧ w.heap.size ≤ g0 ∧ w'.heap[g1]? = some (.cells (wcells 1) 9 (0, 0)) ∧ w.heap.size ≤ g1 ∧ w'.heap[g2]? = some (.cells (wcells 2) 9 (0, 0)) ∧ w.heap.size ≤ g2) ?_ (fun st012_2 => ?_)
  · rintro ⟨g0, g1, g2, g3⟩ w1 hF
    obtain ⟨hB, h0, l0, h1, l1, h2, l2⟩ := hF
    refine norm_ (a' := ?_) ?_ ?_
    rotate_left
    · simp only [putAll, Act.put, List.setIfInBounds_toArray, List.set_cons_zero, List.set_cons_succ]
      rfl
    refine wpAnyLast_ready (rs := [14, 18]) (by kernel_rfl) (by simp) (AllReadyL.cons rfl (by decide) (fun K hK => ?_) (AllReadyL.cons rfl (by decide) (fun K hK => ?_) (AllReadyL.nil)))
    · refine (goes_ Tryd.func32 (by kernel_rfl) rfl #[.pointer (some ⟨o, 2, none⟩), .int .i64 1, .slice (some ⟨g2, 0, none⟩) 4 4] (by rfl) rfl rfl (by (try simp only [List.map_toArray, List.map_cons, List.map_nil]); first | done | rfl) ?_)
      refine (p_numbered _ _ _ _ _).mono ?_
      rintro e w2 ⟨rfl, hb⟩
      refine ⟨_, rfl, ?_⟩
      refine hK.out _ _ trivial (fun _ => ?_)
      refine norm_ ?_ (st012_3 (g0, g1, g2, g3) _ ?_)
      · show Act.put _ (some 17) _ = _
        simp only [putAll, Act.put, List.setIfInBounds_toArray, List.set_cons_zero, List.set_cons_succ]
      · exact ⟨below_then hB hB.size hb, blk_below h0 hb, l0, blk_below h1 hb, l1, blk_below h2 hb, l2⟩
    · go_simp
      refine hK.out _ _ trivial (fun _ => ?_)
      refine norm_ ?_ (st0123_2 (g0, g1, g2, w1.heap.size) _ ?_)
      · simp only [putAll, Act.put, List.setIfInBounds_toArray, List.set_cons_zero, List.set_cons_succ]
      · exact ⟨below_alloc hB _, blk_alloc h0 _, l0, blk_alloc h1 _, l1, blk_alloc h2 _, l2, blk_new w1 _, hB.size⟩
  refine join_ (σ := Nat × Nat × Nat × Nat) 15 #[true, true, true, true, true, true, true, true, true, true, true, true, true, false, false, true, true, true, true, false, true, true, true, false, true, true, true, false, true, true, true, false, true, true, true, false, true, true, true, false, true, true, true, false, true, true, true, false, true, true, true, false, true, true, true, false, true, true, true, false, false, false] (fun | (g0, g1, g2, g3) => [(6, .slice (some ⟨g0, 0, none⟩) 4 4), (11, .slice (some ⟨g1, 0, none⟩) 4 4), (21, .slice (some ⟨g3, 0, none⟩) 4 4), (7, .agg #[.slice (some ⟨g0, 0, none⟩) 4 4, .pointer (some ⟨o, 0, none⟩), .pointer none, .int .i64 0]), (12, .agg #[.slice (some ⟨g1, 0, none⟩) 4 4, .pointer (some ⟨o, 1, none⟩), .pointer none, .int .i64 1])]) (fun s w' => match s with | (g0, g1, g2, g3) => Below w.heap.size w w' ∧ w'.heap[g0]? = some (.cells (wcells 0) 9 (0, 0)) ∧ w.heap.size ≤ g0 ∧ w'.heap[g1]? = some (.cells (wcells 1) 9 (0, 0)) ∧ w.heap.size ≤ g1 ∧ w'.heap[g3]? = some (.cells (wcells 3) 9 (0, 0)) ∧ w.heap.size ≤ g3) ?_ (fun st013_2 => ?_)
  · rintro ⟨g0, g1, g2, g3⟩ w1 hF
    obtain ⟨hB, h0, l0, h1, l1, h3, l3⟩ := hF
    refine norm_ (a' := ?_) ?_ ?_
    rotate_left
    · simp only [putAll, Act.put, List.setIfInBounds_toArray, List.set_cons_zero, List.set_cons_succ]
      rfl
    refine wpAnyLast_ready (rs := [13]) (by kernel_rfl) (by simp) (AllReadyL.cons rfl (by decide) (fun K hK => ?_) (AllReadyL.nil))
    · go_simp
      refine hK.out _ _ trivial (fun _ => ?_)
      refine norm_ ?_ (st0123_2 (g0, g1, w1.heap.size, g3) _ ?_)
      · simp only [putAll, Act.put, List.setIfInBounds_toArray, List.set_cons_zero, List.set_cons_succ]
      · exact ⟨below_alloc hB _, blk_alloc h0 _, l0, blk_alloc h1 _, l1, blk_new w1 _, hB.size, blk_alloc h3 _, l3⟩
  refine join_ (σ := Nat × Nat × Nat × Nat) 15 #[true, true, true, true, true, true, true, true, true, false, true, true, true, true, false, true, true, true, true, false, true, true, true, false, true, true, true, false, true, true, true, false, true, true, true, false, true, true, true, false, true, true, true, false, true, true, true, false, true, true, true, false, true, true, true, false, true, true, true, false, false, false] (fun | (g0, g1, g2, g3) => [(6, .slice (some ⟨g0, 0, none⟩) 4 4), (11, .slice (some ⟨g1, 0, none⟩) 4 4), (16, .slice (some ⟨g2, 0, none⟩) 4 4), (21, .slice (some ⟨g3, 0, none⟩) 4 4), (7, .agg #[.slice (some ⟨g0, 0, none⟩) 4 4, .pointer (some ⟨o, 0, none⟩), .pointer none, .int .i64 0])]) (fun s w' => match s with | (g0, g1, g2, g3) => Below w.heap.size w w' ∧ w'.heap[g0]? = some (.cells (wcells 0) 9 (0, 0)) ∧ w.heap.size ≤ g0 ∧ w'.heap[g1]? = some (.cells (wcells 1) 9 (0, 0)) ∧ w.heap.size ≤ g1 ∧ w'.heap[g2]? = some (.cells (wcells 2) 9 (0, 0)) ∧ w.heap.size ≤ g2 ∧ w'.heap[g3]? = some (.cells (wcells 3) 9 (0, 0)) ∧ w.heap.size ≤ g3) ?_ (fun st0123_1 => ?_)
  · rintro ⟨g0, g1, g2, g3⟩ w1 hF
    obtain ⟨hB, h0, l0, h1, l1, h2, l2, h3, l3⟩ := hF
    refine norm_ (a' := ?_) ?_ ?_
    rotate_left
    · simp only [putAll, Act.put, List.setIfInBounds_toArray, List.set_cons_zero, List.set_cons_succ]
      rfl
    refine wpAnyLast_ready (rs := [9]) (by kernel_rfl) (by simp) (AllReadyL.cons rfl (by decide) (fun K hK => ?_) (AllReadyL.nil))
    · refine (goes_ Tryd.func32 (by kernel_rfl) rfl #[.pointer (some ⟨o, 1, none⟩), .int .i64 1, .slice (some ⟨g1, 0, none⟩) 4 4] (by rfl) rfl rfl (by (try simp only [List.map_toArray, List.map_cons, List.map_nil]); first | done | rfl) ?_)
      refine (p_numbered _ _ _ _ _).mono ?_
      rintro e w2 ⟨rfl, hb⟩
      refine ⟨_, rfl, ?_⟩
      refine hK.out _ _ trivial (fun _ => ?_)
      refine norm_ ?_ (st0123_2 (g0, g1, g2, g3) _ ?_)
      · show Act.put _ (some 12) _ = _
        simp only [putAll, Act.put, List.setIfInBounds_toArray, List.set_cons_zero, List.set_cons_succ]
      · exact ⟨below_then hB hB.size hb, blk_below h0 hb, l0, blk_below h1 hb, l1, blk_below h2 hb, l2, blk_below h3 hb, l3⟩
  refine join_ (σ := Nat × Nat × Nat × Nat) 16 #[true, true, true, true, true, true, true, true, true, true, true, true, true, false, false, true, true, true, false, false, true, true, true, false, true, true, true, false, true, true, true, false, true, true, true, false, true, true, true, false, true, true, true, false, true, true, true, false, true, true, true, false, true, true, true, false, true, true, true, false, false, false] (fun | (g0, g1, g2, g3) => [(6, .slice (some ⟨g0, 0, none⟩) 4 4), (11, .slice (some ⟨g1, 0, none⟩) 4 4), (7, .agg #[.slice (some ⟨g0, 0, none⟩) 4 4, .pointer (some ⟨o, 0, none⟩), .pointer none, .int .i64 0]), (12, .agg #[.slice (some ⟨g1, 0, none⟩) 4 4, .pointer (some ⟨o, 1, none⟩), .pointer none, .int .i64 1])]) (fun s w' => match s with | (g0, g1, g2, g3) => Below w.heap.size w w' ∧ w'.heap[g0]? = some (.cells (wcells 0) 9 (0, 0)) ∧ w.heap.size ≤ g0 ∧ w'.heap[g1]? = some (.cells (wcells 1) 9 (0, 0)) ∧ w.heap.size ≤ g1) ?_ (fun st01_2 => ?_)
  · rintro ⟨g0, g1, g2, g3⟩ w1 hF
    obtain ⟨hB, h0, l0, h1, l1⟩ := hF
    refine norm_ (a' := ?_) ?_ ?_
    rotate_left
    · simp only [putAll, Act.put, List.setIfInBounds_toArray, List.set_cons_zero, List.set_cons_succ]
      rfl
    refine wpAnyLast_ready (rs := [13, 18]) (by kernel_rfl) (by simp) (AllReadyL.cons rfl (by decide) (fun K hK => ?_) (AllReadyL.cons rfl (by decide) (fun K hK => ?_) (AllReadyL.nil)))
    · go_simp
      refine hK.out _ _ trivial (fun _ => ?_)
      refine norm_ ?_ (st012_2 (g0, g1, w1.heap.size, g3) _ ?_)
      · simp only [putAll, Act.put, List.setIfInBounds_toArray, List.set_cons_zero, List.set_cons_succ]
      · exact ⟨below_alloc hB _, blk_alloc h0 _, l0, blk_alloc h1 _, l1, blk_new w1 _, hB.size⟩
    · go_simp
      refine hK.out _ _ trivial (fun _ => ?_)
      refine norm_ ?_ (st013_2 (g0, g1, g2, w1.heap.size) _ ?_)
      · simp only [putAll, Act.put, List.setIfInBounds_toArray, List.set_cons_zero, List.set_cons_succ]
      · exact ⟨below_alloc hB _, blk_alloc h0 _, l0, blk_alloc h1 _, l1, blk_new w1 _, hB.size⟩
  refine join_ (σ := Nat × Nat × Nat × Nat) 16 #[true, true, true, true, true, true, true, true, true, false, true, true, true, true, false, true, true, true, false, false, true, true, true, false, true, true, true, false, true, true, true, false, true, true, true, false, true, true, true, false, true, true, true, false, true, true, true, false, true, true, true, false, true, true, true, false, true, true, true, false, false, false] (fun | (g0, g1, g2, g3) => [(6, .slice (some ⟨g0, 0, none⟩) 4 4), (11, .slice (some ⟨g1, 0, none⟩) 4 4), (16, .slice (some ⟨g2, 0, none⟩) 4 4), (7, .agg #[.slice (some ⟨g0, 0, none⟩) 4 4, .pointer (some ⟨o, 0, none⟩), .pointer none, .int .i64 0])]) (fun s w' => match s with | (g0, g1, g2, g3) => Below w.heap.size w w' ∧ w'.heap[g0]? = some (.cells (wcells 0) 9 (0, 0)) ∧ w.heap.size ≤ g0 ∧ w'.heap[g1]? = some (.cells (wcells 1) 9 (0, 0)) ∧ w.heap.size ≤ g1 ∧ w'.heap[g2]? = some (.cells (wcells 2) 9 (0, 0)) ∧ w.heap.size ≤ g2) ?_ (fun st012_1 => ?_)
  · rintro ⟨g0, g1, g2, g3⟩ w1 hF
    obtain ⟨hB, h0, l0, h1, l1, h2, l2⟩ := hF
    refine norm_ (a' := ?_) ?_ ?_
    rotate_left
    · simp only [putAll, Act.put, List.setIfInBounds_toArray, List.set_cons_zero, List.set_cons_succ]
      rfl
    refine wpAnyLast_ready (rs := [9, 18]) (by kernel_rfl) (by simp) (AllReadyL.cons rfl (by decide) (fun K hK => ?_) (AllReadyL.cons rfl (by decide) (fun K hK => ?_) (AllReadyL.nil)))
    · refine (goes_ Tryd.func32 (by kernel_rfl) rfl #[.pointer (some ⟨o, 1, none⟩), .int .i64 1, .slice (some ⟨g1, 0, none⟩) 4 4] (by rfl) rfl rfl (by (try simp only [List.map_toArray, List.map_cons, List.map_nil]); first | done | rfl) ?_)
      refine (p_numbered _ _ _ _ _).mono ?_
      rintro e w2 ⟨rfl, hb⟩
      refine ⟨_, rfl, ?_⟩
      refine hK.out _ _ trivial (fun _ => ?_)
      refine norm_ ?_ (st012_2 (g0, g1, g2, g3) _ ?_)
      · show Act.put _ (some 12) _ = _
        simp only [putAll, Act.put, List.setIfInBounds_toArray, List.set_cons_zero, List.set_cons_succ]
      · exact ⟨below_then hB hB.size hb, blk_below h0 hb, l0, blk_below h1 hb, l1, blk_below h2 hb, l2⟩
    · go_simp
      refine hK.out _ _ trivial (fun _ => ?_)
      refine norm_ ?_ (st0123_1 (g0, g1, g2, w1.heap.size) _ ?_)
      · simp only [putAll, Act.put, List.setIfInBounds_toArray, List.set_cons_zero, List.set_cons_succ]
      · exact ⟨below_alloc hB _, blk_alloc h0 _, l0, blk_alloc h1 _, l1, blk_alloc h2 _, l2, blk_new w1 _, hB.size⟩
  refine join_ (σ := Nat × Nat × Nat × Nat) 16 #[true, true, true, true, true, true, true, true, true, false, true, true, true, false, false, true, true, true, true, false, true, true, true, false, true, true, true, false, true, true, true, false, true, true, true, false, true, true, true, false, true, true, true, false, true, true, true, false, true, true, true, false, true, true, true, false, true, true, true, false, false, false] (fun | (g0, g1, g2, g3) => [(6, .slice (some ⟨g0, 0, none⟩) 4 4), (11, .slice (some ⟨g1, 0, none⟩) 4 4), (21, .slice (some ⟨g3, 0, none⟩) 4 4), (7, .agg #[.slice (some ⟨g0, 0, none⟩) 4 4, .pointer (some ⟨o, 0, none⟩), .pointer none, .int .i64 0])]) (fun s w' => match s with | (g0, g1, g2, g3) => Below w.heap.size w w' ∧ w'.heap[g0]? = some (.cells (wcells 0) 9 (0, 0)) ∧ w.heap.size ≤ g0 ∧ w'.heap[g1]? = some (.cells (wcells 1) 9 (0, 0)) ∧ w.heap.size ≤ g1 ∧ w'.heap[g3]? = some (.cells (wcells 3) 9 (0, 0)) ∧ w.heap.size ≤ g3) ?_ (fun st013_1 => ?_)
  · rintro ⟨g0, g1, g2, g3⟩ w1 hF
    obtain ⟨hB, h0, l0, h1, l1, h3, l3⟩ := hF
    refine norm_ (a' := ?_) ?_ ?_
    rotate_left
    · simp only [putAll, Act.put, List.setIfInBounds_toArray, List.set_cons_zero, List.set_cons_succ]
      rfl
    refine wpAnyLast_ready (rs := [9, 13]) (by kernel_rfl) (by simp) (AllReadyL.cons rfl (by decide) (fun K hK => ?_) (AllReadyL.cons rfl (by decide) (fun K hK => ?_) (AllReadyL.nil)))
    · refine (goes_ Tryd.func32 (by kernel_rfl) rfl #[.pointer (some ⟨o, 1, none⟩), .int .i64 1, .slice (some ⟨g1, 0, none⟩) 4 4] (by rfl) rfl rfl (by (try simp only [List.map_toArray, List.map_cons, List.map_nil]); first | done | rfl) ?_)
      refine (p_numbered _ _ _ _ _).mono ?_
      rintro e w2 ⟨rfl, hb⟩
      refine ⟨_, rfl, ?_⟩
      refine hK.out _ _ trivial (fun _ => ?_)
      refine norm_ ?_ (st013_2 (g0, g1, g2, g3) _ ?_)
      · show Act.put _ (some 12) _ = _
        simp only [putAll, Act.put, List.setIfInBounds_toArray, List.set_cons_zero, List.set_cons_succ]
      · exact ⟨below_then hB hB.size hb, blk_below h0 hb, l0, blk_below h1 hb, l1, blk_below h3 hb, l3⟩
    · go_simp
      refine hK.out _ _ trivial (fun _ => ?_)
      refine norm_ ?_ (st0123_1 (g0, g1, w1.heap.size, g3) _ ?_)
      · simp only [putAll, Act.put, List.setIfInBounds_toArray, List.set_cons_zero, List.set_cons_succ]
      · exact ⟨below_alloc hB _, blk_alloc h0 _, l0, blk_alloc h1 _, l1, blk_new w1 _, hB.size, blk_alloc h3 _, l3⟩
  refine join_ (σ := Nat × Nat × Nat × Nat) 16 #[true, true, true, true, true, true, true, true, false, false, true, true, true, true, false, true, true, true, true, false, true, true, true, false, true, true, true, false, true, true, true, false, true, true, true, false, true, true, true, false, true, true, true, false, true, true, true, false, true, true, true, false, true, true, true, false, true, true, true, false, false, false] (fun | (g0, g1, g2, g3) => [(6, .slice (some ⟨g0, 0, none⟩) 4 4), (16, .slice (some ⟨g2, 0, none⟩) 4 4), (21, .slice (some ⟨g3, 0, none⟩) 4 4), (7, .agg #[.slice (some ⟨g0, 0, none⟩) 4 4, .pointer (some ⟨o, 0, none⟩), .pointer none, .int .i64 0])]) (fun s w' => match s with | (g0, g1, g2, g3) => Below w.heap.size w w' ∧ w'.heap[g0]? = some (.cells (wcells 0) 9 (0, 0)) ∧ w.heap.size ≤ g0 ∧ w'.heap[g2]? = some (.cells (wcells 2) 9 (0, 0)) ∧ w.heap.size ≤ g2 ∧ w'.heap[g3]? = some (.cells (wcells 3) 9 (0, 0)) ∧ w.heap.size ≤ g3) ?_ (fun st023_1 => ?_)
  · rintro ⟨g0, g1, g2, g3⟩ w1 hF
    obtain ⟨hB, h0, l0, h2, l2, h3, l3⟩ := hF
    refine norm_ (a' := ?_) ?_ ?_
    rotate_left
    · simp only [putAll, Act.put, List.setIfInBounds_toArray, List.set_cons_zero, List.set_cons_succ]
      rfl
    refine wpAnyLast_ready (rs := [8]) (by kernel_rfl) (by simp) (AllReadyL.cons rfl (by decide) (fun K hK => ?_) (AllReadyL.nil))
    · go_simp
      refine hK.out _ _ trivial (fun _ => ?_)
      refine norm_ ?_ (st0123_1 (g0, w1.heap.size, g2, g3) _ ?_)
      · simp only [putAll, Act.put, List.setIfInBounds_toArray, List.set_cons_zero, List.set_cons_succ]
      · exact ⟨below_alloc hB _, blk_alloc h0 _, l0, blk_new w1 _, hB.size, blk_alloc h2 _, l2, blk_alloc h3 _, l3⟩
  refine join_ (σ := Nat × Nat × Nat × Nat) 16 #[true, true, true, true, false, true, true, true, true, false, true, true, true, true, false, true, true, true, true, false, true, true, true, false, true, true, true, false, true, true, true, false, true, true, true, false, true, true, true, false, true, true, true, false, true, true, true, false, true, true, true, false, true, true, true, false, true, true, true, false, false, false] (fun | (g0, g1, g2, g3) => [(6, .slice (some ⟨g0, 0, none⟩) 4 4), (11, .slice (some ⟨g1, 0, none⟩) 4 4), (16, .slice (some ⟨g2, 0, none⟩) 4 4), (21, .slice (some ⟨g3, 0, none⟩) 4 4)]) (fun s w' => match s with | (g0, g1, g2, g3) => Below w.heap.size w w' ∧ w'.heap[g0]? = some (.cells (wcells 0) 9 (0, 0)) ∧ w.heap.size ≤ g0 ∧ w'.heap[g1]? = some (.cells (wcells 1) 9 (0, 0)) ∧ w.heap.size ≤ g1 ∧ w'.heap[g2]? = some (.cells (wcells 2) 9 (0, 0)) ∧ w.heap.size ≤ g2 ∧ w'.heap[g3]? = some (.cells (wcells 3) 9 (0, 0)) ∧ w.heap.size ≤ g3) ?_ (fun st0123_0 => ?_)
  · rintro ⟨g0, g1, g2, g3⟩ w1 hF
    obtain ⟨hB, h0, l0, h1, l1, h2, l2, h3, l3⟩ := hF
    refine norm_ (a' := ?_) ?_ ?_
    rotate_left
    · simp only [putAll, Act.put, List.setIfInBounds_toArray, List.set_cons_zero, List.set_cons_succ]
      rfl
    refine wpAnyLast_ready (rs := [4]) (by kernel_rfl) (by simp) (AllReadyL.cons rfl (by decide) (fun K hK => ?_) (AllReadyL.nil))
    · refine (goes_ Tryd.func32 (by kernel_rfl) rfl #[.pointer (some ⟨o, 0, none⟩), .int .i64 0, .slice (some ⟨g0, 0, none⟩) 4 4] (by rfl) rfl rfl (by (try simp only [List.map_toArray, List.map_cons, List.map_nil]); first | done | rfl) ?_)
      refine (p_numbered _ _ _ _ _).mono ?_
      rintro e w2 ⟨rfl, hb⟩
      refine ⟨_, rfl, ?_⟩
      refine hK.out _ _ trivial (fun _ => ?_)
      refine norm_ ?_ (st0123_1 (g0, g1, g2, g3) _ ?_)
      · show Act.put _ (some 7) _ = _
        simp only [putAll, Act.put, List.setIfInBounds_toArray, List.set_cons_zero, List.set_cons_succ]
      · exact ⟨below_then hB hB.size hb, blk_below h0 hb, l0, blk_below h1 hb, l1, blk_below h2 hb, l2, blk_below h3 hb, l3⟩
  refine join_ (σ := Nat × Nat × Nat × Nat) 17 #[true, true, true, true, true, true, true, true, true, false, true, true, true, false, false, true, true, true, false, false, true, true, true, false, true, true, true, false, true, true, true, false, true, true, true, false, true, true, true, false, true, true, true, false, true, true, true, false, true, true, true, false, true, true, true, false, true, true, true, false, false, false] (fun | (g0, g1, g2, g3) => [(6, .slice (some ⟨g0, 0, none⟩) 4 4), (11, .slice (some ⟨g1, 0, none⟩) 4 4), (7, .agg #[.slice (some ⟨g0, 0, none⟩) 4 4, .pointer (some ⟨o, 0, none⟩), .pointer none, .int .i64 0])]) (fun s w' => match s with | (g0, g1, g2, g3) => Below w.heap.size w w' ∧ w'.heap[g0]? = some (.cells (wcells 0) 9 (0, 0)) ∧ w.heap.size ≤ g0 ∧ w'.heap[g1]? = some (.cells (wcells 1) 9 (0, 0)) ∧ w.heap.size ≤ g1) ?_ (fun st01_1 => ?_)
  · rintro ⟨g0, g1, g2, g3⟩ w1 hF
    obtain ⟨hB, h0, l0, h1, l1⟩ := hF
    refine norm_ (a' := ?_) ?_ ?_
    rotate_left
    · simp only [putAll, Act.put, List.setIfInBounds_toArray, List.set_cons_zero, List.set_cons_succ]
      rfl
    refine wpAnyLast_ready (rs := [9, 13, 18]) (by kernel_rfl) (by simp) (AllReadyL.cons rfl (by decide) (fun K hK => ?_) (AllReadyL.cons rfl (by decide) (fun K hK => ?_) (AllReadyL.cons rfl (by decide) (fun K hK => ?_) (AllReadyL.nil))))
    · refine (goes_ Tryd.func32 (by kernel_rfl) rfl #[.pointer (some ⟨o, 1, none⟩), .int .i64 1, .slice (some ⟨g1, 0, none⟩) 4 4] (by rfl) rfl rfl (by (try simp only [List.map_toArray, List.map_cons, List.map_nil]); first | done | rfl) ?_)
      refine (p_numbered _ _ _ _ _).mono ?_
      rintro e w2 ⟨rfl, hb⟩
      refine ⟨_, rfl, ?_⟩
      refine hK.out _ _ trivial (fun _ => ?_)
      refine norm_ ?_ (st01_2 (g0, g1, g2, g3) _ ?_)
      · show Act.put _ (some 12) _ = _
        simp only [putAll, Act.put, List.setIfInBounds_toArray, List.set_cons_zero, List.set_cons_succ]
      · exact ⟨below_then hB hB.size hb, blk_below h0 hb, l0, blk_below h1 hb, l1⟩
    · go_simp
      refine hK.out _ _ trivial (fun _ => ?_)
      refine norm_ ?_ (st012_1 (g0, g1, w1.heap.size, g3) _ ?_)
      · simp only [putAll, Act.put, List.setIfInBounds_toArray, List.set_cons_zero, List.set_cons_succ]
      · exact ⟨below_alloc hB _, blk_alloc h0 _, l0, blk_alloc h1 _, l1, blk_new w1 _, hB.size⟩
    · go_simp
      refine hK.out _ _ trivial (fun _ => ?_)
      refine norm_ ?_ (st013_1 (g0, g1, g2, w1.heap.size) _ ?_)
      · simp only [putAll, Act.put, List.setIfInBounds_toArray, List.set_cons_zero, List.set_cons_succ]
      · exact ⟨below_alloc hB _, blk_alloc h0 _, l0, blk_alloc h1 _, l1, blk_new w1 _, hB.size⟩
  refine join_ (σ := Nat × Nat × Nat × Nat) 17 #[true, true, true, true, true, true, true, true, false, false, true, true, true, true, false, true, true, true, false, false, true, true, true, false, true, true, true, false, true, true, true, false, true, true, true, false, true, true, true, false, true, true, true, false, true, true, true, false, true, true, true, false, true, true, true, false, true, true, true, false, false, false] (fun | (g0, g1, g2, g3) => [(6, .slice (some ⟨g0, 0, none⟩) 4 4), (16, .slice (some ⟨g2, 0, none⟩) 4 4), (7, .agg #[.slice (some ⟨g0, 0, none⟩) 4 4, .pointer (some ⟨o, 0, none⟩), .pointer none, .int .i64 0])]) (fun s w' => match s with | (g0, g1, g2, g3) => Below w.heap.size w w' ∧ w'.heap[g0]? = some (.cells (wcells 0) 9 (0, 0)) ∧ w.heap.size ≤ g0 ∧ w'.heap[g2]? = some (.cells (wcells 2) 9 (0, 0)) ∧ w.heap.size ≤ g2) ?_ (fun st02_1 => ?_)
  · rintro ⟨g0, g1, g2, g3⟩ w1 hF
    obtain ⟨hB, h0, l0, h2, l2⟩ := hF
    refine norm_ (a' := ?_) ?_ ?_
    rotate_left
    · simp only [putAll, Act.put, List.setIfInBounds_toArray, List.set_cons_zero, List.set_cons_succ]
      rfl
    refine wpAnyLast_ready (rs := [8, 18]) (by kernel_rfl) (by simp) (AllReadyL.cons rfl (by decide) (fun K hK => ?_) (AllReadyL.cons rfl (by decide) (fun K hK => ?_) (AllReadyL.nil)))
    · go_simp
      refine hK.out _ _ trivial (fun _ => ?_)
      refine norm_ ?_ (st012_1 (g0, w1.heap.size, g2, g3) _ ?_)
      · simp only [putAll, Act.put, List.setIfInBounds_toArray, List.set_cons_zero, List.set_cons_succ]
      · exact ⟨below_alloc hB _, blk_alloc h0 _, l0, blk_new w1 _, hB.size, blk_alloc h2 _, l2⟩
    · go_simp
      refine hK.out _ _ trivial (fun _ => ?_)
      refine norm_ ?_ (st023_1 (g0, g1, g2, w1.heap.size) _ ?_)
      · simp only [putAll, Act.put, List.setIfInBounds_toArray, List.set_cons_zero, List.set_cons_succ]
      · exact ⟨below_alloc hB _, blk_alloc h0 _, l0, blk_alloc h2 _, l2, blk_new w1 _, hB.size⟩
  refine join_ (σ := Nat × Nat × Nat × Nat) 17 #[true, true, true, true, true, true, true, true, false, false, true, true, true, false, false, true, true, true, true, false, true, true, true, false, true, true, true, false, true, true, true, false, true, true, true, false, true, true, true, false, true, true, true, false, true, true, true, false, true, true, true, false, true, true, true, false, true, true, true, false, false, false] (fun | (g0, g1, g2, g3) => [(6, .slice (some ⟨g0, 0, none⟩) 4 4), (21, .slice (some ⟨g3, 0, none⟩) 4 4), (7, .agg #[.slice (some ⟨g0, 0, none⟩) 4 4, .pointer (some ⟨o, 0, none⟩), .pointer none, .int .i64 0])]) (fun s w' => match s with | (g0, g1, g2, g3) => Below w.heap.size w w' ∧ w'.heap[g0]? = some (.cells (wcells 0) 9 (0, 0)) ∧ w.heap.size ≤ g0 ∧ w'.heap[g3]? = some (.cells (wcells 3) 9 (0, 0)) ∧ w.heap.size ≤ g3) ?_ (fun st03_1 => ?_)
  · rintro ⟨g0, g1, g2, g3⟩ w1 hF
    obtain ⟨hB, h0, l0, h3, l3⟩ := hF
    refine norm_ (a' := ?_) ?_ ?_
    rotate_left
    · simp only [putAll, Act.put, List.setIfInBounds_toArray, List.set_cons_zero, List.set_cons_succ]
      rfl
    refine wpAnyLast_ready (rs := [8, 13]) (by kernel_rfl) (by simp) (AllReadyL.cons rfl (by decide) (fun K hK => ?_) (AllReadyL.cons rfl (by decide) (fun K hK => ?_) (AllReadyL.nil)))
    · go_simp
      refine hK.out _ _ trivial (fun _ => ?_)
      refine norm_ ?_ (st013_1 (g0, w1.heap.size, g2, g3) _ ?_)
      · simp only [putAll, Act.put, List.setIfInBounds_toArray, List.set_cons_zero, List.set_cons_succ]
      · exact ⟨below_alloc hB _, blk_alloc h0 _, l0, blk_new w1 _, hB.size, blk_alloc h3 _, l3⟩
    · go_simp
      refine hK.out _ _ trivial (fun _ => ?_)
      refine norm_ ?_ (st023_1 (g0, g1, w1.heap.size, g3) _ ?_)
      · simp only [putAll, Act.put, List.setIfInBounds_toArray, List.set_cons_zero, List.set_cons_succ]
      · exact ⟨below_alloc hB _, blk_alloc h0 _, l0, blk_new w1 _, hB.size, blk_alloc h3 _, l3⟩
  refine join_ (σ := Nat × Nat × Nat × Nat) 17 #[true, true, true, true, false, true, true, true, true, false, true, true, true, true, false, true, true, true, false, false, true, true, true, false, true, true, true, false, true, true, true, false, true, true, true, false, true, true, true, false, true, true, true, false, true, true, true, false, true, true, true, false, true, true, true, false, true, true, true, false, false, false] (fun | (g0, g1, g2, g3) => [(6, .slice (some ⟨g0, 0, none⟩) 4 4), (11, .slice (some ⟨g1, 0, none⟩) 4 4), (16, .slice (some ⟨g2, 0, none⟩) 4 4)]) (fun s w' => match s with | (g0, g1, g2, g3) => Below w.heap.size w w' ∧ w'.heap[g0]? = some (.cells (wcells 0) 9 (0, 0)) ∧ w.heap.size ≤ g0 ∧ w'.heap[g1]? = some (.cells (wcells 1) 9 (0, 0)) ∧ w.heap.size ≤ g1 ∧ w'.heap[g2]? = some (.cells (wcells 2) 9 (0, 0)) ∧ w.heap.size ≤ g2) ?_ (fun st012_0 => ?_)
  · rintro ⟨g0, g1, g2, g3⟩ w1 hF
    obtain ⟨hB, h0, l0, h1, l1, h2, l2⟩ := hF
    refine norm_ (a' := ?_) ?_ ?_
    rotate_left
    · simp only [putAll, Act.put, List.setIfInBounds_toArray, List.set_cons_zero, List.set_cons_succ]
      rfl
    refine wpAnyLast_ready (rs := [4, 18]) (by kernel_rfl) (by simp) (AllReadyL.cons rfl (by decide) (fun K hK => ?_) (AllReadyL.cons rfl (by decide) (fun K hK => ?_) (AllReadyL.nil)))
    · refine (goes_ Tryd.func32 (by kernel_rfl) rfl #[.pointer (some ⟨o, 0, none⟩), .int .i64 0, .slice (some ⟨g0, 0, none⟩) 4 4] (by rfl) rfl rfl (by (try simp only [List.map_toArray, List.map_cons, List.map_nil]); first | done | rfl) ?_)
      refine (p_numbered _ _ _ _ _).mono ?_
      rintro e w2 ⟨rfl, hb⟩
      refine ⟨_, rfl, ?_⟩
      refine hK.out _ _ trivial (fun _ => ?_)
      refine norm_ ?_ (st012_1 (g0, g1, g2, g3) _ ?_)
      · show Act.put _ (some 7) _ = _
        simp only [putAll, Act.put, List.setIfInBounds_toArray, List.set_cons_zero, List.set_cons_succ]
      · exact ⟨below_then hB hB.size hb, blk_below h0 hb, l0, blk_below h1 hb, l1, blk_below h2 hb, l2⟩
    · go_simp
      refine hK.out _ _ trivial (fun _ => ?_)
      refine norm_ ?_ (st0123_0 (g0, g1, g2, w1.heap.size) _ ?_)
      · simp only [putAll, Act.put, List.setIfInBounds_toArray, List.set_cons_zero, List.set_cons_succ]
      · exact ⟨below_alloc hB _, blk_alloc h0 _, l0, blk_alloc h1 _, l1, blk_alloc h2 _, l2, blk_new w1 _, hB.size⟩
  refine join_ (σ := Nat × Nat × Nat × Nat) 17 #[true, true, true, true, false, true, true, true, true, false, true, true, true, false, false, true, true, true, true, false, true, true, true, false, true, true, true, false, true, true, true, false, true, true, true, false, true, true, true, false, true, true, true, false, true, true, true, false, true, true, true, false, true, true, true, false, true, true, true, false, false, false] (fun | (g0, g1, g2, g3) => [(6, .slice (some ⟨g0, 0, none⟩) 4 4), (11, .slice (some ⟨g1, 0, none⟩) 4 4), (21, .slice (some ⟨g3, 0, none⟩) 4 4)]) (fun s w' => match s with | (g0, g1, g2, g3) => Below w.heap.size w w' ∧ w'.heap[g0]? = some (.cells (wcells 0) 9 (0, 0)) ∧ w.heap.size ≤ g0 ∧ w'.heap[g1]? = some (.cells (wcells 1) 9 (0, 0)) ∧ w.heap.size ≤ g1 ∧ w'.heap[g3]? = some (.cells (wcells 3) 9 (0, 0)) ∧ w.heap.size ≤ g3) ?_ (fun st013_0 => ?_)
  · rintro ⟨g0, g1, g2, g3⟩ w1 hF
    obtain ⟨hB, h0, l0, h1, l1, h3, l3⟩ := hF
    refine norm_ (a' := ?_) ?_ ?_
    rotate_left
    · simp only [putAll, Act.put, List.setIfInBounds_toArray, List.set_cons_zero, List.set_cons_succ]
      rfl
    refine wpAnyLast_ready (rs := [4, 13]) (by kernel_rfl) (by simp) (AllReadyL.cons rfl (by decide) (fun K hK => ?_) (AllReadyL.cons rfl (by decide) (fun K hK => ?_) (AllReadyL.nil)))
    · refine (goes_ Tryd.func32 (by kernel_rfl) rfl #[.pointer (some ⟨o, 0, none⟩), .int .i64 0, .slice (some ⟨g0, 0, none⟩) 4 4] (by rfl) rfl rfl (by (try simp only [List.map_toArray, List.map_cons, List.map_nil]); first | done | rfl) ?_)
      refine (p_numbered _ _ _ _ _).mono ?_
      rintro e w2 ⟨rfl, hb⟩
      refine ⟨_, rfl, ?_⟩
      refine hK.out _ _ trivial (fun _ => ?_)
      refine norm_ ?_ (st013_1 (g0, g1, g2, g3) _ ?_)
      · show Act.put _ (some 7) _ = _
        simp only [putAll, Act.put, List.setIfInBounds_toArray, List.set_cons_zero, List.set_cons_succ]
      · exact ⟨below_then hB hB.size hb, blk_below h0 hb, l0, blk_below h1 hb, l1, blk_below h3 hb, l3⟩
    · go_simp
      refine hK.out _ _ trivial (fun _ => ?_)
      refine norm_ ?_ (st0123_0 (g0, g1, w1.heap.size, g3) _ ?_)
      · simp only [putAll, Act.put, List.setIfInBounds_toArray, List.set_cons_zero, List.set_cons_succ]
      · exact ⟨below_alloc hB _, blk_alloc h0 _, l0, blk_alloc h1 _, l1, blk_new w1 _, hB.size, blk_alloc h3 _, l3⟩
  refine join_ (σ := Nat × Nat × Nat × Nat) 17 #[true, true, true, true, false, true, true, true, false, false, true, true, true, true, false, true, true, true, true, false, true, true, true, false, true, true, true, false, true, true, true, false, true, true, true, false, true, true, true, false, true, true, true, false, true, true, true, false, true, true, true, false, true, true, true, false, true, true, true, false, false, false] (fun | (g0, g1, g2, g3) => [(6, .slice (some ⟨g0, 0, none⟩) 4 4), (16, .slice (some ⟨g2, 0, none⟩) 4 4), (21, .slice (some ⟨g3, 0, none⟩) 4 4)]) (fun s w' => match s with | (g0, g1, g2, g3) => Below w.heap.size w w' ∧ w'.heap[g0]? = some (.cells (wcells 0) 9 (0, 0)) ∧ w.heap.size ≤ g0 ∧ w'.heap[g2]? = some (.cells (wcells 2) 9 (0, 0)) ∧ w.heap.size ≤ g2 ∧ w'.heap[g3]? = some (.cells (wcells 3) 9 (0, 0)) ∧ w.heap.size ≤ g3) ?_ (fun st023_0 => ?_)
  · rintro ⟨g0, g1, g2, g3⟩ w1 hF
    obtain ⟨hB, h0, l0, h2, l2, h3, l3⟩ := hF
    refine norm_ (a' := ?_) ?_ ?_
    rotate_left
    · simp only [putAll, Act.put, List.setIfInBounds_toArray, List.set_cons_zero, List.set_cons_succ]
      rfl
    refine wpAnyLast_ready (rs := [4, 8]) (by kernel_rfl) (by simp) (AllReadyL.cons rfl (by decide) (fun K hK => ?_) (AllReadyL.cons rfl (by decide) (fun K hK => ?_) (AllReadyL.nil)))
    · refine (goes_ Tryd.func32 (by kernel_rfl) rfl #[.pointer (some ⟨o, 0, none⟩), .int .i64 0, .slice (some ⟨g0, 0, none⟩) 4 4] (by rfl) rfl rfl (by (try simp only [List.map_toArray, List.map_cons, List.map_nil]); first | done | rfl) ?_)
      refine (p_numbered _ _ _ _ _).mono ?_
      rintro e w2 ⟨rfl, hb⟩
      refine ⟨_, rfl, ?_⟩
      refine hK.out _ _ trivial (fun _ => ?_)
      refine norm_ ?_ (st023_1 (g0, g1, g2, g3) _ ?_)
      · show Act.put _ (some 7) _ = _
        simp only [putAll, Act.put, List.setIfInBounds_toArray, List.set_cons_zero, List.set_cons_succ]
      · exact ⟨below_then hB hB.size hb, blk_below h0 hb, l0, blk_below h2 hb, l2, blk_below h3 hb, l3⟩
    · go_simp
      refine hK.out _ _ trivial (fun _ => ?_)
      refine norm_ ?_ (st0123_0 (g0, w1.heap.size, g2, g3) _ ?_)
      · simp only [putAll, Act.put, List.setIfInBounds_toArray, List.set_cons_zero, List.set_cons_succ]
      · exact ⟨below_alloc hB _, blk_alloc h0 _, l0, blk_new w1 _, hB.size, blk_alloc h2 _, l2, blk_alloc h3 _, l3⟩
  refine join_ (σ := Nat × Nat × Nat × Nat) 17 #[true, true, true, false, false, true, true, true, true, false, true, true, true, true, false, true, true, true, true, false, true, true, true, false, true, true, true, false, true, true, true, false, true, true, true, false, true, true, true, false, true, true, true, false, true, true, true, false, true, true, true, false, true, true, true, false, true, true, true, false, false, false] (fun | (g0, g1, g2, g3) => [(11, .slice (some ⟨g1, 0, none⟩) 4 4), (16, .slice (some ⟨g2, 0, none⟩) 4 4), (21, .slice (some ⟨g3, 0, none⟩) 4 4)]) (fun s w' => match s with | (g0, g1, g2, g3) => Below w.heap.size w w' ∧ w'.heap[g1]? = some (.cells (wcells 1) 9 (0, 0)) ∧ w.heap.size ≤ g1 ∧ w'.heap[g2]? = some (.cells (wcells 2) 9 (0, 0)) ∧ w.heap.size ≤ g2 ∧ w'.heap[g3]? = some (.cells (wcells 3) 9 (0, 0)) ∧ w.heap.size ≤ g3) ?_ (fun st123_0 => ?_)
  · rintro ⟨g0, g1, g2, g3⟩ w1 hF
    obtain ⟨hB, h1, l1, h2, l2, h3, l3⟩ := hF
    refine norm_ (a' := ?_) ?_ ?_
    rotate_left
    · simp only [putAll, Act.put, List.setIfInBounds_toArray, List.set_cons_zero, List.set_cons_succ]
      rfl
    refine wpAnyLast_ready (rs := [3]) (by kernel_rfl) (by simp) (AllReadyL.cons rfl (by decide) (fun K hK => ?_) (AllReadyL.nil))
    · go_simp
      refine hK.out _ _ trivial (fun _ => ?_)
      refine norm_ ?_ (st0123_0 (w1.heap.size, g1, g2, g3) _ ?_)
      · simp only [putAll, Act.put, List.setIfInBounds_toArray, List.set_cons_zero, List.set_cons_succ]
      · exact ⟨below_alloc hB _, blk_new w1 _, hB.size, blk_alloc h1 _, l1, blk_alloc h2 _, l2, blk_alloc h3 _, l3⟩
  refine join_ (σ := Nat × Nat × Nat × Nat) 18 #[true, true, true, true, true, true, true, true, false, false, true, true, true, false, false, true, true, true, false, false, true, true, true, false, true, true, true, false, true, true, true, false, true, true, true, false, true, true, true, false, true, true, true, false, true, true, true, false, true, true, true, false, true, true, true, false, true, true, true, false, false, false] (fun | (g0, g1, g2, g3) => [(6, .slice (some ⟨g0, 0, none⟩) 4 4), (7, .agg #[.slice (some ⟨g0, 0, none⟩) 4 4, .pointer (some ⟨o, 0, none⟩), .pointer none, .int .i64 0])]) (fun s w' => match s with | (g0, g1, g2, g3) => Below w.heap.size w w' ∧ w'.heap[g0]? = some (.cells (wcells 0) 9 (0, 0)) ∧ w.heap.size ≤ g0) ?_ (fun st0_1 => ?_)
  · rintro ⟨g0, g1, g2, g3⟩ w1 hF
    obtain ⟨hB, h0, l0⟩ := hF
    refine norm_ (a' := ?_) ?_ ?_
    rotate_left
    · simp only [putAll, Act.put, List.setIfInBounds_toArray, List.set_cons_zero, List.set_cons_succ]
      rfl
    refine wpAnyLast_ready (rs := [8, 13, 18]) (by kernel_rfl) (by simp) (AllReadyL.cons rfl (by decide) (fun K hK => ?_) (AllReadyL.cons rfl (by decide) (fun K hK => ?_) (AllReadyL.cons rfl (by decide) (fun K hK => ?_) (AllReadyL.nil))))
    · go_simp
      refine hK.out _ _ trivial (fun _ => ?_)
      refine norm_ ?_ (st01_1 (g0, w1.heap.size, g2, g3) _ ?_)
      · simp only [putAll, Act.put, List.setIfInBounds_toArray, List.set_cons_zero, List.set_cons_succ]
      · exact ⟨below_alloc hB _, blk_alloc h0 _, l0, blk_new w1 _, hB.size⟩
    · go_simp
      refine hK.out _ _ trivial (fun _ => ?_)
      refine norm_ ?_ (st02_1 (g0, g1, w1.heap.size, g3) _ ?_)
      · simp only [putAll, Act.put, List.setIfInBounds_toArray, List.set_cons_zero, List.set_cons_succ]
      · exact ⟨below_alloc hB _, blk_alloc h0 _, l0, blk_new w1 _, hB.size⟩
    · go_simp
      refine hK.out _ _ trivial (fun _ => ?_)
      refine norm_ ?_ (st03_1 (g0, g1, g2, w1.heap.size) _ ?_)
      · simp only [putAll, Act.put, List.setIfInBounds_toArray, List.set_cons_zero, List.set_cons_succ]
      · exact ⟨below_alloc hB _, blk_alloc h0 _, l0, blk_new w1 _, hB.size⟩
  refine join_ (σ := Nat × Nat × Nat × Nat) 18 #[true, true, true, true, false, true, true, true, true, false, true, true, true, false, false, true, true, true, false, false, true, true, true, false, true, true, true, false, true, true, true, false, true, true, true, false, true, true, true, false, true, true, true, false, true, true, true, false, true, true, true, false, true, true, true, false, true, true, true, false, false, false] (fun | (g0, g1, g2, g3) => [(6, .slice (some ⟨g0, 0, none⟩) 4 4), (11, .slice (some ⟨g1, 0, none⟩) 4 4)]) (fun s w' => match s with | (g0, g1, g2, g3) => Below w.heap.size w w' ∧ w'.heap[g0]? = some (.cells (wcells 0) 9 (0, 0)) ∧ w.heap.size ≤ g0 ∧ w'.heap[g1]? = some (.cells (wcells 1) 9 (0, 0)) ∧ w.heap.size ≤ g1) ?_ (fun st01_0 => ?_)
  · rintro ⟨g0, g1, g2, g3⟩ w1 hF
    obtain ⟨hB, h0, l0, h1, l1⟩ := hF
    refine norm_ (a' := ?_) ?_ ?_
    rotate_left
    · simp only [putAll, Act.put, List.setIfInBounds_toArray, List.set_cons_zero, List.set_cons_succ]
      rfl
    refine wpAnyLast_ready (rs := [4, 13, 18]) (by kernel_rfl) (by simp) (AllReadyL.cons rfl (by decide) (fun K hK => ?_) (AllReadyL.cons rfl (by decide) (fun K hK => ?_) (AllReadyL.cons rfl (by decide) (fun K hK => ?_) (AllReadyL.nil))))
    · refine (goes_ Tryd.func32 (by kernel_rfl) rfl #[.pointer (some ⟨o, 0, none⟩), .int .i64 0, .slice (some ⟨g0, 0, none⟩) 4 4] (by rfl) rfl rfl (by (try simp only [List.map_toArray, List.map_cons, List.map_nil]); first | done | rfl) ?_)
      refine (p_numbered _ _ _ _ _).mono ?_
      rintro e w2 ⟨rfl, hb⟩
      refine ⟨_, rfl, ?_⟩
      refine hK.out _ _ trivial (fun _ => ?_)
      refine norm_ ?_ (st01_1 (g0, g1, g2, g3) _ ?_)
      · show Act.put _ (some 7) _ = _
        simp only [putAll, Act.put, List.setIfInBounds_toArray, List.set_cons_zero, List.set_cons_succ]
      · exact ⟨below_then hB hB.size hb, blk_below h0 hb, l0, blk_below h1 hb, l1⟩
    · go_simp
      refine hK.out _ _ trivial (fun _ => ?_)
      refine norm_ ?_ (st012_0 (g0, g1, w1.heap.size, g3) _ ?_)
      · simp only [putAll, Act.put, List.setIfInBounds_toArray, List.set_cons_zero, List.set_cons_succ]
      · exact ⟨below_alloc hB _, blk_alloc h0 _, l0, blk_alloc h1 _, l1, blk_new w1 _, hB.size⟩
    · go_simp
      refine hK.out _ _ trivial (fun _ => ?_)
      refine norm_ ?_ (st013_0 (g0, g1, g2, w1.heap.size) _ ?_)
      · simp only [putAll, Act.put, List.setIfInBounds_toArray, List.set_cons_zero, List.set_cons_succ]
      · exact ⟨below_alloc hB _, blk_alloc h0 _, l0, blk_alloc h1 _, l1, blk_new w1 _, hB.size⟩
  refine join_ (σ := Nat × Nat × Nat × Nat) 18 #[true, true, true, true, false, true, true, true, false, false, true, true, true, true, false, true, true, true, false, false, true, true, true, false, true, true, true, false, true, true, true, false, true, true, true, false, true, true, true, false, true, true, true, false, true, true, true, false, true, true, true, false, true, true, true, false, true, true, true, false, false, false] (fun | (g0, g1, g2, g3) => [(6, .slice (some ⟨g0, 0, none⟩) 4 4), (16, .slice (some ⟨g2, 0, none⟩) 4 4)]) (fun s w' => match s with | (g0, g1, g2, g3) => Below w.heap.size w w' ∧ w'.heap[g0]? = some (.cells (wcells 0) 9 (0, 0)) ∧ w.heap.size ≤ g0 ∧ w'.heap[g2]? = some (.cells (wcells 2) 9 (0, 0)) ∧ w.heap.size ≤ g2) ?_ (fun st02_0 => ?_)
  · rintro ⟨g0, g1, g2, g3⟩ w1 hF
    obtain ⟨hB, h0, l0, h2, l2⟩ := hF
    refine norm_ (a' := ?_) ?_ ?_
    rotate_left
    · simp only [putAll, Act.put, List.setIfInBounds_toArray, List.set_cons_zero, List.set_cons_succ]
      rfl
    refine wpAnyLast_ready (rs := [4, 8, 18]) (by kernel_rfl) (by simp) (AllReadyL.cons rfl (by decide) (fun K hK => ?_) (AllReadyL.cons rfl (by decide) (fun K hK => ?_) (AllReadyL.cons rfl (by decide) (fun K hK => ?_) (AllReadyL.nil))))
    · refine (goes_ Tryd.func32 (by kernel_rfl) rfl #[.pointer (some ⟨o, 0, none⟩), .int .i64 0, .slice (some ⟨g0, 0, none⟩) 4 4] (by rfl) rfl rfl (by (try simp only [List.map_toArray, List.map_cons, List.map_nil]); first | done | rfl) ?_)
      refine (p_numbered _ _ _ _ _).mono ?_
      rintro e w2 ⟨rfl, hb⟩
      refine ⟨_, rfl, ?_⟩
      refine hK.out _ _ trivial (fun _ => ?_)
      refine norm_ ?_ (st02_1 (g0, g1, g2, g3) _ ?_)
      · show Act.put _ (some 7) _ = _
        simp only [putAll, Act.put, List.setIfInBounds_toArray, List.set_cons_zero, List.set_cons_succ]
      · exact ⟨below_then hB hB.size hb, blk_below h0 hb, l0, blk_below h2 hb, l2⟩
    · go_simp
      refine hK.out _ _ trivial (fun _ => ?_)
      refine norm_ ?_ (st012_0 (g0, w1.heap.size, g2, g3) _ ?_)
      · simp only [putAll, Act.put, List.setIfInBounds_toArray, List.set_cons_zero, List.set_cons_succ]
      · exact ⟨below_alloc hB _, blk_alloc h0 _, l0, blk_new w1 _, hB.size, blk_alloc h2 _, l2⟩
    · go_simp
      refine hK.out _ _ trivial (fun _ => ?_)
      refine norm_ ?_ (st023_0 (g0, g1, g2, w1.heap.size) _ ?_)
      · simp only [putAll, Act.put, List.setIfInBounds_toArray, List.set_cons_zero, List.set_cons_succ]
      · exact ⟨below_alloc hB _, blk_alloc h0 _, l0, blk_alloc h2 _, l2, blk_new w1 _, hB.size⟩
  refine join_ (σ := Nat × Nat × Nat × Nat) 18 #[true, true, true, true, false, true, true, true, false, false, true, true, true, false, false, true, true, true, true, false, true, true, true, false, true, true, true, false, true, true, true, false, true, true, true, false, true, true, true, false, true, true, true, false, true, true, true, false, true, true, true, false, true, true, true, false, true, true, true, false, false, false] (fun | (g0, g1, g2, g3) => [(6, .slice (some ⟨g0, 0, none⟩) 4 4), (21, .slice (some ⟨g3, 0, none⟩) 4 4)]) (fun s w' => match s with | (g0, g1, g2, g3) => Below w.heap.size w w' ∧ w'.heap[g0]? = some (.cells (wcells 0) 9 (0, 0)) ∧ w.heap.size ≤ g0 ∧ w'.heap[g3]? = some (.cells (wcells 3) 9 (0, 0)) ∧ w.heap.size ≤ g3) ?_ (fun st03_0 => ?_)
  · rintro ⟨g0, g1, g2, g3⟩ w1 hF
    obtain ⟨hB, h0, l0, h3, l3⟩ := hF
    refine norm_ (a' := ?_) ?_ ?_
    rotate_left
    · simp only [putAll, Act.put, List.setIfInBounds_toArray, List.set_cons_zero, List.set_cons_succ]
      rfl
    refine wpAnyLast_ready (rs := [4, 8, 13]) (by kernel_rfl) (by simp) (AllReadyL.cons rfl (by decide) (fun K hK => ?_) (AllReadyL.cons rfl (by decide) (fun K hK => ?_) (AllReadyL.cons rfl (by decide) (fun K hK => ?_) (AllReadyL.nil))))
    · refine (goes_ Tryd.func32 (by kernel_rfl) rfl #[.pointer (some ⟨o, 0, none⟩), .int .i64 0, .slice (some ⟨g0, 0, none⟩) 4 4] (by rfl) rfl rfl (by (try simp only [List.map_toArray, List.map_cons, List.map_nil]); first | done | rfl) ?_)
      refine (p_numbered _ _ _ _ _).mono ?_
      rintro e w2 ⟨rfl, hb⟩
      refine ⟨_, rfl, ?_⟩
      refine hK.out _ _ trivial (fun _ => ?_)
      refine norm_ ?_ (st03_1 (g0, g1, g2, g3) _ ?_)
      · show Act.put _ (some 7) _ = _
        simp only [putAll, Act.put, List.setIfInBounds_toArray, List.set_cons_zero, List.set_cons_succ]
      · exact ⟨below_then hB hB.size hb, blk_below h0 hb, l0, blk_below h3 hb, l3⟩
    · go_simp
      refine hK.out _ _ trivial (fun _ => ?_)
      refine norm_ ?_ (st013_0 (g0, w1.heap.size, g2, g3) _ ?_)
      · simp only [putAll, Act.put, List.setIfInBounds_toArray, List.set_cons_zero, List.set_cons_succ]
      · exact ⟨below_alloc hB _, blk_alloc h0 _, l0, blk_new w1 _, hB.size, blk_alloc h3 _, l3⟩
    · go_simp
      refine hK.out _ _ trivial (fun _ => ?_)
      refine norm_ ?_ (st023_0 (g0, g1, w1.heap.size, g3) _ ?_)
      · simp only [putAll, Act.put, List.setIfInBounds_toArray, List.set_cons_zero, List.set_cons_succ]
      · exact ⟨below_alloc hB _, blk_alloc h0 _, l0, blk_new w1 _, hB.size, blk_alloc h3 _, l3⟩
  refine join_ (σ := Nat × Nat × Nat × Nat) 18 #[true, true, true, false, false, true, true, true, true, false, true, true, true, true, false, true, true, true, false, false, true, true, true, false, true, true, true, false, true, true, true, false, true, true, true, false, true, true, true, false, true, true, true, false, true, true, true, false, true, true, true, false, true, true, true, false, true, true, true, false, false, false] (fun | (g0, g1, g2, g3) => [(11, .slice (some ⟨g1, 0, none⟩) 4 4), (16, .slice (some ⟨g2, 0, none⟩) 4 4)]) (fun s w' => match s with | (g0, g1, g2, g3) => Below w.heap.size w w' ∧ w'.heap[g1]? = some (.cells (wcells 1) 9 (0, 0)) ∧ w.heap.size ≤ g1 ∧ w'.heap[g2]? = some (.cells (wcells 2) 9 (0, 0)) ∧ w.heap.size ≤ g2) ?_ (fun st12_0 => ?_)
  · rintro ⟨g0, g1, g2, g3⟩ w1 hF
    obtain ⟨hB, h1, l1, h2, l2⟩ := hF
    refine norm_ (a' := ?_) ?_ ?_
    rotate_left
    · simp only [putAll, Act.put, List.setIfInBounds_toArray, List.set_cons_zero, List.set_cons_succ]
      rfl
    refine wpAnyLast_ready (rs := [3, 18]) (by kernel_rfl) (by simp) (AllReadyL.cons rfl (by decide) (fun K hK => ?_) (AllReadyL.cons rfl (by decide) (fun K hK => ?_) (AllReadyL.nil)))
    · go_simp
      refine hK.out _ _ trivial (fun _ => ?_)
      refine norm_ ?_ (st012_0 (w1.heap.size, g1, g2, g3) _ ?_)
      · simp only [putAll, Act.put, List.setIfInBounds_toArray, List.set_cons_zero, List.set_cons_succ]
      · exact ⟨below_alloc hB _, blk_new w1 _, hB.size, blk_alloc h1 _, l1, blk_alloc h2 _, l2⟩
    · go_simp
      refine hK.out _ _ trivial (fun _ => ?_)
      refine norm_ ?_ (st123_0 (g0, g1, g2, w1.heap.size) _ ?_)
      · simp only [putAll, Act.put, List.setIfInBounds_toArray, List.set_cons_zero, List.set_cons_succ]
      · exact ⟨below_alloc hB _, blk_alloc h1 _, l1, blk_alloc h2 _, l2, blk_new w1 _, hB.size⟩
  refine join_ (σ := Nat × Nat × Nat × Nat) 18 #[true, true, true, false, false, true, true, true, true, false, true, true, true, false, false, true, true, true, true, false, true, true, true, false, true, true, true, false, true, true, true, false, true, true, true, false, true, true, true, false, true, true, true, false, true, true, true, false, true, true, true, false, true, true, true, false, true, true, true, false, false, false] (fun | (g0, g1, g2, g3) => [(11, .slice (some ⟨g1, 0, none⟩) 4 4), (21, .slice (some ⟨g3, 0, none⟩) 4 4)]) (fun s w' => match s with | (g0, g1, g2, g3) => Below w.heap.size w w' ∧ w'.heap[g1]? = some (.cells (wcells 1) 9 (0, 0)) ∧ w.heap.size ≤ g1 ∧ w'.heap[g3]? = some (.cells (wcells 3) 9 (0, 0)) ∧ w.heap.size ≤ g3) ?_ (fun st13_0 => ?_)
  · rintro ⟨g0, g1, g2, g3⟩ w1 hF
    obtain ⟨hB, h1, l1, h3, l3⟩ := hF
    refine norm_ (a' := ?_) ?_ ?_
    rotate_left
    · simp only [putAll, Act.put, List.setIfInBounds_toArray, List.set_cons_zero, List.set_cons_succ]
      rfl
    refine wpAnyLast_ready (rs := [3, 13]) (by kernel_rfl) (by simp) (AllReadyL.cons rfl (by decide) (fun K hK => ?_) (AllReadyL.cons rfl (by decide) (fun K hK => ?_) (AllReadyL.nil)))
    · go_simp
      refine hK.out _ _ trivial (fun _ => ?_)
      refine norm_ ?_ (st013_0 (w1.heap.size, g1, g2, g3) _ ?_)
      · simp only [putAll, Act.put, List.setIfInBounds_toArray, List.set_cons_zero, List.set_cons_succ]
      · exact ⟨below_alloc hB _, blk_new w1 _, hB.size, blk_alloc h1 _, l1, blk_alloc h3 _, l3⟩
    · go_simp
      refine hK.out _ _ trivial (fun _ => ?_)
      refine norm_ ?_ (st123_0 (g0, g1, w1.heap.size, g3) _ ?_)
      · simp only [putAll, Act.put, List.setIfInBounds_toArray, List.set_cons_zero, List.set_cons_succ]
      · exact ⟨below_alloc hB _, blk_alloc h1 _, l1, blk_new w1 _, hB.size, blk_alloc h3 _, l3⟩
  refine join_ (σ := Nat × Nat × Nat × Nat) 18 #[true, true, true, false, false, true, true, true, false, false, true, true, true, true, false, true, true, true, true, false, true, true, true, false, true, true, true, false, true, true, true, false, true, true, true, false, true, true, true, false, true, true, true, false, true, true, true, false, true, true, true, false, true, true, true, false, true, true, true, false, false, false] (fun | (g0, g1, g2, g3) => [(16, .slice (some ⟨g2, 0, none⟩) 4 4), (21, .slice (some ⟨g3, 0, none⟩) 4 4)]) (fun s w' => match s with | (g0, g1, g2, g3) => Below w.heap.size w w' ∧ w'.heap[g2]? = some (.cells (wcells 2) 9 (0, 0)) ∧ w.heap.size ≤ g2 ∧ w'.heap[g3]? = some (.cells (wcells 3) 9 (0, 0)) ∧ w.heap.size ≤ g3) ?_ (fun st23_0 => ?_)
  · rintro ⟨g0, g1, g2, g3⟩ w1 hF
    obtain ⟨hB, h2, l2, h3, l3⟩ := hF
    refine norm_ (a' := ?_) ?_ ?_
    rotate_left
    · simp only [putAll, Act.put, List.setIfInBounds_toArray, List.set_cons_zero, List.set_cons_succ]
      rfl
    refine wpAnyLast_ready (rs := [3, 8]) (by kernel_rfl) (by simp) (AllReadyL.cons rfl (by decide) (fun K hK => ?_) (AllReadyL.cons rfl (by decide) (fun K hK => ?_) (AllReadyL.nil)))
    · go_simp
      refine hK.out _ _ trivial (fun _ => ?_)
      refine norm_ ?_ (st023_0 (w1.heap.size, g1, g2, g3) _ ?_)
      · simp only [putAll, Act.put, List.setIfInBounds_toArray, List.set_cons_zero, List.set_cons_succ]
      · exact ⟨below_alloc hB _, blk_new w1 _, hB.size, blk_alloc h2 _, l2, blk_alloc h3 _, l3⟩
    · go_simp
      refine hK.out _ _ trivial (fun _ => ?_)
      refine norm_ ?_ (st123_0 (g0, w1.heap.size, g2, g3) _ ?_)
      · simp only [putAll, Act.put, List.setIfInBounds_toArray, List.set_cons_zero, List.set_cons_succ]
      · exact ⟨below_alloc hB _, blk_new w1 _, hB.size, blk_alloc h2 _, l2, blk_alloc h3 _, l3⟩
  refine join_ (σ := Nat × Nat × Nat × Nat) 19 #[true, true, true, true, false, true, true, true, false, false, true, true, true, false, false, true, true, true, false, false, true, true, true, false, true, true, true, false, true, true, true, false, true, true, true, false, true, true, true, false, true, true, true, false, true, true, true, false, true, true, true, false, true, true, true, false, true, true, true, false, false, false] (fun | (g0, g1, g2, g3) => [(6, .slice (some ⟨g0, 0, none⟩) 4 4)]) (fun s w' => match s with | (g0, g1, g2, g3) => Below w.heap.size w w' ∧ w'.heap[g0]? = some (.cells (wcells 0) 9 (0, 0)) ∧ w.heap.size ≤ g0) ?_ (fun st0_0 => ?_)
  · rintro ⟨g0, g1, g2, g3⟩ w1 hF
    obtain ⟨hB, h0, l0⟩ := hF
    refine norm_ (a' := ?_) ?_ ?_
    rotate_left
    · simp only [putAll, Act.put, List.setIfInBounds_toArray, List.set_cons_zero, List.set_cons_succ]
      rfl
    refine wpAnyLast_ready (rs := [4, 8, 13, 18]) (by kernel_rfl) (by simp) (AllReadyL.cons rfl (by decide) (fun K hK => ?_) (AllReadyL.cons rfl (by decide) (fun K hK => ?_) (AllReadyL.cons rfl (by decide) (fun K hK => ?_) (AllReadyL.cons rfl (by decide) (fun K hK => ?_) (AllReadyL.nil)))))
    · refine (goes_ Tryd.func32 (by kernel_rfl) rfl #[.pointer (some ⟨o, 0, none⟩), .int .i64 0, .slice (some ⟨g0, 0, none⟩) 4 4] (by rfl) rfl rfl (by (try simp only [List.map_toArray, List.map_cons, List.map_nil]); first | done | rfl) ?_)
      refine (p_numbered _ _ _ _ _).mono ?_
      rintro e w2 ⟨rfl, hb⟩
      refine ⟨_, rfl, ?_⟩
      refine hK.out _ _ trivial (fun _ => ?_)
      refine norm_ ?_ (st0_1 (g0, g1, g2, g3) _ ?_)
      · show Act.put _ (some 7) _ = _
        simp only [putAll, Act.put, List.setIfInBounds_toArray, List.set_cons_zero, List.set_cons_succ]
      · exact ⟨below_then hB hB.size hb, blk_below h0 hb, l0⟩
    · go_simp
      refine hK.out _ _ trivial (fun _ => ?_)
      refine norm_ ?_ (st01_0 (g0, w1.heap.size, g2, g3) _ ?_)
      · simp only [putAll, Act.put, List.setIfInBounds_toArray, List.set_cons_zero, List.set_cons_succ]
      · exact ⟨below_alloc hB _, blk_alloc h0 _, l0, blk_new w1 _, hB.size⟩
    · go_simp
      refine hK.out _ _ trivial (fun _ => ?_)
      refine norm_ ?_ (st02_0 (g0, g1, w1.heap.size, g3) _ ?_)
      · simp only [putAll, Act.put, List.setIfInBounds_toArray, List.set_cons_zero, List.set_cons_succ]
      · exact ⟨below_alloc hB _, blk_alloc h0 _, l0, blk_new w1 _, hB.size⟩
    · go_simp
      refine hK.out _ _ trivial (fun _ => ?_)
      refine norm_ ?_ (st03_0 (g0, g1, g2, w1.heap.size) _ ?_)
      · simp only [putAll, Act.put, List.setIfInBounds_toArray, List.set_cons_zero, List.set_cons_succ]
      · exact ⟨below_alloc hB _, blk_alloc h0 _, l0, blk_new w1 _, hB.size⟩
  refine join_ (σ := Nat × Nat × Nat × Nat) 19 #[true, true, true, false, false, true, true, true, true, false, true, true, true, false, false, true, true, true, false, false, true, true, true, false, true, true, true, false, true, true, true, false, true, true, true, false, true, true, true, false, true, true, true, false, true, true, true, false, true, true, true, false, true, true, true, false, true, true, true, false, false, false] (fun | (g0, g1, g2, g3) => [(11, .slice (some ⟨g1, 0, none⟩) 4 4)]) (fun s w' => match s with | (g0, g1, g2, g3) => Below w.heap.size w w' ∧ w'.heap[g1]? = some (.cells (wcells 1) 9 (0, 0)) ∧ w.heap.size ≤ g1) ?_ (fun st1_0 => ?_)
  · rintro ⟨g0, g1, g2, g3⟩ w1 hF
    obtain ⟨hB, h1, l1⟩ := hF
    refine norm_ (a' := ?_) ?_ ?_
    rotate_left
    · simp only [putAll, Act.put, List.setIfInBounds_toArray, List.set_cons_zero, List.set_cons_succ]
      rfl
    refine wpAnyLast_ready (rs := [3, 13, 18]) (by kernel_rfl) (by simp) (AllReadyL.cons rfl (by decide) (fun K hK => ?_) (AllReadyL.cons rfl (by decide) (fun K hK => ?_) (AllReadyL.cons rfl (by decide) (fun K hK => ?_) (AllReadyL.nil))))
    · go_simp
      refine hK.out _ _ trivial (fun _ => ?_)
      refine norm_ ?_ (st01_0 (w1.heap.size, g1, g2, g3) _ ?_)
      · simp only [putAll, Act.put, List.setIfInBounds_toArray, List.set_cons_zero, List.set_cons_succ]
      · exact ⟨below_alloc hB _, blk_new w1 _, hB.size, blk_alloc h1 _, l1⟩
    · go_simp
      refine hK.out _ _ trivial (fun _ => ?_)
      refine norm_ ?_ (st12_0 (g0, g1, w1.heap.size, g3) _ ?_)
      · simp only [putAll, Act.put, List.setIfInBounds_toArray, List.set_cons_zero, List.set_cons_succ]
      · exact ⟨below_alloc hB _, blk_alloc h1 _, l1, blk_new w1 _, hB.size⟩
    · go_simp
      refine hK.out _ _ trivial (fun _ => ?_)
      refine norm_ ?_ (st13_0 (g0, g1, g2, w1.heap.size) _ ?_)
      · simp only [putAll, Act.put, List.setIfInBounds_toArray, List.set_cons_zero, List.set_cons_succ]
      · exact ⟨below_alloc hB _, blk_alloc h1 _, l1, blk_new w1 _, hB.size⟩
  refine join_ (σ := Nat × Nat × Nat × Nat) 19 #[true, true, true, false, false, true, true, true, false, false, true, true, true, true, false, true, true, true, false, false, true, true, true, false, true, true, true, false, true, true, true, false, true, true, true, false, true, true, true, false, true, true, true, false, true, true, true, false, true, true, true, false, true, true, true, false, true, true, true, false, false, false] (fun | (g0, g1, g2, g3) => [(16, .slice (some ⟨g2, 0, none⟩) 4 4)]) (fun s w' => match s with | (g0, g1, g2, g3) => Below w.heap.size w w' ∧ w'.heap[g2]? = some (.cells (wcells 2) 9 (0, 0)) ∧ w.heap.size ≤ g2) ?_ (fun st2_0 => ?_)
  · rintro ⟨g0, g1, g2, g3⟩ w1 hF
    obtain ⟨hB, h2, l2⟩ := hF
    refine norm_ (a' := ?_) ?_ ?_
    rotate_left
    · simp only [putAll, Act.put, List.setIfInBounds_toArray, List.set_cons_zero, List.set_cons_succ]
      rfl
    refine wpAnyLast_ready (rs := [3, 8, 18]) (by kernel_rfl) (by simp) (AllReadyL.cons rfl (by decide) (fun K hK => ?_) (AllReadyL.cons rfl (by decide) (fun K hK => ?_) (AllReadyL.cons rfl (by decide) (fun K hK => ?_) (AllReadyL.nil))))
    · go_simp
      refine hK.out _ _ trivial (fun _ => ?_)
      refine norm_ ?_ (st02_0 (w1.heap.size, g1, g2, g3) _ ?_)
      · simp only [putAll, Act.put, List.setIfInBounds_toArray, List.set_cons_zero, List.set_cons_succ]
      · exact ⟨below_alloc hB _, blk_new w1 _, hB.size, blk_alloc h2 _, l2⟩
    · go_simp
      refine hK.out _ _ trivial (fun _ => ?_)
      refine norm_ ?_ (st12_0 (g0, w1.heap.size, g2, g3) _ ?_)
      · simp only [putAll, Act.put, List.setIfInBounds_toArray, List.set_cons_zero, List.set_cons_succ]
      · exact ⟨below_alloc hB _, blk_new w1 _, hB.size, blk_alloc h2 _, l2⟩
    · go_simp
      refine hK.out _ _ trivial (fun _ => ?_)
      refine norm_ ?_ (st23_0 (g0, g1, g2, w1.heap.size) _ ?_)
      · simp only [putAll, Act.put, List.setIfInBounds_toArray, List.set_cons_zero, List.set_cons_succ]
      · exact ⟨below_alloc hB _, blk_alloc h2 _, l2, blk_new w1 _, hB.size⟩
  refine join_ (σ := Nat × Nat × Nat × Nat) 19 #[true, true, true, false, false, true, true, true, false, false, true, true, true, false, false, true, true, true, true, false, true, true, true, false, true, true, true, false, true, true, true, false, true, true, true, false, true, true, true, false, true, true, true, false, true, true, true, false, true, true, true, false, true, true, true, false, true, true, true, false, false, false] (fun | (g0, g1, g2, g3) => [(21, .slice (some ⟨g3, 0, none⟩) 4 4)]) (fun s w' => match s with | (g0, g1, g2, g3) => Below w.heap.size w w' ∧ w'.heap[g3]? = some (.cells (wcells 3) 9 (0, 0)) ∧ w.heap.size ≤ g3) ?_ (fun st3_0 => ?_)
  · rintro ⟨g0, g1, g2, g3⟩ w1 hF
    obtain ⟨hB, h3, l3⟩ := hF
    refine norm_ (a' := ?_) ?_ ?_
    rotate_left
    · simp only [putAll, Act.put, List.setIfInBounds_toArray, List.set_cons_zero, List.set_cons_succ]
      rfl
    refine wpAnyLast_ready (rs := [3, 8, 13]) (by kernel_rfl) (by simp) (AllReadyL.cons rfl (by decide) (fun K hK => ?_) (AllReadyL.cons rfl (by decide) (fun K hK => ?_) (AllReadyL.cons rfl (by decide) (fun K hK => ?_) (AllReadyL.nil))))
    · go_simp
      refine hK.out _ _ trivial (fun _ => ?_)
      refine norm_ ?_ (st03_0 (w1.heap.size, g1, g2, g3) _ ?_)
      · simp only [putAll, Act.put, List.setIfInBounds_toArray, List.set_cons_zero, List.set_cons_succ]
      · exact ⟨below_alloc hB _, blk_new w1 _, hB.size, blk_alloc h3 _, l3⟩
    · go_simp
      refine hK.out _ _ trivial (fun _ => ?_)
      refine norm_ ?_ (st13_0 (g0, w1.heap.size, g2, g3) _ ?_)
      · simp only [putAll, Act.put, List.setIfInBounds_toArray, List.set_cons_zero, List.set_cons_succ]
      · exact ⟨below_alloc hB _, blk_new w1 _, hB.size, blk_alloc h3 _, l3⟩
    · go_simp
      refine hK.out _ _ trivial (fun _ => ?_)
      refine norm_ ?_ (st23_0 (g0, g1, w1.heap.size, g3) _ ?_)
      · simp only [putAll, Act.put, List.setIfInBounds_toArray, List.set_cons_zero, List.set_cons_succ]
      · exact ⟨below_alloc hB _, blk_new w1 _, hB.size, blk_alloc h3 _, l3⟩
  have hB : Below w.heap.size w w.drew := below_drew (Below.refl _ _)
  generalize w.drew = w1 at hB hHeld ⊢
  refine wpAnyLast_ready (rs := [3, 8, 13, 18]) (by kernel_rfl) (by simp) (AllReadyL.cons rfl (by decide) (fun K hK => ?_) (AllReadyL.cons rfl (by decide) (fun K hK => ?_) (AllReadyL.cons rfl (by decide) (fun K hK => ?_) (AllReadyL.cons rfl (by decide) (fun K hK => ?_) (AllReadyL.nil)))))
  · go_simp
    refine hK.out _ _ trivial (fun _ => ?_)
    refine norm_ ?_ (st0_0 (w1.heap.size, 0, 0, 0) _ ?_)
    · simp only [putAll, Act.put, List.setIfInBounds_toArray, List.set_cons_zero, List.set_cons_succ]
    · exact ⟨below_alloc hB _, blk_new w1 _, hB.size⟩
  · go_simp
    refine hK.out _ _ trivial (fun _ => ?_)
    refine norm_ ?_ (st1_0 (0, w1.heap.size, 0, 0) _ ?_)
    · simp only [putAll, Act.put, List.setIfInBounds_toArray, List.set_cons_zero, List.set_cons_succ]
    · exact ⟨below_alloc hB _, blk_new w1 _, hB.size⟩
  · go_simp
    refine hK.out _ _ trivial (fun _ => ?_)
    refine norm_ ?_ (st2_0 (0, 0, w1.heap.size, 0) _ ?_)
    · simp only [putAll, Act.put, List.setIfInBounds_toArray, List.set_cons_zero, List.set_cons_succ]
    · exact ⟨below_alloc hB _, blk_new w1 _, hB.size⟩
  · go_simp
    refine hK.out _ _ trivial (fun _ => ?_)
    refine norm_ ?_ (st3_0 (0, 0, 0, w1.heap.size) _ ?_)
    · simp only [putAll, Act.put, List.setIfInBounds_toArray, List.set_cons_zero, List.set_cons_succ]
    · exact ⟨below_alloc hB _, blk_new w1 _, hB.size⟩
end Go.Proofs.YtknghhlielhleaaDoor.Stk
