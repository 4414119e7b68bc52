import Derived.Test.YtjnhepgjkphkoaaPOptionBitsx0
import Derived.Test.YtjnhepgjkphkoaaPOptionBitsx3
namespace Go.Proofs.Ytjnhepgjkphkoaa.POptionBits
open Go.RowKit Go.Proofs.YtjnhepgjkphkoaaM Go.Proofs.YtjnhepgjkphkoaaW.PrintWords Go.Proofs.YtjnhepgjkphkoaaW.PrintLast Go.Proofs.YtjnhepgjkphkoaaW.PrintMore
attribute [local go_sem] max2_int min2_int max_two min_two max_three min_three max_four min_four   -- for this text's walks alone
set_option linter.unusedVariables false
set_option linter.unusedSimpArgs false
set_option maxHeartbeats 8000000 in
set_option maxRecDepth 100000 in
theorem option_Bits.bitsof (g : Nat) (w : World) : Calls Try.prog 60 #[.pointer (some ⟨g, 0, none⟩)] w fun e w' => ∃ g3 : Nat, e = .returned (.slice (some ⟨g3, 0, none⟩) 10 10) ∧ Aside0 (w.heap.size ≤ g3 ∧ w'.heap[g3]? = some (.cells #[.pointer (some ⟨g, 4, none⟩), .int .i64 1, .pointer (some ⟨g, 5, none⟩), .int .i64 2, .pointer (some ⟨g, 6, none⟩), .int .i64 4, .pointer (some ⟨g, 7, none⟩), .int .i64 8, .pointer (some ⟨g, 8, none⟩), .int .i64 16, .pointer (some ⟨g, 9, none⟩), .int .i64 32, .pointer (some ⟨g, 10, none⟩), .int .i64 64, .pointer (some ⟨g, 11, none⟩), .int .i64 128, .pointer (some ⟨g, 12, none⟩), .int .i64 256, .pointer (some ⟨g, 13, none⟩), .int .i64 512] 82 (0, 0)) ∧ Below w.heap.size w w') := by
  have hu := Try.underlying78
  have hud := Try.underlying82
  have HB0 := Aside0.mk (Below.refl w.heap.size w)
  go_enter Try.func60, Try.ntmps60
  go_wp2
  have HB2 := Aside0.mk (below_drew1 HB0.out)
  refine start_ (n := 42) (S := fun _ => True) (ds := [40]) #[false, false, false, false, false, false, false, false, false, false, false, false, false, false, false, false, false, false, false, false, false, false, false, false, false, false, false, false, false, false, false, false, false, false, false, false, false, false, false, false, false, false] (by kernel_rfl) rfl rfl trivial (fun hHeld => ?_)
  generalize w.drew = w2 at HB2 hHeld ⊢
  refine pure_ (i := 0) (N := some 3) (v := ?_) (a' := ?_) #[true, false, false, false, false, false, false, false, false, false, false, false, false, false, false, false, false, false, false, false, false, false, false, false, false, false, false, false, false, false, false, false, false, false, false, false, false, false, false, false, false, false] rfl rfl (by kernel_rfl) (fun _ _ _ h => h) (Or.inl ⟨by rfl, ?_⟩) ?_ ?_
  rotate_left
  · intro w'
    go_simp
    with_reducible rfl
  rotate_left
  · simp only [Act.put, List.setIfInBounds_toArray, List.set_cons_zero, List.set_cons_succ, i64_w, i32_w]
    rfl
  refine pure_ (i := 1) (N := some 4) (v := ?_) (a' := ?_) #[true, true, false, false, false, false, false, false, false, false, false, false, false, false, false, false, false, false, false, false, false, false, false, false, false, false, false, false, false, false, false, false, false, false, false, false, false, false, false, false, false, false] rfl rfl (by kernel_rfl) (fun _ _ _ h => h) (Or.inl ⟨by rfl, ?_⟩) ?_ ?_
  rotate_left
  · intro w'
    go_simp
    with_reducible rfl
  rotate_left
  · simp only [Act.put, List.setIfInBounds_toArray, List.set_cons_zero, List.set_cons_succ, i64_w, i32_w]
    rfl
  refine pure_ (i := 2) (N := some 5) (v := ?_) (a' := ?_) #[true, true, true, false, false, false, false, false, false, false, false, false, false, false, false, false, false, false, false, false, false, false, false, false, false, false, false, false, false, false, false, false, false, false, false, false, false, false, false, false, false, false] rfl rfl (by kernel_rfl) (fun _ _ _ h => h) (Or.inl ⟨by rfl, ?_⟩) ?_ ?_
  rotate_left
  · intro w'
    go_simp
    with_reducible rfl
  rotate_left
  · simp only [Act.put, List.setIfInBounds_toArray, List.set_cons_zero, List.set_cons_succ, i64_w, i32_w]
    rfl
  refine pure_ (i := 3) (N := some 6) (v := ?_) (a' := ?_) #[true, true, true, true, false, false, false, false, false, false, false, false, false, false, false, false, false, false, false, false, false, false, false, false, false, false, false, false, false, false, false, false, false, false, false, false, false, false, false, false, false, false] rfl rfl (by kernel_rfl) (fun _ _ _ h => h) (Or.inl ⟨by rfl, ?_⟩) ?_ ?_
  rotate_left
  · intro w'
    go_simp
    with_reducible rfl
  rotate_left
  · simp only [Act.put, List.setIfInBounds_toArray, List.set_cons_zero, List.set_cons_succ, i64_w, i32_w]
    rfl
  refine pure_ (i := 4) (N := some 7) (v := ?_) (a' := ?_) #[true, true, true, true, true, false, false, false, false, false, false, false, false, false, false, false, false, false, false, false, false, false, false, false, false, false, false, false, false, false, false, false, false, false, false, false, false, false, false, false, false, false] rfl rfl (by kernel_rfl) (fun _ _ _ h => h) (Or.inl ⟨by rfl, ?_⟩) ?_ ?_
  rotate_left
  · intro w'
    go_simp
    with_reducible rfl
  rotate_left
  · simp only [Act.put, List.setIfInBounds_toArray, List.set_cons_zero, List.set_cons_succ, i64_w, i32_w]
    rfl
  refine pure_ (i := 5) (N := some 8) (v := ?_) (a' := ?_) #[true, true, true, true, true, true, false, false, false, false, false, false, false, false, false, false, false, false, false, false, false, false, false, false, false, false, false, false, false, false, false, false, false, false, false, false, false, false, false, false, false, false] rfl rfl (by kernel_rfl) (fun _ _ _ h => h) (Or.inl ⟨by rfl, ?_⟩) ?_ ?_
  rotate_left
  · intro w'
    go_simp
    with_reducible rfl
  rotate_left
  · simp only [Act.put, List.setIfInBounds_toArray, List.set_cons_zero, List.set_cons_succ, i64_w, i32_w]
    rfl
  refine pure_ (i := 6) (N := some 9) (v := ?_) (a' := ?_) #[true, true, true, true, true, true, true, false, false, false, false, false, false, false, false, false, false, false, false, false, false, false, false, false, false, false, false, false, false, false, false, false, false, false, false, false, false, false, false, false, false, false] rfl rfl (by kernel_rfl) (fun _ _ _ h => h) (Or.inl ⟨by rfl, ?_⟩) ?_ ?_
  rotate_left
  · intro w'
    go_simp
    with_reducible rfl
  rotate_left
  · simp only [Act.put, List.setIfInBounds_toArray, List.set_cons_zero, List.set_cons_succ, i64_w, i32_w]
    rfl
  refine pure_ (i := 7) (N := some 10) (v := ?_) (a' := ?_) #[true, true, true, true, true, true, true, true, false, false, false, false, false, false, false, false, false, false, false, false, false, false, false, false, false, false, false, false, false, false, false, false, false, false, false, false, false, false, false, false, false, false] rfl rfl (by kernel_rfl) (fun _ _ _ h => h) (Or.inl ⟨by rfl, ?_⟩) ?_ ?_
  rotate_left
  · intro w'
    go_simp
    with_reducible rfl
  rotate_left
  · simp only [Act.put, List.setIfInBounds_toArray, List.set_cons_zero, List.set_cons_succ, i64_w, i32_w]
    rfl
  refine pure_ (i := 8) (N := some 11) (v := ?_) (a' := ?_) #[true, true, true, true, true, true, true, true, true, false, false, false, false, false, false, false, false, false, false, false, false, false, false, false, false, false, false, false, false, false, false, false, false, false, false, false, false, false, false, false, false, false] rfl rfl (by kernel_rfl) (fun _ _ _ h => h) (Or.inl ⟨by rfl, ?_⟩) ?_ ?_
  rotate_left
  · intro w'
    go_simp
    with_reducible rfl
  rotate_left
  · simp only [Act.put, List.setIfInBounds_toArray, List.set_cons_zero, List.set_cons_succ, i64_w, i32_w]
    rfl
  refine pure_ (i := 9) (N := some 12) (v := ?_) (a' := ?_) #[true, true, true, true, true, true, true, true, true, true, false, false, false, false, false, false, false, false, false, false, false, false, false, false, false, false, false, false, false, false, false, false, false, false, false, false, false, false, false, false, false, false] rfl rfl (by kernel_rfl) (fun _ _ _ h => h) (Or.inl ⟨by rfl, ?_⟩) ?_ ?_
  rotate_left
  · intro w'
    go_simp
    with_reducible rfl
  rotate_left
  · simp only [Act.put, List.setIfInBounds_toArray, List.set_cons_zero, List.set_cons_succ, i64_w, i32_w]
    rfl
  refine pure_ (i := 10) (N := some 13) (v := ?_) (a' := ?_) #[true, true, true, true, true, true, true, true, true, true, true, false, false, false, false, false, false, false, false, false, false, false, false, false, false, false, false, false, false, false, false, false, false, false, false, false, false, false, false, false, false, false] rfl rfl (by kernel_rfl) (fun _ _ _ h => h) (Or.inl ⟨by rfl, ?_⟩) ?_ ?_
  rotate_left
  · intro w'
    go_simp
    with_reducible rfl
  rotate_left
  · simp only [Act.put, List.setIfInBounds_toArray, List.set_cons_zero, List.set_cons_succ, i64_w, i32_w]
    rfl
  refine pure_ (i := 11) (N := some 14) (v := ?_) (a' := ?_) #[true, true, true, true, true, true, true, true, true, true, true, true, false, false, false, false, false, false, false, false, false, false, false, false, false, false, false, false, false, false, false, false, false, false, false, false, false, false, false, false, false, false] rfl rfl (by kernel_rfl) (fun _ _ _ h => h) (Or.inl ⟨by rfl, ?_⟩) ?_ ?_
  rotate_left
  · intro w'
    go_simp
    with_reducible rfl
  rotate_left
  · simp only [Act.put, List.setIfInBounds_toArray, List.set_cons_zero, List.set_cons_succ, i64_w, i32_w]
    rfl
  refine pure_ (i := 12) (N := some 15) (v := ?_) (a' := ?_) #[true, true, true, true, true, true, true, true, true, true, true, true, true, false, false, false, false, false, false, false, false, false, false, false, false, false, false, false, false, false, false, false, false, false, false, false, false, false, false, false, false, false] rfl rfl (by kernel_rfl) (fun _ _ _ h => h) (Or.inl ⟨by rfl, ?_⟩) ?_ ?_
  rotate_left
  · intro w'
    go_simp
    with_reducible rfl
  rotate_left
  · simp only [Act.put, List.setIfInBounds_toArray, List.set_cons_zero, List.set_cons_succ, i64_w, i32_w]
    rfl
  refine pure_ (i := 13) (N := some 16) (v := ?_) (a' := ?_) #[true, true, true, true, true, true, true, true, true, true, true, true, true, true, false, false, false, false, false, false, false, false, false, false, false, false, false, false, false, false, false, false, false, false, false, false, false, false, false, false, false, false] rfl rfl (by kernel_rfl) (fun _ _ _ h => h) (Or.inl ⟨by rfl, ?_⟩) ?_ ?_
  rotate_left
  · intro w'
    go_simp
    with_reducible rfl
  rotate_left
  · simp only [Act.put, List.setIfInBounds_toArray, List.set_cons_zero, List.set_cons_succ, i64_w, i32_w]
    rfl
  refine pure_ (i := 14) (N := some 17) (v := ?_) (a' := ?_) #[true, true, true, true, true, true, true, true, true, true, true, true, true, true, true, false, false, false, false, false, false, false, false, false, false, false, false, false, false, false, false, false, false, false, false, false, false, false, false, false, false, false] rfl rfl (by kernel_rfl) (fun _ _ _ h => h) (Or.inl ⟨by rfl, ?_⟩) ?_ ?_
  rotate_left
  · intro w'
    go_simp
    with_reducible rfl
  rotate_left
  · simp only [Act.put, List.setIfInBounds_toArray, List.set_cons_zero, List.set_cons_succ, i64_w, i32_w]
    rfl
  refine pure_ (i := 15) (N := some 18) (v := ?_) (a' := ?_) #[true, true, true, true, true, true, true, true, true, true, true, true, true, true, true, true, false, false, false, false, false, false, false, false, false, false, false, false, false, false, false, false, false, false, false, false, false, false, false, false, false, false] rfl rfl (by kernel_rfl) (fun _ _ _ h => h) (Or.inl ⟨by rfl, ?_⟩) ?_ ?_
  rotate_left
  · intro w'
    go_simp
    with_reducible rfl
  rotate_left
  · simp only [Act.put, List.setIfInBounds_toArray, List.set_cons_zero, List.set_cons_succ, i64_w, i32_w]
    rfl
  refine pure_ (i := 16) (N := some 19) (v := ?_) (a' := ?_) #[true, true, true, true, true, true, true, true, true, true, true, true, true, true, true, true, true, false, false, false, false, false, false, false, false, false, false, false, false, false, false, false, false, false, false, false, false, false, false, false, false, false] rfl rfl (by kernel_rfl) (fun _ _ _ h => h) (Or.inl ⟨by rfl, ?_⟩) ?_ ?_
  rotate_left
  · intro w'
    go_simp
    with_reducible rfl
  rotate_left
  · simp only [Act.put, List.setIfInBounds_toArray, List.set_cons_zero, List.set_cons_succ, i64_w, i32_w]
    rfl
  refine pure_ (i := 17) (N := some 20) (v := ?_) (a' := ?_) #[true, true, true, true, true, true, true, true, true, true, true, true, true, true, true, true, true, true, false, false, false, false, false, false, false, false, false, false, false, false, false, false, false, false, false, false, false, false, false, false, false, false] rfl rfl (by kernel_rfl) (fun _ _ _ h => h) (Or.inl ⟨by rfl, ?_⟩) ?_ ?_
  rotate_left
  · intro w'
    go_simp
    with_reducible rfl
  rotate_left
  · simp only [Act.put, List.setIfInBounds_toArray, List.set_cons_zero, List.set_cons_succ, i64_w, i32_w]
    rfl
  refine pure_ (i := 18) (N := some 21) (v := ?_) (a' := ?_) #[true, true, true, true, true, true, true, true, true, true, true, true, true, true, true, true, true, true, true, false, false, false, false, false, false, false, false, false, false, false, false, false, false, false, false, false, false, false, false, false, false, false] rfl rfl (by kernel_rfl) (fun _ _ _ h => h) (Or.inl ⟨by rfl, ?_⟩) ?_ ?_
  rotate_left
  · intro w'
    go_simp
    with_reducible rfl
  rotate_left
  · simp only [Act.put, List.setIfInBounds_toArray, List.set_cons_zero, List.set_cons_succ, i64_w, i32_w]
    rfl
  refine pure_ (i := 19) (N := some 22) (v := ?_) (a' := ?_) #[true, true, true, true, true, true, true, true, true, true, true, true, true, true, true, true, true, true, true, true, false, false, false, false, false, false, false, false, false, false, false, false, false, false, false, false, false, false, false, false, false, false] rfl rfl (by kernel_rfl) (fun _ _ _ h => h) (Or.inl ⟨by rfl, ?_⟩) ?_ ?_
  rotate_left
  · intro w'
    go_simp
    with_reducible rfl
  rotate_left
  · simp only [Act.put, List.setIfInBounds_toArray, List.set_cons_zero, List.set_cons_succ, i64_w, i32_w]
    rfl
  refine pure_ (i := 20) (N := some 23) (v := ?_) (a' := ?_) #[true, true, true, true, true, true, true, true, true, true, true, true, true, true, true, true, true, true, true, true, true, false, false, false, false, false, false, false, false, false, false, false, false, false, false, false, false, false, false, false, false, false] rfl rfl (by kernel_rfl) (fun _ _ _ h => h) (Or.inl ⟨by rfl, ?_⟩) ?_ ?_
  rotate_left
  · intro w'
    go_simp
    with_reducible rfl
  rotate_left
  · simp only [Act.put, List.setIfInBounds_toArray, List.set_cons_zero, List.set_cons_succ, i64_w, i32_w]
    rfl
  refine pure_ (i := 21) (N := some 24) (v := ?_) (a' := ?_) #[true, true, true, true, true, true, true, true, true, true, true, true, true, true, true, true, true, true, true, true, true, true, false, false, false, false, false, false, false, false, false, false, false, false, false, false, false, false, false, false, false, false] rfl rfl (by kernel_rfl) (fun _ _ _ h => h) (Or.inl ⟨by rfl, ?_⟩) ?_ ?_
  rotate_left
  · intro w'
    go_simp
    with_reducible rfl
  rotate_left
  · simp only [Act.put, List.setIfInBounds_toArray, List.set_cons_zero, List.set_cons_succ, i64_w, i32_w]
    rfl
  refine pure_ (i := 22) (N := some 25) (v := ?_) (a' := ?_) #[true, true, true, true, true, true, true, true, true, true, true, true, true, true, true, true, true, true, true, true, true, true, true, false, false, false, false, false, false, false, false, false, false, false, false, false, false, false, false, false, false, false] rfl rfl (by kernel_rfl) (fun _ _ _ h => h) (Or.inl ⟨by rfl, ?_⟩) ?_ ?_
  rotate_left
  · intro w'
    go_simp
    with_reducible rfl
  rotate_left
  · simp only [Act.put, List.setIfInBounds_toArray, List.set_cons_zero, List.set_cons_succ, i64_w, i32_w]
    rfl
  refine pure_ (i := 23) (N := some 26) (v := ?_) (a' := ?_) #[true, true, true, true, true, true, true, true, true, true, true, true, true, true, true, true, true, true, true, true, true, true, true, true, false, false, false, false, false, false, false, false, false, false, false, false, false, false, false, false, false, false] rfl rfl (by kernel_rfl) (fun _ _ _ h => h) (Or.inl ⟨by rfl, ?_⟩) ?_ ?_
  rotate_left
  · intro w'
    go_simp
    with_reducible rfl
  rotate_left
  · simp only [Act.put, List.setIfInBounds_toArray, List.set_cons_zero, List.set_cons_succ, i64_w, i32_w]
    rfl
  refine pure_ (i := 24) (N := some 27) (v := ?_) (a' := ?_) #[true, true, true, true, true, true, true, true, true, true, true, true, true, true, true, true, true, true, true, true, true, true, true, true, true, false, false, false, false, false, false, false, false, false, false, false, false, false, false, false, false, false] rfl rfl (by kernel_rfl) (fun _ _ _ h => h) (Or.inl ⟨by rfl, ?_⟩) ?_ ?_
  rotate_left
  · intro w'
    go_simp
    with_reducible rfl
  rotate_left
  · simp only [Act.put, List.setIfInBounds_toArray, List.set_cons_zero, List.set_cons_succ, i64_w, i32_w]
    rfl
  refine pure_ (i := 25) (N := some 28) (v := ?_) (a' := ?_) #[true, true, true, true, true, true, true, true, true, true, true, true, true, true, true, true, true, true, true, true, true, true, true, true, true, true, false, false, false, false, false, false, false, false, false, false, false, false, false, false, false, false] rfl rfl (by kernel_rfl) (fun _ _ _ h => h) (Or.inl ⟨by rfl, ?_⟩) ?_ ?_
  rotate_left
  · intro w'
    go_simp
    with_reducible rfl
  rotate_left
  · simp only [Act.put, List.setIfInBounds_toArray, List.set_cons_zero, List.set_cons_succ, i64_w, i32_w]
    rfl
  refine pure_ (i := 26) (N := some 29) (v := ?_) (a' := ?_) #[true, true, true, true, true, true, true, true, true, true, true, true, true, true, true, true, true, true, true, true, true, true, true, true, true, true, true, false, false, false, false, false, false, false, false, false, false, false, false, false, false, false] rfl rfl (by kernel_rfl) (fun _ _ _ h => h) (Or.inl ⟨by rfl, ?_⟩) ?_ ?_
  rotate_left
  · intro w'
    go_simp
    with_reducible rfl
  rotate_left
  · simp only [Act.put, List.setIfInBounds_toArray, List.set_cons_zero, List.set_cons_succ, i64_w, i32_w]
    rfl
  refine pure_ (i := 27) (N := some 30) (v := ?_) (a' := ?_) #[true, true, true, true, true, true, true, true, true, true, true, true, true, true, true, true, true, true, true, true, true, true, true, true, true, true, true, true, false, false, false, false, false, false, false, false, false, false, false, false, false, false] rfl rfl (by kernel_rfl) (fun _ _ _ h => h) (Or.inl ⟨by rfl, ?_⟩) ?_ ?_
  rotate_left
  · intro w'
    go_simp
    with_reducible rfl
  rotate_left
  · simp only [Act.put, List.setIfInBounds_toArray, List.set_cons_zero, List.set_cons_succ, i64_w, i32_w]
    rfl
  refine pure_ (i := 28) (N := some 31) (v := ?_) (a' := ?_) #[true, true, true, true, true, true, true, true, true, true, true, true, true, true, true, true, true, true, true, true, true, true, true, true, true, true, true, true, true, false, false, false, false, false, false, false, false, false, false, false, false, false] rfl rfl (by kernel_rfl) (fun _ _ _ h => h) (Or.inl ⟨by rfl, ?_⟩) ?_ ?_
  rotate_left
  · intro w'
    go_simp
    with_reducible rfl
  rotate_left
  · simp only [Act.put, List.setIfInBounds_toArray, List.set_cons_zero, List.set_cons_succ, i64_w, i32_w]
    rfl
  refine pure_ (i := 29) (N := some 32) (v := ?_) (a' := ?_) #[true, true, true, true, true, true, true, true, true, true, true, true, true, true, true, true, true, true, true, true, true, true, true, true, true, true, true, true, true, true, false, false, false, false, false, false, false, false, false, false, false, false] rfl rfl (by kernel_rfl) (fun _ _ _ h => h) (Or.inl ⟨by rfl, ?_⟩) ?_ ?_
  rotate_left
  · intro w'
    go_simp
    with_reducible rfl
  rotate_left
  · simp only [Act.put, List.setIfInBounds_toArray, List.set_cons_zero, List.set_cons_succ, i64_w, i32_w]
    rfl
  refine pure_ (i := 30) (N := some 33) (v := ?_) (a' := ?_) #[true, true, true, true, true, true, true, true, true, true, true, true, true, true, true, true, true, true, true, true, true, true, true, true, true, true, true, true, true, true, true, false, false, false, false, false, false, false, false, false, false, false] rfl rfl (by kernel_rfl) (fun _ _ _ h => h) (Or.inl ⟨by rfl, ?_⟩) ?_ ?_
  rotate_left
  · intro w'
    go_simp
    with_reducible rfl
  rotate_left
  · simp only [Act.put, List.setIfInBounds_toArray, List.set_cons_zero, List.set_cons_succ, i64_w, i32_w]
    rfl
  refine pure_ (i := 31) (N := some 34) (v := ?_) (a' := ?_) #[true, true, true, true, true, true, true, true, true, true, true, true, true, true, true, true, true, true, true, true, true, true, true, true, true, true, true, true, true, true, true, true, false, false, false, false, false, false, false, false, false, false] rfl rfl (by kernel_rfl) (fun _ _ _ h => h) (Or.inl ⟨by rfl, ?_⟩) ?_ ?_
  rotate_left
  · intro w'
    go_simp
    with_reducible rfl
  rotate_left
  · simp only [Act.put, List.setIfInBounds_toArray, List.set_cons_zero, List.set_cons_succ, i64_w, i32_w]
    rfl
  refine pure_ (i := 32) (N := some 35) (v := ?_) (a' := ?_) #[true, true, true, true, true, true, true, true, true, true, true, true, true, true, true, true, true, true, true, true, true, true, true, true, true, true, true, true, true, true, true, true, true, false, false, false, false, false, false, false, false, false] rfl rfl (by kernel_rfl) (fun _ _ _ h => h) (Or.inl ⟨by rfl, ?_⟩) ?_ ?_
  rotate_left
  · intro w'
    go_simp
    with_reducible rfl
  rotate_left
  · simp only [Act.put, List.setIfInBounds_toArray, List.set_cons_zero, List.set_cons_succ, i64_w, i32_w]
    rfl
  refine pure_ (i := 33) (N := some 36) (v := ?_) (a' := ?_) #[true, true, true, true, true, true, true, true, true, true, true, true, true, true, true, true, true, true, true, true, true, true, true, true, true, true, true, true, true, true, true, true, true, true, false, false, false, false, false, false, false, false] rfl rfl (by kernel_rfl) (fun _ _ _ h => h) (Or.inl ⟨by rfl, ?_⟩) ?_ ?_
  rotate_left
  · intro w'
    go_simp
    with_reducible rfl
  rotate_left
  · simp only [Act.put, List.setIfInBounds_toArray, List.set_cons_zero, List.set_cons_succ, i64_w, i32_w]
    rfl
  refine pure_ (i := 34) (N := some 37) (v := ?_) (a' := ?_) #[true, true, true, true, true, true, true, true, true, true, true, true, true, true, true, true, true, true, true, true, true, true, true, true, true, true, true, true, true, true, true, true, true, true, true, false, false, false, false, false, false, false] rfl rfl (by kernel_rfl) (fun _ _ _ h => h) (Or.inl ⟨by rfl, ?_⟩) ?_ ?_
  rotate_left
  · intro w'
    go_simp
    with_reducible rfl
  rotate_left
  · simp only [Act.put, List.setIfInBounds_toArray, List.set_cons_zero, List.set_cons_succ, i64_w, i32_w]
    rfl
  refine pure_ (i := 35) (N := some 38) (v := ?_) (a' := ?_) #[true, true, true, true, true, true, true, true, true, true, true, true, true, true, true, true, true, true, true, true, true, true, true, true, true, true, true, true, true, true, true, true, true, true, true, true, false, false, false, false, false, false] rfl rfl (by kernel_rfl) (fun _ _ _ h => h) (Or.inl ⟨by rfl, ?_⟩) ?_ ?_
  rotate_left
  · intro w'
    go_simp
    with_reducible rfl
  rotate_left
  · simp only [Act.put, List.setIfInBounds_toArray, List.set_cons_zero, List.set_cons_succ, i64_w, i32_w]
    rfl
  refine pure_ (i := 36) (N := some 39) (v := ?_) (a' := ?_) #[true, true, true, true, true, true, true, true, true, true, true, true, true, true, true, true, true, true, true, true, true, true, true, true, true, true, true, true, true, true, true, true, true, true, true, true, true, false, false, false, false, false] rfl rfl (by kernel_rfl) (fun _ _ _ h => h) (Or.inl ⟨by rfl, ?_⟩) ?_ ?_
  rotate_left
  · intro w'
    go_simp
    with_reducible rfl
  rotate_left
  · simp only [Act.put, List.setIfInBounds_toArray, List.set_cons_zero, List.set_cons_succ, i64_w, i32_w]
    rfl
  refine pure_ (i := 37) (N := some 40) (v := ?_) (a' := ?_) #[true, true, true, true, true, true, true, true, true, true, true, true, true, true, true, true, true, true, true, true, true, true, true, true, true, true, true, true, true, true, true, true, true, true, true, true, true, true, false, false, false, false] rfl rfl (by kernel_rfl) (fun _ _ _ h => h) (Or.inl ⟨by rfl, ?_⟩) ?_ ?_
  rotate_left
  · intro w'
    go_simp
    with_reducible rfl
  rotate_left
  · simp only [Act.put, List.setIfInBounds_toArray, List.set_cons_zero, List.set_cons_succ, i64_w, i32_w]
    rfl
  refine pure_ (i := 38) (N := some 41) (v := ?_) (a' := ?_) #[true, true, true, true, true, true, true, true, true, true, true, true, true, true, true, true, true, true, true, true, true, true, true, true, true, true, true, true, true, true, true, true, true, true, true, true, true, true, true, false, false, false] rfl rfl (by kernel_rfl) (fun _ _ _ h => h) (Or.inl ⟨by rfl, ?_⟩) ?_ ?_
  rotate_left
  · intro w'
    go_simp
    with_reducible rfl
  rotate_left
  · simp only [Act.put, List.setIfInBounds_toArray, List.set_cons_zero, List.set_cons_succ, i64_w, i32_w]
    rfl
  refine pure_ (i := 39) (N := some 42) (v := ?_) (a' := ?_) #[true, true, true, true, true, true, true, true, true, true, true, true, true, true, true, true, true, true, true, true, true, true, true, true, true, true, true, true, true, true, true, true, true, true, true, true, true, true, true, true, false, false] rfl rfl (by kernel_rfl) (fun _ _ _ h => h) (Or.inl ⟨by rfl, ?_⟩) ?_ ?_
  rotate_left
  · intro w'
    go_simp
    with_reducible rfl
  rotate_left
  · simp only [Act.put, List.setIfInBounds_toArray, List.set_cons_zero, List.set_cons_succ, i64_w, i32_w]
    rfl
  refine last_ (i := 40) (N := some 43) #[true, true, true, true, true, true, true, true, true, true, true, true, true, true, true, true, true, true, true, true, true, true, true, true, true, true, true, true, true, true, true, true, true, true, true, true, true, true, true, true, true, false] rfl rfl (by kernel_rfl) (by decide) (fun K hK => ?_)
  refine value_ (w1 := w2.alloc (.cells #[.pointer (some ⟨g, 4, none⟩), .int .i64 1, .pointer (some ⟨g, 5, none⟩), .int .i64 2, .pointer (some ⟨g, 6, none⟩), .int .i64 4, .pointer (some ⟨g, 7, none⟩), .int .i64 8, .pointer (some ⟨g, 8, none⟩), .int .i64 16, .pointer (some ⟨g, 9, none⟩), .int .i64 32, .pointer (some ⟨g, 10, none⟩), .int .i64 64, .pointer (some ⟨g, 11, none⟩), .int .i64 128, .pointer (some ⟨g, 12, none⟩), .int .i64 256, .pointer (some ⟨g, 13, none⟩), .int .i64 512] 82)) (v := .slice (some ⟨w2.heap.size, 0, none⟩) 10 10) (by rfl) rfl ?_ ?_
  · first | (go_simp; done) | (go_simp; rfl)
  refine hK.out _ _ ?_
  clear hK K
  simp only [Act.put, List.setIfInBounds_toArray, List.set_cons_zero, List.set_cons_succ, i64_w, i32_w]
  have HG3 := Aside0.mk (show (w2.alloc (.cells #[.pointer (some ⟨g, 4, none⟩), .int .i64 1, .pointer (some ⟨g, 5, none⟩), .int .i64 2, .pointer (some ⟨g, 6, none⟩), .int .i64 4, .pointer (some ⟨g, 7, none⟩), .int .i64 8, .pointer (some ⟨g, 8, none⟩), .int .i64 16, .pointer (some ⟨g, 9, none⟩), .int .i64 32, .pointer (some ⟨g, 10, none⟩), .int .i64 64, .pointer (some ⟨g, 11, none⟩), .int .i64 128, .pointer (some ⟨g, 12, none⟩), .int .i64 256, .pointer (some ⟨g, 13, none⟩), .int .i64 512] 82)).heap[w2.heap.size]? = some (.cells #[.pointer (some ⟨g, 4, none⟩), .int .i64 1, .pointer (some ⟨g, 5, none⟩), .int .i64 2, .pointer (some ⟨g, 6, none⟩), .int .i64 4, .pointer (some ⟨g, 7, none⟩), .int .i64 8, .pointer (some ⟨g, 8, none⟩), .int .i64 16, .pointer (some ⟨g, 9, none⟩), .int .i64 32, .pointer (some ⟨g, 10, none⟩), .int .i64 64, .pointer (some ⟨g, 11, none⟩), .int .i64 128, .pointer (some ⟨g, 12, none⟩), .int .i64 256, .pointer (some ⟨g, 13, none⟩), .int .i64 512] 82 (0, 0)) from blk_new _ _)
  have HB3 := Aside0.mk (below_alloc HB2.out (.cells #[.pointer (some ⟨g, 4, none⟩), .int .i64 1, .pointer (some ⟨g, 5, none⟩), .int .i64 2, .pointer (some ⟨g, 6, none⟩), .int .i64 4, .pointer (some ⟨g, 7, none⟩), .int .i64 8, .pointer (some ⟨g, 8, none⟩), .int .i64 16, .pointer (some ⟨g, 9, none⟩), .int .i64 32, .pointer (some ⟨g, 10, none⟩), .int .i64 64, .pointer (some ⟨g, 11, none⟩), .int .i64 128, .pointer (some ⟨g, 12, none⟩), .int .i64 256, .pointer (some ⟨g, 13, none⟩), .int .i64 512] 82))
  have HS := Aside0.mk HB2.out.size
  refine pure_ (i := 41) (N := some 2) (v := ?_) (a' := ?_) #[true, true, true, true, true, true, true, true, true, true, true, true, true, true, true, true, true, true, true, true, true, true, true, true, true, true, true, true, true, true, true, true, true, true, true, true, true, true, true, true, true, true] rfl rfl (by kernel_rfl) (fun _ _ _ h => h) (Or.inl ⟨by rfl, ?_⟩) ?_ ?_
  rotate_left
  · intro w'
    go_simp
    with_reducible rfl
  rotate_left
  · simp only [Act.put, List.setIfInBounds_toArray, List.set_cons_zero, List.set_cons_succ, i64_w, i32_w]
    rfl
  refine done_ (by kernel_rfl) ?_
  go_wp2
  go_ret
  exact ⟨_, rfl, ⟨HS.out, HG3.out, HB3.out⟩⟩
def option_Bits.bm (b : Bool) (m : Int) : Int := if b = true then m else 0
def option_Bits.f (k : Nat) (a0_0 : Int) (a0_1 : Int) (a0_2 : Int) (a0_3 : Int) (a0_4 : Bool) (a0_5 : Bool) (a0_6 : Bool) (a0_7 : Bool) (a0_8 : Bool) (a0_9 : Bool) (a0_10 : Bool) (a0_11 : Bool) (a0_12 : Bool) (a0_13 : Bool) : Option (Int × Int) := (option_Check.f k a0_0 a0_1 a0_2 a0_3 a0_4 a0_5 a0_6 a0_7 a0_8 a0_9 a0_10 a0_11 a0_12 a0_13).bind fun e => if e = 0 then (if (0 ≤ a0_0 ∧ a0_0 < 4) ∧ (0 ≤ a0_1 ∧ a0_1 < 5) ∧ (0 ≤ a0_2 ∧ a0_2 < 5) ∧ (0 ≤ a0_3 ∧ a0_3 < 5) then some (a0_0 * 1 + a0_1 * 4 + a0_2 * 20 + a0_3 * 100 + option_Bits.bm a0_4 500 + option_Bits.bm a0_5 1000 + option_Bits.bm a0_6 2000 + option_Bits.bm a0_7 4000 + option_Bits.bm a0_8 8000 + option_Bits.bm a0_9 16000 + option_Bits.bm a0_10 32000 + option_Bits.bm a0_11 64000 + option_Bits.bm a0_12 128000 + option_Bits.bm a0_13 256000, 0) else none) else some (0, e)
theorem option_Bits.mono : ∀ a0 a1 a2 a3 a4 a5 a6 a7 a8 a9 a10 a11 a12 a13 k, LeO (option_Bits.f k a0 a1 a2 a3 a4 a5 a6 a7 a8 a9 a10 a11 a12 a13) (option_Bits.f (k + 1) a0 a1 a2 a3 a4 a5 a6 a7 a8 a9 a10 a11 a12 a13) := by
  intro a0 a1 a2 a3 a4 a5 a6 a7 a8 a9 a10 a11 a12 a13 k
  unfold option_Bits.f
  exact LeO.bind (option_Check.mono _ _ _ _ _ _ _ _ _ _ _ _ _ _ _) (fun _ => LeO.refl _)
set_option maxHeartbeats 16000000 in
set_option maxRecDepth 100000 in
theorem option_Bits.calls (k : Nat) (a0_0 : Int) (a0_1 : Int) (a0_2 : Int) (a0_3 : Int) (a0_4 : Bool) (a0_5 : Bool) (a0_6 : Bool) (a0_7 : Bool) (a0_8 : Bool) (a0_9 : Bool) (a0_10 : Bool) (a0_11 : Bool) (a0_12 : Bool) (a0_13 : Bool) (r1 : Int) (r2 : Int) (w : World) (h : option_Bits.f k a0_0 a0_1 a0_2 a0_3 a0_4 a0_5 a0_6 a0_7 a0_8 a0_9 a0_10 a0_11 a0_12 a0_13 = some (r1, r2)) :
    Calls Try.prog 36 #[.agg #[.int .i64 a0_0, .int .i64 a0_1, .int .i64 a0_2, .int .i64 a0_3, .bool a0_4, .bool a0_5, .bool a0_6, .bool a0_7, .bool a0_8, .bool a0_9, .bool a0_10, .bool a0_11, .bool a0_12, .bool a0_13]] w fun e w' => e = .returned (.tuple #[.int .i64 r1, .int .i64 r2]) ∧ Below w.heap.size w w' := by
  have hu := Try.underlying23
  have hud := Try.underlying62
  have hub := Try.underlying82
  unfold option_Bits.f at h
  obtain ⟨c, hck, h⟩ := Option.bind_eq_some_iff.mp h
  have HC := Aside0.mk (fun W : World => option_Check.calls k a0_0 a0_1 a0_2 a0_3 a0_4 a0_5 a0_6 a0_7 a0_8 a0_9 a0_10 a0_11 a0_12 a0_13 c W hck)
  clear hck
  by_cases he : c = 0
  case neg =>
    rw [if_neg he] at h
    simp only [Option.some.injEq, Prod.mk.injEq] at h
    obtain ⟨rfl, rfl⟩ := h
    have e1 : (c == 0) = false := beq_eq_false_iff_ne.mpr he
    have e2 : (c != 0) = true := bne_iff_ne.mpr he
    clear he
    go_enter Try.func36, Try.ntmps36
    go_wp2_with (first | ((with_reducible refine gate_dst (N := 1) rfl ?_); refine box_event ?hg (N := 1) ?hd (cs := #[.int .i64 a0_0, .int .i64 a0_1, .int .i64 a0_2, .int .i64 a0_3, .bool a0_4, .bool a0_5, .bool a0_6, .bool a0_7, .bool a0_8, .bool a0_9, .bool a0_10, .bool a0_11, .bool a0_12, .bool a0_13]) (t := 23) ?hr ?_; (case hd => rfl); (case hg => rfl); (case hr => first | (go_simp; done) | (go_simp; rfl)); intro g hg w1 hbox hb; have BX := Aside0.mk hbox; have HB1 := Aside0.mk hb; clear hg hbox hb; have hq0 := (blk_cell BX.out 0).trans rfl; have hq1 := (blk_cell BX.out 1).trans rfl; have hq2 := (blk_cell BX.out 2).trans rfl; have hq3 := (blk_cell BX.out 3).trans rfl; have hq4 := (blk_cell BX.out 4).trans rfl; have hq5 := (blk_cell BX.out 5).trans rfl; have hq6 := (blk_cell BX.out 6).trans rfl; have hq7 := (blk_cell BX.out 7).trans rfl; have hq8 := (blk_cell BX.out 8).trans rfl; have hq9 := (blk_cell BX.out 9).trans rfl; have hq10 := (blk_cell BX.out 10).trans rfl; have hq11 := (blk_cell BX.out 11).trans rfl; have hq12 := (blk_cell BX.out 12).trans rfl; have hq13 := (blk_cell BX.out 13).trans rfl) | (go_at_call 14; (with_reducible refine (HC.out _).mono ?_); rintro e w2 ⟨rfl, hb2⟩; have HG2 := Aside0.mk (blk_below BX.out hb2); have HB2 := Aside0.mk (below_step HB1.out hb2); clear hb2 hq0 hq1 hq2 hq3 hq4 hq5 hq6 hq7 hq8 hq9 hq10 hq11 hq12 hq13))
    go_ret2
    exact ⟨by first | rfl | simp, HB2.out⟩
  subst he
  rw [if_pos rfl] at h
  by_cases hd : (0 ≤ a0_0 ∧ a0_0 < 4) ∧ (0 ≤ a0_1 ∧ a0_1 < 5) ∧ (0 ≤ a0_2 ∧ a0_2 < 5) ∧ (0 ≤ a0_3 ∧ a0_3 < 5)
  case neg => rw [if_neg hd] at h; cases h
  rw [if_pos hd] at h
  simp only [Option.some.injEq, Prod.mk.injEq] at h
  have HD := Aside0.mk hd
  have HR := Aside0.mk h
  clear h hd
  go_enter Try.func36, Try.ntmps36
  go_wp2_with (first | ((with_reducible refine gate_dst (N := 1) rfl ?_); refine box_event ?hg (N := 1) ?hd (cs := #[.int .i64 a0_0, .int .i64 a0_1, .int .i64 a0_2, .int .i64 a0_3, .bool a0_4, .bool a0_5, .bool a0_6, .bool a0_7, .bool a0_8, .bool a0_9, .bool a0_10, .bool a0_11, .bool a0_12, .bool a0_13]) (t := 23) ?hr ?_; (case hd => rfl); (case hg => rfl); (case hr => first | (go_simp; done) | (go_simp; rfl)); intro g hg w1 hbox hb; have BX := Aside0.mk hbox; have HB1 := Aside0.mk hb; clear hg hbox hb; have hq0 := (blk_cell BX.out 0).trans rfl; have hq1 := (blk_cell BX.out 1).trans rfl; have hq2 := (blk_cell BX.out 2).trans rfl; have hq3 := (blk_cell BX.out 3).trans rfl; have hq4 := (blk_cell BX.out 4).trans rfl; have hq5 := (blk_cell BX.out 5).trans rfl; have hq6 := (blk_cell BX.out 6).trans rfl; have hq7 := (blk_cell BX.out 7).trans rfl; have hq8 := (blk_cell BX.out 8).trans rfl; have hq9 := (blk_cell BX.out 9).trans rfl; have hq10 := (blk_cell BX.out 10).trans rfl; have hq11 := (blk_cell BX.out 11).trans rfl; have hq12 := (blk_cell BX.out 12).trans rfl; have hq13 := (blk_cell BX.out 13).trans rfl) | (go_at_call 14; (with_reducible refine (HC.out _).mono ?_); rintro e w2 ⟨rfl, hb2⟩; have HG2 := Aside0.mk (blk_below BX.out hb2); have HB2 := Aside0.mk (below_step HB1.out hb2); clear hb2 hq0 hq1 hq2 hq3 hq4 hq5 hq6 hq7 hq8 hq9 hq10 hq11 hq12 hq13) | (go_at_call 48; (with_reducible refine (option_Check.digits g _).mono ?_); rintro e w3 ⟨rfl, hb3⟩; have HG3 := Aside0.mk (blk_below HG2.out hb3); have HB3 := Aside0.mk (below_step HB2.out hb3); clear hb3))
  go_loopg [5, 6, 17] 4 (fun kq v5 v6 v17 w' => ∃ (j n t : Int), v5 = .int .i64 n ∧ v6 = .int .i64 t ∧ v17 = .int .i64 j ∧ Aside0 (0 ≤ j ∧ j ≤ 4 ∧ (4 - j).toNat = kq ∧ (j = 0 → n = 0 ∧ t = 1) ∧ (j = 1 → n = a0_0 * 1 ∧ t = 4) ∧ (j = 2 → n = a0_0 * 1 + a0_1 * 4 ∧ t = 20) ∧ (j = 3 → n = a0_0 * 1 + a0_1 * 4 + a0_2 * 20 ∧ t = 100) ∧ (j = 4 → n = a0_0 * 1 + a0_1 * 4 + a0_2 * 20 + a0_3 * 100 ∧ t = 500)) ∧ Aside0 (w'.heap[g]? = some (.cells #[.int .i64 a0_0, .int .i64 a0_1, .int .i64 a0_2, .int .i64 a0_3, .bool a0_4, .bool a0_5, .bool a0_6, .bool a0_7, .bool a0_8, .bool a0_9, .bool a0_10, .bool a0_11, .bool a0_12, .bool a0_13] 23 (0, 0))) ∧ Aside0 (Below w.heap.size w w'))
  case atStart => exact ⟨0, 0, 1, rfl, rfl, rfl, ⟨by omega, by omega, by omega, by omega, by omega, by omega, by omega, by omega⟩, HG3, HB3⟩
  case round =>
    clear HG3 HB3 HG2 HB2 BX HB1
    obtain ⟨j, n, t, rfl, rfl, rfl, HI, HG, HB⟩ := hrel
    have hj : j = 0 ∨ j = 1 ∨ j = 2 ∨ j = 3 ∨ j = 4 := by have := HI.out; omega
    rcases hj with rfl | rfl | rfl | rfl | rfl
    · have hix : ∀ W : World, (Instr.index 63 (.agg #[.pointer (some ⟨g, 0, none⟩), .int .i64 4, .pointer (some ⟨g, 1, none⟩), .int .i64 5, .pointer (some ⟨g, 2, none⟩), .int .i64 5, .pointer (some ⟨g, 3, none⟩), .int .i64 5]) (.int .i64 0)).run Try.prog W = .ok (.agg #[.pointer (some ⟨g, 0, none⟩), .int .i64 4]) W := fun W => by kernel_rfl
      obtain ⟨rfl, rfl⟩ := HI.out.2.2.2.1 rfl
      go_wp2_with (first | ((with_reducible refine gate_dst (N := 8) rfl ?_); refine box_event ?hg (N := 8) ?hd (cs := #[.pointer none, .int .i64 0]) (t := 62) ?hr ?_; (case hd => rfl); (case hg => rfl); (case hr => first | (go_simp; done) | (go_simp; rfl)); intro g4 hg w2 hbox hb; have BX4 := Aside0.mk hbox; have HG2 := Aside0.mk (blk_below HG.out hb); have HB2 := Aside0.mk (below_step HB.out hb); have HG4 := Aside0.mk (show w.heap.size ≤ g4 by have := HB.out.size; omega); have hc0 := (blk_cell hbox 0).trans rfl; have hc1 := (blk_cell hbox 1).trans rfl; have hf0 := blk_frozen hbox 0; have hf1 := blk_frozen hbox 1; clear hg hbox hb) | ((with_reducible refine gate_store (t := 62) (p := 8) rfl ?_); refine store_event (t := 62) (p := 8) (v := .tmp 19) (w1 := (w2.setCell ⟨g4, 0, none⟩ (.pointer (some ⟨g, 0, none⟩))).setCell ⟨g4, 1, none⟩ (.int .i64 4)) ?hg ?ho ?hn ?hr ?_; (case ho => rfl); (case hg => rfl); (case hn => rfl); (case hr => first | (go_simp; done) | (go_simp; rfl)); intro w3 hw; have BX3 := Aside0.mk (show w3.heap[g4]? = some (.cells #[.pointer (some ⟨g, 0, none⟩), .int .i64 4] 62 (0, 0)) by rw [hw]; refine blk_put (cs := #[.pointer (some ⟨g, 0, none⟩), .int .i64 0]) ?_ 1 _ rfl; exact blk_put BX4.out 0 _ rfl); have HG3 := Aside0.mk (show w3.heap[g]? = some (.cells #[.int .i64 a0_0, .int .i64 a0_1, .int .i64 a0_2, .int .i64 a0_3, .bool a0_4, .bool a0_5, .bool a0_6, .bool a0_7, .bool a0_8, .bool a0_9, .bool a0_10, .bool a0_11, .bool a0_12, .bool a0_13] 23 (0, 0)) by rw [hw]; exact blk_far (blk_far HG2.out (p := ⟨g4, 0, none⟩) (blk_ne HG2.out BX4.out (by decide)) _) (p := ⟨g4, 1, none⟩) (blk_ne HG2.out BX4.out (by decide)) _); have HB3 := Aside0.mk (show Below w.heap.size w w3 by rw [hw]; exact below_set (below_set HB2.out HG4.out) HG4.out); clear hw hc0 hc1 hf0 hf1; have hd0 := (blk_cell BX3.out 0).trans rfl; have hd1 := (blk_cell BX3.out 1).trans rfl; have hdi := (blk_cell HG3.out 0).trans rfl))
      go_roundg 3
      case measure => have := HI.out; omega
      case rel =>
        have hd := HD.out
        refine ⟨1, _, _, rfl, rfl, by first | rfl | decide, ⟨by omega, by omega, by omega, ?_⟩, HG3, HB3⟩
        refine ⟨fun h_ => absurd h_ (by decide), fun _ => ⟨by (try unfold wrap64); omega, by first | rfl | decide | ((try unfold wrap64); omega)⟩, fun h_ => absurd h_ (by decide), fun h_ => absurd h_ (by decide), fun h_ => absurd h_ (by decide)⟩
    · have hix : ∀ W : World, (Instr.index 63 (.agg #[.pointer (some ⟨g, 0, none⟩), .int .i64 4, .pointer (some ⟨g, 1, none⟩), .int .i64 5, .pointer (some ⟨g, 2, none⟩), .int .i64 5, .pointer (some ⟨g, 3, none⟩), .int .i64 5]) (.int .i64 1)).run Try.prog W = .ok (.agg #[.pointer (some ⟨g, 1, none⟩), .int .i64 5]) W := fun W => by kernel_rfl
      obtain ⟨rfl, rfl⟩ := HI.out.2.2.2.2.1 rfl
      go_wp2_with (first | ((with_reducible refine gate_dst (N := 8) rfl ?_); refine box_event ?hg (N := 8) ?hd (cs := #[.pointer none, .int .i64 0]) (t := 62) ?hr ?_; (case hd => rfl); (case hg => rfl); (case hr => first | (go_simp; done) | (go_simp; rfl)); intro g4 hg w2 hbox hb; have BX4 := Aside0.mk hbox; have HG2 := Aside0.mk (blk_below HG.out hb); have HB2 := Aside0.mk (below_step HB.out hb); have HG4 := Aside0.mk (show w.heap.size ≤ g4 by have := HB.out.size; omega); have hc0 := (blk_cell hbox 0).trans rfl; have hc1 := (blk_cell hbox 1).trans rfl; have hf0 := blk_frozen hbox 0; have hf1 := blk_frozen hbox 1; clear hg hbox hb) | ((with_reducible refine gate_store (t := 62) (p := 8) rfl ?_); refine store_event (t := 62) (p := 8) (v := .tmp 19) (w1 := (w2.setCell ⟨g4, 0, none⟩ (.pointer (some ⟨g, 1, none⟩))).setCell ⟨g4, 1, none⟩ (.int .i64 5)) ?hg ?ho ?hn ?hr ?_; (case ho => rfl); (case hg => rfl); (case hn => rfl); (case hr => first | (go_simp; done) | (go_simp; rfl)); intro w3 hw; have BX3 := Aside0.mk (show w3.heap[g4]? = some (.cells #[.pointer (some ⟨g, 1, none⟩), .int .i64 5] 62 (0, 0)) by rw [hw]; refine blk_put (cs := #[.pointer (some ⟨g, 1, none⟩), .int .i64 0]) ?_ 1 _ rfl; exact blk_put BX4.out 0 _ rfl); have HG3 := Aside0.mk (show w3.heap[g]? = some (.cells #[.int .i64 a0_0, .int .i64 a0_1, .int .i64 a0_2, .int .i64 a0_3, .bool a0_4, .bool a0_5, .bool a0_6, .bool a0_7, .bool a0_8, .bool a0_9, .bool a0_10, .bool a0_11, .bool a0_12, .bool a0_13] 23 (0, 0)) by rw [hw]; exact blk_far (blk_far HG2.out (p := ⟨g4, 0, none⟩) (blk_ne HG2.out BX4.out (by decide)) _) (p := ⟨g4, 1, none⟩) (blk_ne HG2.out BX4.out (by decide)) _); have HB3 := Aside0.mk (show Below w.heap.size w w3 by rw [hw]; exact below_set (below_set HB2.out HG4.out) HG4.out); clear hw hc0 hc1 hf0 hf1; have hd0 := (blk_cell BX3.out 0).trans rfl; have hd1 := (blk_cell BX3.out 1).trans rfl; have hdi := (blk_cell HG3.out 1).trans rfl))
      go_roundg 2
      case measure => have := HI.out; omega
      case rel =>
        have hd := HD.out
        refine ⟨2, _, _, rfl, rfl, by first | rfl | decide, ⟨by omega, by omega, by omega, ?_⟩, HG3, HB3⟩
        refine ⟨fun h_ => absurd h_ (by decide), fun h_ => absurd h_ (by decide), fun _ => ⟨by (try unfold wrap64); omega, by first | rfl | decide | ((try unfold wrap64); omega)⟩, fun h_ => absurd h_ (by decide), fun h_ => absurd h_ (by decide)⟩
    · have hix : ∀ W : World, (Instr.index 63 (.agg #[.pointer (some ⟨g, 0, none⟩), .int .i64 4, .pointer (some ⟨g, 1, none⟩), .int .i64 5, .pointer (some ⟨g, 2, none⟩), .int .i64 5, .pointer (some ⟨g, 3, none⟩), .int .i64 5]) (.int .i64 2)).run Try.prog W = .ok (.agg #[.pointer (some ⟨g, 2, none⟩), .int .i64 5]) W := fun W => by kernel_rfl
      obtain ⟨rfl, rfl⟩ := HI.out.2.2.2.2.2.1 rfl
      go_wp2_with (first | ((with_reducible refine gate_dst (N := 8) rfl ?_); refine box_event ?hg (N := 8) ?hd (cs := #[.pointer none, .int .i64 0]) (t := 62) ?hr ?_; (case hd => rfl); (case hg => rfl); (case hr => first | (go_simp; done) | (go_simp; rfl)); intro g4 hg w2 hbox hb; have BX4 := Aside0.mk hbox; have HG2 := Aside0.mk (blk_below HG.out hb); have HB2 := Aside0.mk (below_step HB.out hb); have HG4 := Aside0.mk (show w.heap.size ≤ g4 by have := HB.out.size; omega); have hc0 := (blk_cell hbox 0).trans rfl; have hc1 := (blk_cell hbox 1).trans rfl; have hf0 := blk_frozen hbox 0; have hf1 := blk_frozen hbox 1; clear hg hbox hb) | ((with_reducible refine gate_store (t := 62) (p := 8) rfl ?_); refine store_event (t := 62) (p := 8) (v := .tmp 19) (w1 := (w2.setCell ⟨g4, 0, none⟩ (.pointer (some ⟨g, 2, none⟩))).setCell ⟨g4, 1, none⟩ (.int .i64 5)) ?hg ?ho ?hn ?hr ?_; (case ho => rfl); (case hg => rfl); (case hn => rfl); (case hr => first | (go_simp; done) | (go_simp; rfl)); intro w3 hw; have BX3 := Aside0.mk (show w3.heap[g4]? = some (.cells #[.pointer (some ⟨g, 2, none⟩), .int .i64 5] 62 (0, 0)) by rw [hw]; refine blk_put (cs := #[.pointer (some ⟨g, 2, none⟩), .int .i64 0]) ?_ 1 _ rfl; exact blk_put BX4.out 0 _ rfl); have HG3 := Aside0.mk (show w3.heap[g]? = some (.cells #[.int .i64 a0_0, .int .i64 a0_1, .int .i64 a0_2, .int .i64 a0_3, .bool a0_4, .bool a0_5, .bool a0_6, .bool a0_7, .bool a0_8, .bool a0_9, .bool a0_10, .bool a0_11, .bool a0_12, .bool a0_13] 23 (0, 0)) by rw [hw]; exact blk_far (blk_far HG2.out (p := ⟨g4, 0, none⟩) (blk_ne HG2.out BX4.out (by decide)) _) (p := ⟨g4, 1, none⟩) (blk_ne HG2.out BX4.out (by decide)) _); have HB3 := Aside0.mk (show Below w.heap.size w w3 by rw [hw]; exact below_set (below_set HB2.out HG4.out) HG4.out); clear hw hc0 hc1 hf0 hf1; have hd0 := (blk_cell BX3.out 0).trans rfl; have hd1 := (blk_cell BX3.out 1).trans rfl; have hdi := (blk_cell HG3.out 2).trans rfl))
      go_roundg 1
      case measure => have := HI.out; omega
      case rel =>
        have hd := HD.out
        refine ⟨3, _, _, rfl, rfl, by first | rfl | decide, ⟨by omega, by omega, by omega, ?_⟩, HG3, HB3⟩
        refine ⟨fun h_ => absurd h_ (by decide), fun h_ => absurd h_ (by decide), fun h_ => absurd h_ (by decide), fun _ => ⟨by (try unfold wrap64); omega, by first | rfl | decide | ((try unfold wrap64); omega)⟩, fun h_ => absurd h_ (by decide)⟩
    · have hix : ∀ W : World, (Instr.index 63 (.agg #[.pointer (some ⟨g, 0, none⟩), .int .i64 4, .pointer (some ⟨g, 1, none⟩), .int .i64 5, .pointer (some ⟨g, 2, none⟩), .int .i64 5, .pointer (some ⟨g, 3, none⟩), .int .i64 5]) (.int .i64 3)).run Try.prog W = .ok (.agg #[.pointer (some ⟨g, 3, none⟩), .int .i64 5]) W := fun W => by kernel_rfl
      obtain ⟨rfl, rfl⟩ := HI.out.2.2.2.2.2.2.1 rfl
      go_wp2_with (first | ((with_reducible refine gate_dst (N := 8) rfl ?_); refine box_event ?hg (N := 8) ?hd (cs := #[.pointer none, .int .i64 0]) (t := 62) ?hr ?_; (case hd => rfl); (case hg => rfl); (case hr => first | (go_simp; done) | (go_simp; rfl)); intro g4 hg w2 hbox hb; have BX4 := Aside0.mk hbox; have HG2 := Aside0.mk (blk_below HG.out hb); have HB2 := Aside0.mk (below_step HB.out hb); have HG4 := Aside0.mk (show w.heap.size ≤ g4 by have := HB.out.size; omega); have hc0 := (blk_cell hbox 0).trans rfl; have hc1 := (blk_cell hbox 1).trans rfl; have hf0 := blk_frozen hbox 0; have hf1 := blk_frozen hbox 1; clear hg hbox hb) | ((with_reducible refine gate_store (t := 62) (p := 8) rfl ?_); refine store_event (t := 62) (p := 8) (v := .tmp 19) (w1 := (w2.setCell ⟨g4, 0, none⟩ (.pointer (some ⟨g, 3, none⟩))).setCell ⟨g4, 1, none⟩ (.int .i64 5)) ?hg ?ho ?hn ?hr ?_; (case ho => rfl); (case hg => rfl); (case hn => rfl); (case hr => first | (go_simp; done) | (go_simp; rfl)); intro w3 hw; have BX3 := Aside0.mk (show w3.heap[g4]? = some (.cells #[.pointer (some ⟨g, 3, none⟩), .int .i64 5] 62 (0, 0)) by rw [hw]; refine blk_put (cs := #[.pointer (some ⟨g, 3, none⟩), .int .i64 0]) ?_ 1 _ rfl; exact blk_put BX4.out 0 _ rfl); have HG3 := Aside0.mk (show w3.heap[g]? = some (.cells #[.int .i64 a0_0, .int .i64 a0_1, .int .i64 a0_2, .int .i64 a0_3, .bool a0_4, .bool a0_5, .bool a0_6, .bool a0_7, .bool a0_8, .bool a0_9, .bool a0_10, .bool a0_11, .bool a0_12, .bool a0_13] 23 (0, 0)) by rw [hw]; exact blk_far (blk_far HG2.out (p := ⟨g4, 0, none⟩) (blk_ne HG2.out BX4.out (by decide)) _) (p := ⟨g4, 1, none⟩) (blk_ne HG2.out BX4.out (by decide)) _); have HB3 := Aside0.mk (show Below w.heap.size w w3 by rw [hw]; exact below_set (below_set HB2.out HG4.out) HG4.out); clear hw hc0 hc1 hf0 hf1; have hd0 := (blk_cell BX3.out 0).trans rfl; have hd1 := (blk_cell BX3.out 1).trans rfl; have hdi := (blk_cell HG3.out 3).trans rfl))
      go_roundg 0
      case measure => have := HI.out; omega
      case rel =>
        have hd := HD.out
        refine ⟨4, _, _, rfl, rfl, by first | rfl | decide, ⟨by omega, by omega, by omega, ?_⟩, HG3, HB3⟩
        refine ⟨fun h_ => absurd h_ (by decide), fun h_ => absurd h_ (by decide), fun h_ => absurd h_ (by decide), fun h_ => absurd h_ (by decide), fun _ => ⟨by (try unfold wrap64); omega, by first | rfl | decide | ((try unfold wrap64); omega)⟩⟩
    · obtain ⟨rfl, rfl⟩ := HI.out.2.2.2.2.2.2.2 rfl
      go_wp2_with (first | (go_at_call 60; (with_reducible refine (option_Bits.bitsof g _).mono ?_); rintro e w4 ⟨g3, rfl, F4⟩; have HS4 := Aside0.mk F4.out.2.1; have HGS := Aside0.mk (show w.heap.size ≤ g3 by have h1 := F4.out.1; have h2 := HB.out.size; omega); have HG4 := Aside0.mk (blk_below HG.out F4.out.2.2); have HB4 := Aside0.mk (below_step HB.out F4.out.2.2); clear F4))
      go_loopg [5, 35] 10 (fun kq v5 v35 w' => ∃ (j n : Int), v5 = .int .i64 n ∧ v35 = .int .i64 j ∧ Aside0 (0 ≤ j ∧ j ≤ 10 ∧ (10 - j).toNat = kq ∧ (j = 0 → n = a0_0 * 1 + a0_1 * 4 + a0_2 * 20 + a0_3 * 100 ∧ 0 ≤ n ∧ n < 500) ∧ (j = 1 → n = a0_0 * 1 + a0_1 * 4 + a0_2 * 20 + a0_3 * 100 + option_Bits.bm a0_4 500 ∧ 0 ≤ n ∧ n < 1000) ∧ (j = 2 → n = a0_0 * 1 + a0_1 * 4 + a0_2 * 20 + a0_3 * 100 + option_Bits.bm a0_4 500 + option_Bits.bm a0_5 1000 ∧ 0 ≤ n ∧ n < 2000) ∧ (j = 3 → n = a0_0 * 1 + a0_1 * 4 + a0_2 * 20 + a0_3 * 100 + option_Bits.bm a0_4 500 + option_Bits.bm a0_5 1000 + option_Bits.bm a0_6 2000 ∧ 0 ≤ n ∧ n < 4000) ∧ (j = 4 → n = a0_0 * 1 + a0_1 * 4 + a0_2 * 20 + a0_3 * 100 + option_Bits.bm a0_4 500 + option_Bits.bm a0_5 1000 + option_Bits.bm a0_6 2000 + option_Bits.bm a0_7 4000 ∧ 0 ≤ n ∧ n < 8000) ∧ (j = 5 → n = a0_0 * 1 + a0_1 * 4 + a0_2 * 20 + a0_3 * 100 + option_Bits.bm a0_4 500 + option_Bits.bm a0_5 1000 + option_Bits.bm a0_6 2000 + option_Bits.bm a0_7 4000 + option_Bits.bm a0_8 8000 ∧ 0 ≤ n ∧ n < 16000) ∧ (j = 6 → n = a0_0 * 1 + a0_1 * 4 + a0_2 * 20 + a0_3 * 100 + option_Bits.bm a0_4 500 + option_Bits.bm a0_5 1000 + option_Bits.bm a0_6 2000 + option_Bits.bm a0_7 4000 + option_Bits.bm a0_8 8000 + option_Bits.bm a0_9 16000 ∧ 0 ≤ n ∧ n < 32000) ∧ (j = 7 → n = a0_0 * 1 + a0_1 * 4 + a0_2 * 20 + a0_3 * 100 + option_Bits.bm a0_4 500 + option_Bits.bm a0_5 1000 + option_Bits.bm a0_6 2000 + option_Bits.bm a0_7 4000 + option_Bits.bm a0_8 8000 + option_Bits.bm a0_9 16000 + option_Bits.bm a0_10 32000 ∧ 0 ≤ n ∧ n < 64000) ∧ (j = 8 → n = a0_0 * 1 + a0_1 * 4 + a0_2 * 20 + a0_3 * 100 + option_Bits.bm a0_4 500 + option_Bits.bm a0_5 1000 + option_Bits.bm a0_6 2000 + option_Bits.bm a0_7 4000 + option_Bits.bm a0_8 8000 + option_Bits.bm a0_9 16000 + option_Bits.bm a0_10 32000 + option_Bits.bm a0_11 64000 ∧ 0 ≤ n ∧ n < 128000) ∧ (j = 9 → n = a0_0 * 1 + a0_1 * 4 + a0_2 * 20 + a0_3 * 100 + option_Bits.bm a0_4 500 + option_Bits.bm a0_5 1000 + option_Bits.bm a0_6 2000 + option_Bits.bm a0_7 4000 + option_Bits.bm a0_8 8000 + option_Bits.bm a0_9 16000 + option_Bits.bm a0_10 32000 + option_Bits.bm a0_11 64000 + option_Bits.bm a0_12 128000 ∧ 0 ≤ n ∧ n < 256000) ∧ (j = 10 → n = a0_0 * 1 + a0_1 * 4 + a0_2 * 20 + a0_3 * 100 + option_Bits.bm a0_4 500 + option_Bits.bm a0_5 1000 + option_Bits.bm a0_6 2000 + option_Bits.bm a0_7 4000 + option_Bits.bm a0_8 8000 + option_Bits.bm a0_9 16000 + option_Bits.bm a0_10 32000 + option_Bits.bm a0_11 64000 + option_Bits.bm a0_12 128000 + option_Bits.bm a0_13 256000 ∧ 0 ≤ n ∧ n < 512000)) ∧ Aside0 (w'.heap[g]? = some (.cells #[.int .i64 a0_0, .int .i64 a0_1, .int .i64 a0_2, .int .i64 a0_3, .bool a0_4, .bool a0_5, .bool a0_6, .bool a0_7, .bool a0_8, .bool a0_9, .bool a0_10, .bool a0_11, .bool a0_12, .bool a0_13] 23 (0, 0))) ∧ Aside0 (w'.heap[g3]? = some (.cells #[.pointer (some ⟨g, 4, none⟩), .int .i64 1, .pointer (some ⟨g, 5, none⟩), .int .i64 2, .pointer (some ⟨g, 6, none⟩), .int .i64 4, .pointer (some ⟨g, 7, none⟩), .int .i64 8, .pointer (some ⟨g, 8, none⟩), .int .i64 16, .pointer (some ⟨g, 9, none⟩), .int .i64 32, .pointer (some ⟨g, 10, none⟩), .int .i64 64, .pointer (some ⟨g, 11, none⟩), .int .i64 128, .pointer (some ⟨g, 12, none⟩), .int .i64 256, .pointer (some ⟨g, 13, none⟩), .int .i64 512] 82 (0, 0))) ∧ Aside0 (Below w.heap.size w w'))
      case atStart =>
        have hd := HD.out
        exact ⟨0, _, rfl, rfl, ⟨by omega, by omega, by omega, fun _ => ⟨by omega, by omega, by omega⟩, fun h_ => absurd h_ (by decide), fun h_ => absurd h_ (by decide), fun h_ => absurd h_ (by decide), fun h_ => absurd h_ (by decide), fun h_ => absurd h_ (by decide), fun h_ => absurd h_ (by decide), fun h_ => absurd h_ (by decide), fun h_ => absurd h_ (by decide), fun h_ => absurd h_ (by decide), fun h_ => absurd h_ (by decide)⟩, HG4, HS4, HB4⟩
      case round =>
        clear HG4 HB4 HS4 HG HB HI
        obtain ⟨j, n, rfl, rfl, HI, HG, HS, HB⟩ := hrel
        have hj : j = 0 ∨ j = 1 ∨ j = 2 ∨ j = 3 ∨ j = 4 ∨ j = 5 ∨ j = 6 ∨ j = 7 ∨ j = 8 ∨ j = 9 ∨ j = 10 := by have := HI.out; omega
        rcases hj with rfl | rfl | rfl | rfl | rfl | rfl | rfl | rfl | rfl | rfl | rfl
        · obtain ⟨hn, hn0, hn1⟩ := HI.out.2.2.2.1 rfl
          have HN := Aside0.mk hn
          have HN0 := Aside0.mk hn0
          have HN1 := Aside0.mk hn1
          clear hn hn0 hn1
          have hx0 := (blk_cell HS.out 0).trans rfl
          have hx1 := (blk_cell HS.out 1).trans rfl
          by_cases hb : a0_4 = true
          · subst hb
            have HBM := Aside0.mk (show option_Bits.bm true 500 = 500 from rfl)
            go_wp2_with (first | ((with_reducible refine gate_dst (N := 10) rfl ?_); refine box_event ?hg (N := 10) ?hd (cs := #[.pointer none, .int .i64 0]) (t := 82) ?hr ?_; (case hd => rfl); (case hg => rfl); (case hr => first | (go_simp; done) | (go_simp; rfl)); intro g4 hg w2 hbox hb; have BX4 := Aside0.mk hbox; have HG2 := Aside0.mk (blk_below HG.out hb); have HS2 := Aside0.mk (blk_below HS.out hb); have HNE4 := Aside0.mk (show g3 ≠ g4 by have h1 := blk_lt HS.out; omega); have HB2 := Aside0.mk (below_step HB.out hb); have HG4 := Aside0.mk (show w.heap.size ≤ g4 by have := HB.out.size; omega); have hc0 := (blk_cell hbox 0).trans rfl; have hc1 := (blk_cell hbox 1).trans rfl; have hf0 := blk_frozen hbox 0; have hf1 := blk_frozen hbox 1; clear hg hbox hb) | ((with_reducible refine gate_store (t := 82) (p := 10) rfl ?_); refine store_event (t := 82) (p := 10) (v := .tmp 38) (w1 := (w2.setCell ⟨g4, 0, none⟩ (.pointer (some ⟨g, 4, none⟩))).setCell ⟨g4, 1, none⟩ (.int .i64 1)) ?hg ?ho ?hn ?hr ?_; (case ho => rfl); (case hg => rfl); (case hn => rfl); (case hr => first | (go_simp; done) | (go_simp; rfl)); intro w3 hw; have BX3 := Aside0.mk (show w3.heap[g4]? = some (.cells #[.pointer (some ⟨g, 4, none⟩), .int .i64 1] 82 (0, 0)) by rw [hw]; refine blk_put (cs := #[.pointer (some ⟨g, 4, none⟩), .int .i64 0]) ?_ 1 _ rfl; exact blk_put BX4.out 0 _ rfl); have HG3 := Aside0.mk (show w3.heap[g]? = some (.cells #[.int .i64 a0_0, .int .i64 a0_1, .int .i64 a0_2, .int .i64 a0_3, .bool true, .bool a0_5, .bool a0_6, .bool a0_7, .bool a0_8, .bool a0_9, .bool a0_10, .bool a0_11, .bool a0_12, .bool a0_13] 23 (0, 0)) by rw [hw]; exact blk_far (blk_far HG2.out (p := ⟨g4, 0, none⟩) (blk_ne HG2.out BX4.out (by decide)) _) (p := ⟨g4, 1, none⟩) (blk_ne HG2.out BX4.out (by decide)) _); have HS3 := Aside0.mk (show w3.heap[g3]? = some (.cells #[.pointer (some ⟨g, 4, none⟩), .int .i64 1, .pointer (some ⟨g, 5, none⟩), .int .i64 2, .pointer (some ⟨g, 6, none⟩), .int .i64 4, .pointer (some ⟨g, 7, none⟩), .int .i64 8, .pointer (some ⟨g, 8, none⟩), .int .i64 16, .pointer (some ⟨g, 9, none⟩), .int .i64 32, .pointer (some ⟨g, 10, none⟩), .int .i64 64, .pointer (some ⟨g, 11, none⟩), .int .i64 128, .pointer (some ⟨g, 12, none⟩), .int .i64 256, .pointer (some ⟨g, 13, none⟩), .int .i64 512] 82 (0, 0)) by rw [hw]; exact blk_far (blk_far HS2.out (p := ⟨g4, 0, none⟩) (HNE4.out) _) (p := ⟨g4, 1, none⟩) (HNE4.out) _); have HB3 := Aside0.mk (show Below w.heap.size w w3 by rw [hw]; exact below_set (below_set HB2.out HG4.out) HG4.out); clear hw hc0 hc1 hf0 hf1; have hd0 := (blk_cell BX3.out 0).trans rfl; have hd1 := (blk_cell BX3.out 1).trans rfl; have hdi := (blk_cell HG3.out 4).trans rfl))
            go_roundg 9
            case measure => have := HI.out; omega
            case rel =>
              have h1 := HN.out
              have h2 := HN0.out
              have h3 := HN1.out
              have h4 := HBM.out
              refine ⟨1, _, rfl, by first | rfl | decide, ⟨by omega, by omega, by omega, ?_⟩, HG3, HS3, HB3⟩
              refine ⟨fun h_ => absurd h_ (by decide), fun _ => ⟨by (try unfold wrap64); omega, by (try unfold wrap64); omega, by (try unfold wrap64); omega⟩, fun h_ => absurd h_ (by decide), fun h_ => absurd h_ (by decide), fun h_ => absurd h_ (by decide), fun h_ => absurd h_ (by decide), fun h_ => absurd h_ (by decide), fun h_ => absurd h_ (by decide), fun h_ => absurd h_ (by decide), fun h_ => absurd h_ (by decide), fun h_ => absurd h_ (by decide)⟩
          · replace hb := Bool.eq_false_iff.mpr hb
            subst hb
            have HBM := Aside0.mk (show option_Bits.bm false 500 = 0 from rfl)
            go_wp2_with (first | ((with_reducible refine gate_dst (N := 10) rfl ?_); refine box_event ?hg (N := 10) ?hd (cs := #[.pointer none, .int .i64 0]) (t := 82) ?hr ?_; (case hd => rfl); (case hg => rfl); (case hr => first | (go_simp; done) | (go_simp; rfl)); intro g4 hg w2 hbox hb; have BX4 := Aside0.mk hbox; have HG2 := Aside0.mk (blk_below HG.out hb); have HS2 := Aside0.mk (blk_below HS.out hb); have HNE4 := Aside0.mk (show g3 ≠ g4 by have h1 := blk_lt HS.out; omega); have HB2 := Aside0.mk (below_step HB.out hb); have HG4 := Aside0.mk (show w.heap.size ≤ g4 by have := HB.out.size; omega); have hc0 := (blk_cell hbox 0).trans rfl; have hc1 := (blk_cell hbox 1).trans rfl; have hf0 := blk_frozen hbox 0; have hf1 := blk_frozen hbox 1; clear hg hbox hb) | ((with_reducible refine gate_store (t := 82) (p := 10) rfl ?_); refine store_event (t := 82) (p := 10) (v := .tmp 38) (w1 := (w2.setCell ⟨g4, 0, none⟩ (.pointer (some ⟨g, 4, none⟩))).setCell ⟨g4, 1, none⟩ (.int .i64 1)) ?hg ?ho ?hn ?hr ?_; (case ho => rfl); (case hg => rfl); (case hn => rfl); (case hr => first | (go_simp; done) | (go_simp; rfl)); intro w3 hw; have BX3 := Aside0.mk (show w3.heap[g4]? = some (.cells #[.pointer (some ⟨g, 4, none⟩), .int .i64 1] 82 (0, 0)) by rw [hw]; refine blk_put (cs := #[.pointer (some ⟨g, 4, none⟩), .int .i64 0]) ?_ 1 _ rfl; exact blk_put BX4.out 0 _ rfl); have HG3 := Aside0.mk (show w3.heap[g]? = some (.cells #[.int .i64 a0_0, .int .i64 a0_1, .int .i64 a0_2, .int .i64 a0_3, .bool false, .bool a0_5, .bool a0_6, .bool a0_7, .bool a0_8, .bool a0_9, .bool a0_10, .bool a0_11, .bool a0_12, .bool a0_13] 23 (0, 0)) by rw [hw]; exact blk_far (blk_far HG2.out (p := ⟨g4, 0, none⟩) (blk_ne HG2.out BX4.out (by decide)) _) (p := ⟨g4, 1, none⟩) (blk_ne HG2.out BX4.out (by decide)) _); have HS3 := Aside0.mk (show w3.heap[g3]? = some (.cells #[.pointer (some ⟨g, 4, none⟩), .int .i64 1, .pointer (some ⟨g, 5, none⟩), .int .i64 2, .pointer (some ⟨g, 6, none⟩), .int .i64 4, .pointer (some ⟨g, 7, none⟩), .int .i64 8, .pointer (some ⟨g, 8, none⟩), .int .i64 16, .pointer (some ⟨g, 9, none⟩), .int .i64 32, .pointer (some ⟨g, 10, none⟩), .int .i64 64, .pointer (some ⟨g, 11, none⟩), .int .i64 128, .pointer (some ⟨g, 12, none⟩), .int .i64 256, .pointer (some ⟨g, 13, none⟩), .int .i64 512] 82 (0, 0)) by rw [hw]; exact blk_far (blk_far HS2.out (p := ⟨g4, 0, none⟩) (HNE4.out) _) (p := ⟨g4, 1, none⟩) (HNE4.out) _); have HB3 := Aside0.mk (show Below w.heap.size w w3 by rw [hw]; exact below_set (below_set HB2.out HG4.out) HG4.out); clear hw hc0 hc1 hf0 hf1; have hd0 := (blk_cell BX3.out 0).trans rfl; have hd1 := (blk_cell BX3.out 1).trans rfl; have hdi := (blk_cell HG3.out 4).trans rfl))
            go_roundg 9
            case measure => have := HI.out; omega
            case rel =>
              have h1 := HN.out
              have h2 := HN0.out
              have h3 := HN1.out
              have h4 := HBM.out
              refine ⟨1, _, rfl, by first | rfl | decide, ⟨by omega, by omega, by omega, ?_⟩, HG3, HS3, HB3⟩
              refine ⟨fun h_ => absurd h_ (by decide), fun _ => ⟨by (try unfold wrap64); omega, by (try unfold wrap64); omega, by (try unfold wrap64); omega⟩, fun h_ => absurd h_ (by decide), fun h_ => absurd h_ (by decide), fun h_ => absurd h_ (by decide), fun h_ => absurd h_ (by decide), fun h_ => absurd h_ (by decide), fun h_ => absurd h_ (by decide), fun h_ => absurd h_ (by decide), fun h_ => absurd h_ (by decide), fun h_ => absurd h_ (by decide)⟩
        · obtain ⟨hn, hn0, hn1⟩ := HI.out.2.2.2.2.1 rfl
          have HN := Aside0.mk hn
          have HN0 := Aside0.mk hn0
          have HN1 := Aside0.mk hn1
          clear hn hn0 hn1
          have hx0 := (blk_cell HS.out 2).trans rfl
          have hx1 := (blk_cell HS.out 3).trans rfl
          by_cases hb : a0_5 = true
          · subst hb
            have HBM := Aside0.mk (show option_Bits.bm true 1000 = 1000 from rfl)
            go_wp2_with (first | ((with_reducible refine gate_dst (N := 10) rfl ?_); refine box_event ?hg (N := 10) ?hd (cs := #[.pointer none, .int .i64 0]) (t := 82) ?hr ?_; (case hd => rfl); (case hg => rfl); (case hr => first | (go_simp; done) | (go_simp; rfl)); intro g4 hg w2 hbox hb; have BX4 := Aside0.mk hbox; have HG2 := Aside0.mk (blk_below HG.out hb); have HS2 := Aside0.mk (blk_below HS.out hb); have HNE4 := Aside0.mk (show g3 ≠ g4 by have h1 := blk_lt HS.out; omega); have HB2 := Aside0.mk (below_step HB.out hb); have HG4 := Aside0.mk (show w.heap.size ≤ g4 by have := HB.out.size; omega); have hc0 := (blk_cell hbox 0).trans rfl; have hc1 := (blk_cell hbox 1).trans rfl; have hf0 := blk_frozen hbox 0; have hf1 := blk_frozen hbox 1; clear hg hbox hb) | ((with_reducible refine gate_store (t := 82) (p := 10) rfl ?_); refine store_event (t := 82) (p := 10) (v := .tmp 38) (w1 := (w2.setCell ⟨g4, 0, none⟩ (.pointer (some ⟨g, 5, none⟩))).setCell ⟨g4, 1, none⟩ (.int .i64 2)) ?hg ?ho ?hn ?hr ?_; (case ho => rfl); (case hg => rfl); (case hn => rfl); (case hr => first | (go_simp; done) | (go_simp; rfl)); intro w3 hw; have BX3 := Aside0.mk (show w3.heap[g4]? = some (.cells #[.pointer (some ⟨g, 5, none⟩), .int .i64 2] 82 (0, 0)) by rw [hw]; refine blk_put (cs := #[.pointer (some ⟨g, 5, none⟩), .int .i64 0]) ?_ 1 _ rfl; exact blk_put BX4.out 0 _ rfl); have HG3 := Aside0.mk (show w3.heap[g]? = some (.cells #[.int .i64 a0_0, .int .i64 a0_1, .int .i64 a0_2, .int .i64 a0_3, .bool a0_4, .bool true, .bool a0_6, .bool a0_7, .bool a0_8, .bool a0_9, .bool a0_10, .bool a0_11, .bool a0_12, .bool a0_13] 23 (0, 0)) by rw [hw]; exact blk_far (blk_far HG2.out (p := ⟨g4, 0, none⟩) (blk_ne HG2.out BX4.out (by decide)) _) (p := ⟨g4, 1, none⟩) (blk_ne HG2.out BX4.out (by decide)) _); have HS3 := Aside0.mk (show w3.heap[g3]? = some (.cells #[.pointer (some ⟨g, 4, none⟩), .int .i64 1, .pointer (some ⟨g, 5, none⟩), .int .i64 2, .pointer (some ⟨g, 6, none⟩), .int .i64 4, .pointer (some ⟨g, 7, none⟩), .int .i64 8, .pointer (some ⟨g, 8, none⟩), .int .i64 16, .pointer (some ⟨g, 9, none⟩), .int .i64 32, .pointer (some ⟨g, 10, none⟩), .int .i64 64, .pointer (some ⟨g, 11, none⟩), .int .i64 128, .pointer (some ⟨g, 12, none⟩), .int .i64 256, .pointer (some ⟨g, 13, none⟩), .int .i64 512] 82 (0, 0)) by rw [hw]; exact blk_far (blk_far HS2.out (p := ⟨g4, 0, none⟩) (HNE4.out) _) (p := ⟨g4, 1, none⟩) (HNE4.out) _); have HB3 := Aside0.mk (show Below w.heap.size w w3 by rw [hw]; exact below_set (below_set HB2.out HG4.out) HG4.out); clear hw hc0 hc1 hf0 hf1; have hd0 := (blk_cell BX3.out 0).trans rfl; have hd1 := (blk_cell BX3.out 1).trans rfl; have hdi := (blk_cell HG3.out 5).trans rfl))
            go_roundg 8
            case measure => have := HI.out; omega
            case rel =>
              have h1 := HN.out
              have h2 := HN0.out
              have h3 := HN1.out
              have h4 := HBM.out
              refine ⟨2, _, rfl, by first | rfl | decide, ⟨by omega, by omega, by omega, ?_⟩, HG3, HS3, HB3⟩
              refine ⟨fun h_ => absurd h_ (by decide), fun h_ => absurd h_ (by decide), fun _ => ⟨by (try unfold wrap64); omega, by (try unfold wrap64); omega, by (try unfold wrap64); omega⟩, fun h_ => absurd h_ (by decide), fun h_ => absurd h_ (by decide), fun h_ => absurd h_ (by decide), fun h_ => absurd h_ (by decide), fun h_ => absurd h_ (by decide), fun h_ => absurd h_ (by decide), fun h_ => absurd h_ (by decide), fun h_ => absurd h_ (by decide)⟩
          · replace hb := Bool.eq_false_iff.mpr hb
            subst hb
            have HBM := Aside0.mk (show option_Bits.bm false 1000 = 0 from rfl)
            go_wp2_with (first | ((with_reducible refine gate_dst (N := 10) rfl ?_); refine box_event ?hg (N := 10) ?hd (cs := #[.pointer none, .int .i64 0]) (t := 82) ?hr ?_; (case hd => rfl); (case hg => rfl); (case hr => first | (go_simp; done) | (go_simp; rfl)); intro g4 hg w2 hbox hb; have BX4 := Aside0.mk hbox; have HG2 := Aside0.mk (blk_below HG.out hb); have HS2 := Aside0.mk (blk_below HS.out hb); have HNE4 := Aside0.mk (show g3 ≠ g4 by have h1 := blk_lt HS.out; omega); have HB2 := Aside0.mk (below_step HB.out hb); have HG4 := Aside0.mk (show w.heap.size ≤ g4 by have := HB.out.size; omega); have hc0 := (blk_cell hbox 0).trans rfl; have hc1 := (blk_cell hbox 1).trans rfl; have hf0 := blk_frozen hbox 0; have hf1 := blk_frozen hbox 1; clear hg hbox hb) | ((with_reducible refine gate_store (t := 82) (p := 10) rfl ?_); refine store_event (t := 82) (p := 10) (v := .tmp 38) (w1 := (w2.setCell ⟨g4, 0, none⟩ (.pointer (some ⟨g, 5, none⟩))).setCell ⟨g4, 1, none⟩ (.int .i64 2)) ?hg ?ho ?hn ?hr ?_; (case ho => rfl); (case hg => rfl); (case hn => rfl); (case hr => first | (go_simp; done) | (go_simp; rfl)); intro w3 hw; have BX3 := Aside0.mk (show w3.heap[g4]? = some (.cells #[.pointer (some ⟨g, 5, none⟩), .int .i64 2] 82 (0, 0)) by rw [hw]; refine blk_put (cs := #[.pointer (some ⟨g, 5, none⟩), .int .i64 0]) ?_ 1 _ rfl; exact blk_put BX4.out 0 _ rfl); have HG3 := Aside0.mk (show w3.heap[g]? = some (.cells #[.int .i64 a0_0, .int .i64 a0_1, .int .i64 a0_2, .int .i64 a0_3, .bool a0_4, .bool false, .bool a0_6, .bool a0_7, .bool a0_8, .bool a0_9, .bool a0_10, .bool a0_11, .bool a0_12, .bool a0_13] 23 (0, 0)) by rw [hw]; exact blk_far (blk_far HG2.out (p := ⟨g4, 0, none⟩) (blk_ne HG2.out BX4.out (by decide)) _) (p := ⟨g4, 1, none⟩) (blk_ne HG2.out BX4.out (by decide)) _); have HS3 := Aside0.mk (show w3.heap[g3]? = some (.cells #[.pointer (some ⟨g, 4, none⟩), .int .i64 1, .pointer (some ⟨g, 5, none⟩), .int .i64 2, .pointer (some ⟨g, 6, none⟩), .int .i64 4, .pointer (some ⟨g, 7, none⟩), .int .i64 8, .pointer (some ⟨g, 8, none⟩), .int .i64 16, .pointer (some ⟨g, 9, none⟩), .int .i64 32, .pointer (some ⟨g, 10, none⟩), .int .i64 64, .pointer (some ⟨g, 11, none⟩), .int .i64 128, .pointer (some ⟨g, 12, none⟩), .int .i64 256, .pointer (some ⟨g, 13, none⟩), .int .i64 512] 82 (0, 0)) by rw [hw]; exact blk_far (blk_far HS2.out (p := ⟨g4, 0, none⟩) (HNE4.out) _) (p := ⟨g4, 1, none⟩) (HNE4.out) _); have HB3 := Aside0.mk (show Below w.heap.size w w3 by rw [hw]; exact below_set (below_set HB2.out HG4.out) HG4.out); clear hw hc0 hc1 hf0 hf1; have hd0 := (blk_cell BX3.out 0).trans rfl; have hd1 := (blk_cell BX3.out 1).trans rfl; have hdi := (blk_cell HG3.out 5).trans rfl))
            go_roundg 8
            case measure => have := HI.out; omega
            case rel =>
              have h1 := HN.out
              have h2 := HN0.out
              have h3 := HN1.out
              have h4 := HBM.out
              refine ⟨2, _, rfl, by first | rfl | decide, ⟨by omega, by omega, by omega, ?_⟩, HG3, HS3, HB3⟩
              refine ⟨fun h_ => absurd h_ (by decide), fun h_ => absurd h_ (by decide), fun _ => ⟨by (try unfold wrap64); omega, by (try unfold wrap64); omega, by (try unfold wrap64); omega⟩, fun h_ => absurd h_ (by decide), fun h_ => absurd h_ (by decide), fun h_ => absurd h_ (by decide), fun h_ => absurd h_ (by decide), fun h_ => absurd h_ (by decide), fun h_ => absurd h_ (by decide), fun h_ => absurd h_ (by decide), fun h_ => absurd h_ (by decide)⟩
        · obtain ⟨hn, hn0, hn1⟩ := HI.out.2.2.2.2.2.1 rfl
          have HN := Aside0.mk hn
          have HN0 := Aside0.mk hn0
          have HN1 := Aside0.mk hn1
          clear hn hn0 hn1
          have hx0 := (blk_cell HS.out 4).trans rfl
          have hx1 := (blk_cell HS.out 5).trans rfl
          by_cases hb : a0_6 = true
          · subst hb
            have HBM := Aside0.mk (show option_Bits.bm true 2000 = 2000 from rfl)
            go_wp2_with (first | ((with_reducible refine gate_dst (N := 10) rfl ?_); refine box_event ?hg (N := 10) ?hd (cs := #[.pointer none, .int .i64 0]) (t := 82) ?hr ?_; (case hd => rfl); (case hg => rfl); (case hr => first | (go_simp; done) | (go_simp; rfl)); intro g4 hg w2 hbox hb; have BX4 := Aside0.mk hbox; have HG2 := Aside0.mk (blk_below HG.out hb); have HS2 := Aside0.mk (blk_below HS.out hb); have HNE4 := Aside0.mk (show g3 ≠ g4 by have h1 := blk_lt HS.out; omega); have HB2 := Aside0.mk (below_step HB.out hb); have HG4 := Aside0.mk (show w.heap.size ≤ g4 by have := HB.out.size; omega); have hc0 := (blk_cell hbox 0).trans rfl; have hc1 := (blk_cell hbox 1).trans rfl; have hf0 := blk_frozen hbox 0; have hf1 := blk_frozen hbox 1; clear hg hbox hb) | ((with_reducible refine gate_store (t := 82) (p := 10) rfl ?_); refine store_event (t := 82) (p := 10) (v := .tmp 38) (w1 := (w2.setCell ⟨g4, 0, none⟩ (.pointer (some ⟨g, 6, none⟩))).setCell ⟨g4, 1, none⟩ (.int .i64 4)) ?hg ?ho ?hn ?hr ?_; (case ho => rfl); (case hg => rfl); (case hn => rfl); (case hr => first | (go_simp; done) | (go_simp; rfl)); intro w3 hw; have BX3 := Aside0.mk (show w3.heap[g4]? = some (.cells #[.pointer (some ⟨g, 6, none⟩), .int .i64 4] 82 (0, 0)) by rw [hw]; refine blk_put (cs := #[.pointer (some ⟨g, 6, none⟩), .int .i64 0]) ?_ 1 _ rfl; exact blk_put BX4.out 0 _ rfl); have HG3 := Aside0.mk (show w3.heap[g]? = some (.cells #[.int .i64 a0_0, .int .i64 a0_1, .int .i64 a0_2, .int .i64 a0_3, .bool a0_4, .bool a0_5, .bool true, .bool a0_7, .bool a0_8, .bool a0_9, .bool a0_10, .bool a0_11, .bool a0_12, .bool a0_13] 23 (0, 0)) by rw [hw]; exact blk_far (blk_far HG2.out (p := ⟨g4, 0, none⟩) (blk_ne HG2.out BX4.out (by decide)) _) (p := ⟨g4, 1, none⟩) (blk_ne HG2.out BX4.out (by decide)) _); have HS3 := Aside0.mk (show w3.heap[g3]? = some (.cells #[.pointer (some ⟨g, 4, none⟩), .int .i64 1, .pointer (some ⟨g, 5, none⟩), .int .i64 2, .pointer (some ⟨g, 6, none⟩), .int .i64 4, .pointer (some ⟨g, 7, none⟩), .int .i64 8, .pointer (some ⟨g, 8, none⟩), .int .i64 16, .pointer (some ⟨g, 9, none⟩), .int .i64 32, .pointer (some ⟨g, 10, none⟩), .int .i64 64, .pointer (some ⟨g, 11, none⟩), .int .i64 128, .pointer (some ⟨g, 12, none⟩), .int .i64 256, .pointer (some ⟨g, 13, none⟩), .int .i64 512] 82 (0, 0)) by rw [hw]; exact blk_far (blk_far HS2.out (p := ⟨g4, 0, none⟩) (HNE4.out) _) (p := ⟨g4, 1, none⟩) (HNE4.out) _); have HB3 := Aside0.mk (show Below w.heap.size w w3 by rw [hw]; exact below_set (below_set HB2.out HG4.out) HG4.out); clear hw hc0 hc1 hf0 hf1; have hd0 := (blk_cell BX3.out 0).trans rfl; have hd1 := (blk_cell BX3.out 1).trans rfl; have hdi := (blk_cell HG3.out 6).trans rfl))
            go_roundg 7
            case measure => have := HI.out; omega
            case rel =>
              have h1 := HN.out
              have h2 := HN0.out
              have h3 := HN1.out
              have h4 := HBM.out
              refine ⟨3, _, rfl, by first | rfl | decide, ⟨by omega, by omega, by omega, ?_⟩, HG3, HS3, HB3⟩
              refine ⟨fun h_ => absurd h_ (by decide), fun h_ => absurd h_ (by decide), fun h_ => absurd h_ (by decide), fun _ => ⟨by (try unfold wrap64); omega, by (try unfold wrap64); omega, by (try unfold wrap64); omega⟩, fun h_ => absurd h_ (by decide), fun h_ => absurd h_ (by decide), fun h_ => absurd h_ (by decide), fun h_ => absurd h_ (by decide), fun h_ => absurd h_ (by decide), fun h_ => absurd h_ (by decide), fun h_ => absurd h_ (by decide)⟩
          · replace hb := Bool.eq_false_iff.mpr hb
            subst hb
            have HBM := Aside0.mk (show option_Bits.bm false 2000 = 0 from rfl)
            go_wp2_with (first | ((with_reducible refine gate_dst (N := 10) rfl ?_); refine box_event ?hg (N := 10) ?hd (cs := #[.pointer none, .int .i64 0]) (t := 82) ?hr ?_; (case hd => rfl); (case hg => rfl); (case hr => first | (go_simp; done) | (go_simp; rfl)); intro g4 hg w2 hbox hb; have BX4 := Aside0.mk hbox; have HG2 := Aside0.mk (blk_below HG.out hb); have HS2 := Aside0.mk (blk_below HS.out hb); have HNE4 := Aside0.mk (show g3 ≠ g4 by have h1 := blk_lt HS.out; omega); have HB2 := Aside0.mk (below_step HB.out hb); have HG4 := Aside0.mk (show w.heap.size ≤ g4 by have := HB.out.size; omega); have hc0 := (blk_cell hbox 0).trans rfl; have hc1 := (blk_cell hbox 1).trans rfl; have hf0 := blk_frozen hbox 0; have hf1 := blk_frozen hbox 1; clear hg hbox hb) | ((with_reducible refine gate_store (t := 82) (p := 10) rfl ?_); refine store_event (t := 82) (p := 10) (v := .tmp 38) (w1 := (w2.setCell ⟨g4, 0, none⟩ (.pointer (some ⟨g, 6, none⟩))).setCell ⟨g4, 1, none⟩ (.int .i64 4)) ?hg ?ho ?hn ?hr ?_; (case ho => rfl); (case hg => rfl); (case hn => rfl); (case hr => first | (go_simp; done) | (go_simp; rfl)); intro w3 hw; have BX3 := Aside0.mk (show w3.heap[g4]? = some (.cells #[.pointer (some ⟨g, 6, none⟩), .int .i64 4] 82 (0, 0)) by rw [hw]; refine blk_put (cs := #[.pointer (some ⟨g, 6, none⟩), .int .i64 0]) ?_ 1 _ rfl; exact blk_put BX4.out 0 _ rfl); have HG3 := Aside0.mk (show w3.heap[g]? = some (.cells #[.int .i64 a0_0, .int .i64 a0_1, .int .i64 a0_2, .int .i64 a0_3, .bool a0_4, .bool a0_5, .bool false, .bool a0_7, .bool a0_8, .bool a0_9, .bool a0_10, .bool a0_11, .bool a0_12, .bool a0_13] 23 (0, 0)) by rw [hw]; exact blk_far (blk_far HG2.out (p := ⟨g4, 0, none⟩) (blk_ne HG2.out BX4.out (by decide)) _) (p := ⟨g4, 1, none⟩) (blk_ne HG2.out BX4.out (by decide)) _); have HS3 := Aside0.mk (show w3.heap[g3]? = some (.cells #[.pointer (some ⟨g, 4, none⟩), .int .i64 1, .pointer (some ⟨g, 5, none⟩), .int .i64 2, .pointer (some ⟨g, 6, none⟩), .int .i64 4, .pointer (some ⟨g, 7, none⟩), .int .i64 8, .pointer (some ⟨g, 8, none⟩), .int .i64 16, .pointer (some ⟨g, 9, none⟩), .int .i64 32, .pointer (some ⟨g, 10, none⟩), .int .i64 64, .pointer (some ⟨g, 11, none⟩), .int .i64 128, .pointer (some ⟨g, 12, none⟩), .int .i64 256, .pointer (some ⟨g, 13, none⟩), .int .i64 512] 82 (0, 0)) by rw [hw]; exact blk_far (blk_far HS2.out (p := ⟨g4, 0, none⟩) (HNE4.out) _) (p := ⟨g4, 1, none⟩) (HNE4.out) _); have HB3 := Aside0.mk (show Below w.heap.size w w3 by rw [hw]; exact below_set (below_set HB2.out HG4.out) HG4.out); clear hw hc0 hc1 hf0 hf1; have hd0 := (blk_cell BX3.out 0).trans rfl; have hd1 := (blk_cell BX3.out 1).trans rfl; have hdi := (blk_cell HG3.out 6).trans rfl))
            go_roundg 7
            case measure => have := HI.out; omega
            case rel =>
              have h1 := HN.out
              have h2 := HN0.out
              have h3 := HN1.out
              have h4 := HBM.out
              refine ⟨3, _, rfl, by first | rfl | decide, ⟨by omega, by omega, by omega, ?_⟩, HG3, HS3, HB3⟩
              refine ⟨fun h_ => absurd h_ (by decide), fun h_ => absurd h_ (by decide), fun h_ => absurd h_ (by decide), fun _ => ⟨by (try unfold wrap64); omega, by (try unfold wrap64); omega, by (try unfold wrap64); omega⟩, fun h_ => absurd h_ (by decide), fun h_ => absurd h_ (by decide), fun h_ => absurd h_ (by decide), fun h_ => absurd h_ (by decide), fun h_ => absurd h_ (by decide), fun h_ => absurd h_ (by decide), fun h_ => absurd h_ (by decide)⟩
        · obtain ⟨hn, hn0, hn1⟩ := HI.out.2.2.2.2.2.2.1 rfl
          have HN := Aside0.mk hn
          have HN0 := Aside0.mk hn0
          have HN1 := Aside0.mk hn1
          clear hn hn0 hn1
          have hx0 := (blk_cell HS.out 6).trans rfl
          have hx1 := (blk_cell HS.out 7).trans rfl
          by_cases hb : a0_7 = true
          · subst hb
            have HBM := Aside0.mk (show option_Bits.bm true 4000 = 4000 from rfl)
            go_wp2_with (first | ((with_reducible refine gate_dst (N := 10) rfl ?_); refine box_event ?hg (N := 10) ?hd (cs := #[.pointer none, .int .i64 0]) (t := 82) ?hr ?_; (case hd => rfl); (case hg => rfl); (case hr => first | (go_simp; done) | (go_simp; rfl)); intro g4 hg w2 hbox hb; have BX4 := Aside0.mk hbox; have HG2 := Aside0.mk (blk_below HG.out hb); have HS2 := Aside0.mk (blk_below HS.out hb); have HNE4 := Aside0.mk (show g3 ≠ g4 by have h1 := blk_lt HS.out; omega); have HB2 := Aside0.mk (below_step HB.out hb); have HG4 := Aside0.mk (show w.heap.size ≤ g4 by have := HB.out.size; omega); have hc0 := (blk_cell hbox 0).trans rfl; have hc1 := (blk_cell hbox 1).trans rfl; have hf0 := blk_frozen hbox 0; have hf1 := blk_frozen hbox 1; clear hg hbox hb) | ((with_reducible refine gate_store (t := 82) (p := 10) rfl ?_); refine store_event (t := 82) (p := 10) (v := .tmp 38) (w1 := (w2.setCell ⟨g4, 0, none⟩ (.pointer (some ⟨g, 7, none⟩))).setCell ⟨g4, 1, none⟩ (.int .i64 8)) ?hg ?ho ?hn ?hr ?_; (case ho => rfl); (case hg => rfl); (case hn => rfl); (case hr => first | (go_simp; done) | (go_simp; rfl)); intro w3 hw; have BX3 := Aside0.mk (show w3.heap[g4]? = some (.cells #[.pointer (some ⟨g, 7, none⟩), .int .i64 8] 82 (0, 0)) by rw [hw]; refine blk_put (cs := #[.pointer (some ⟨g, 7, none⟩), .int .i64 0]) ?_ 1 _ rfl; exact blk_put BX4.out 0 _ rfl); have HG3 := Aside0.mk (show w3.heap[g]? = some (.cells #[.int .i64 a0_0, .int .i64 a0_1, .int .i64 a0_2, .int .i64 a0_3, .bool a0_4, .bool a0_5, .bool a0_6, .bool true, .bool a0_8, .bool a0_9, .bool a0_10, .bool a0_11, .bool a0_12, .bool a0_13] 23 (0, 0)) by rw [hw]; exact blk_far (blk_far HG2.out (p := ⟨g4, 0, none⟩) (blk_ne HG2.out BX4.out (by decide)) _) (p := ⟨g4, 1, none⟩) (blk_ne HG2.out BX4.out (by decide)) _); have HS3 := Aside0.mk (show w3.heap[g3]? = some (.cells #[.pointer (some ⟨g, 4, none⟩), .int .i64 1, .pointer (some ⟨g, 5, none⟩), .int .i64 2, .pointer (some ⟨g, 6, none⟩), .int .i64 4, .pointer (some ⟨g, 7, none⟩), .int .i64 8, .pointer (some ⟨g, 8, none⟩), .int .i64 16, .pointer (some ⟨g, 9, none⟩), .int .i64 32, .pointer (some ⟨g, 10, none⟩), .int .i64 64, .pointer (some ⟨g, 11, none⟩), .int .i64 128, .pointer (some ⟨g, 12, none⟩), .int .i64 256, .pointer (some ⟨g, 13, none⟩), .int .i64 512] 82 (0, 0)) by rw [hw]; exact blk_far (blk_far HS2.out (p := ⟨g4, 0, none⟩) (HNE4.out) _) (p := ⟨g4, 1, none⟩) (HNE4.out) _); have HB3 := Aside0.mk (show Below w.heap.size w w3 by rw [hw]; exact below_set (below_set HB2.out HG4.out) HG4.out); clear hw hc0 hc1 hf0 hf1; have hd0 := (blk_cell BX3.out 0).trans rfl; have hd1 := (blk_cell BX3.out 1).trans rfl; have hdi := (blk_cell HG3.out 7).trans rfl))
            go_roundg 6
            case measure => have := HI.out; omega
            case rel =>
              have h1 := HN.out
              have h2 := HN0.out
              have h3 := HN1.out
              have h4 := HBM.out
              refine ⟨4, _, rfl, by first | rfl | decide, ⟨by omega, by omega, by omega, ?_⟩, HG3, HS3, HB3⟩
              refine ⟨fun h_ => absurd h_ (by decide), fun h_ => absurd h_ (by decide), fun h_ => absurd h_ (by decide), fun h_ => absurd h_ (by decide), fun _ => ⟨by (try unfold wrap64); omega, by (try unfold wrap64); omega, by (try unfold wrap64); omega⟩, fun h_ => absurd h_ (by decide), fun h_ => absurd h_ (by decide), fun h_ => absurd h_ (by decide), fun h_ => absurd h_ (by decide), fun h_ => absurd h_ (by decide), fun h_ => absurd h_ (by decide)⟩
          · replace hb := Bool.eq_false_iff.mpr hb
            subst hb
            have HBM := Aside0.mk (show option_Bits.bm false 4000 = 0 from rfl)
            go_wp2_with (first | ((with_reducible refine gate_dst (N := 10) rfl ?_); refine box_event ?hg (N := 10) ?hd (cs := #[.pointer none, .int .i64 0]) (t := 82) ?hr ?_; (case hd => rfl); (case hg => rfl); (case hr => first | (go_simp; done) | (go_simp; rfl)); intro g4 hg w2 hbox hb; have BX4 := Aside0.mk hbox; have HG2 := Aside0.mk (blk_below HG.out hb); have HS2 := Aside0.mk (blk_below HS.out hb); have HNE4 := Aside0.mk (show g3 ≠ g4 by have h1 := blk_lt HS.out; omega); have HB2 := Aside0.mk (below_step HB.out hb); have HG4 := Aside0.mk (show w.heap.size ≤ g4 by have := HB.out.size; omega); have hc0 := (blk_cell hbox 0).trans rfl; have hc1 := (blk_cell hbox 1).trans rfl; have hf0 := blk_frozen hbox 0; have hf1 := blk_frozen hbox 1; clear hg hbox hb) | ((with_reducible refine gate_store (t := 82) (p := 10) rfl ?_); refine store_event (t := 82) (p := 10) (v := .tmp 38) (w1 := (w2.setCell ⟨g4, 0, none⟩ (.pointer (some ⟨g, 7, none⟩))).setCell ⟨g4, 1, none⟩ (.int .i64 8)) ?hg ?ho ?hn ?hr ?_; (case ho => rfl); (case hg => rfl); (case hn => rfl); (case hr => first | (go_simp; done) | (go_simp; rfl)); intro w3 hw; have BX3 := Aside0.mk (show w3.heap[g4]? = some (.cells #[.pointer (some ⟨g, 7, none⟩), .int .i64 8] 82 (0, 0)) by rw [hw]; refine blk_put (cs := #[.pointer (some ⟨g, 7, none⟩), .int .i64 0]) ?_ 1 _ rfl; exact blk_put BX4.out 0 _ rfl); have HG3 := Aside0.mk (show w3.heap[g]? = some (.cells #[.int .i64 a0_0, .int .i64 a0_1, .int .i64 a0_2, .int .i64 a0_3, .bool a0_4, .bool a0_5, .bool a0_6, .bool false, .bool a0_8, .bool a0_9, .bool a0_10, .bool a0_11, .bool a0_12, .bool a0_13] 23 (0, 0)) by rw [hw]; exact blk_far (blk_far HG2.out (p := ⟨g4, 0, none⟩) (blk_ne HG2.out BX4.out (by decide)) _) (p := ⟨g4, 1, none⟩) (blk_ne HG2.out BX4.out (by decide)) _); have HS3 := Aside0.mk (show w3.heap[g3]? = some (.cells #[.pointer (some ⟨g, 4, none⟩), .int .i64 1, .pointer (some ⟨g, 5, none⟩), .int .i64 2, .pointer (some ⟨g, 6, none⟩), .int .i64 4, .pointer (some ⟨g, 7, none⟩), .int .i64 8, .pointer (some ⟨g, 8, none⟩), .int .i64 16, .pointer (some ⟨g, 9, none⟩), .int .i64 32, .pointer (some ⟨g, 10, none⟩), .int .i64 64, .pointer (some ⟨g, 11, none⟩), .int .i64 128, .pointer (some ⟨g, 12, none⟩), .int .i64 256, .pointer (some ⟨g, 13, none⟩), .int .i64 512] 82 (0, 0)) by rw [hw]; exact blk_far (blk_far HS2.out (p := ⟨g4, 0, none⟩) (HNE4.out) _) (p := ⟨g4, 1, none⟩) (HNE4.out) _); have HB3 := Aside0.mk (show Below w.heap.size w w3 by rw [hw]; exact below_set (below_set HB2.out HG4.out) HG4.out); clear hw hc0 hc1 hf0 hf1; have hd0 := (blk_cell BX3.out 0).trans rfl; have hd1 := (blk_cell BX3.out 1).trans rfl; have hdi := (blk_cell HG3.out 7).trans rfl))
            go_roundg 6
            case measure => have := HI.out; omega
            case rel =>
              have h1 := HN.out
              have h2 := HN0.out
              have h3 := HN1.out
              have h4 := HBM.out
              refine ⟨4, _, rfl, by first | rfl | decide, ⟨by omega, by omega, by omega, ?_⟩, HG3, HS3, HB3⟩
              refine ⟨fun h_ => absurd h_ (by decide), fun h_ => absurd h_ (by decide), fun h_ => absurd h_ (by decide), fun h_ => absurd h_ (by decide), fun _ => ⟨by (try unfold wrap64); omega, by (try unfold wrap64); omega, by (try unfold wrap64); omega⟩, fun h_ => absurd h_ (by decide), fun h_ => absurd h_ (by decide), fun h_ => absurd h_ (by decide), fun h_ => absurd h_ (by decide), fun h_ => absurd h_ (by decide), fun h_ => absurd h_ (by decide)⟩
        · obtain ⟨hn, hn0, hn1⟩ := HI.out.2.2.2.2.2.2.2.1 rfl
          have HN := Aside0.mk hn
          have HN0 := Aside0.mk hn0
          have HN1 := Aside0.mk hn1
          clear hn hn0 hn1
          have hx0 := (blk_cell HS.out 8).trans rfl
          have hx1 := (blk_cell HS.out 9).trans rfl
          by_cases hb : a0_8 = true
          · subst hb
            have HBM := Aside0.mk (show option_Bits.bm true 8000 = 8000 from rfl)
            go_wp2_with (first | ((with_reducible refine gate_dst (N := 10) rfl ?_); refine box_event ?hg (N := 10) ?hd (cs := #[.pointer none, .int .i64 0]) (t := 82) ?hr ?_; (case hd => rfl); (case hg => rfl); (case hr => first | (go_simp; done) | (go_simp; rfl)); intro g4 hg w2 hbox hb; have BX4 := Aside0.mk hbox; have HG2 := Aside0.mk (blk_below HG.out hb); have HS2 := Aside0.mk (blk_below HS.out hb); have HNE4 := Aside0.mk (show g3 ≠ g4 by have h1 := blk_lt HS.out; omega); have HB2 := Aside0.mk (below_step HB.out hb); have HG4 := Aside0.mk (show w.heap.size ≤ g4 by have := HB.out.size; omega); have hc0 := (blk_cell hbox 0).trans rfl; have hc1 := (blk_cell hbox 1).trans rfl; have hf0 := blk_frozen hbox 0; have hf1 := blk_frozen hbox 1; clear hg hbox hb) | ((with_reducible refine gate_store (t := 82) (p := 10) rfl ?_); refine store_event (t := 82) (p := 10) (v := .tmp 38) (w1 := (w2.setCell ⟨g4, 0, none⟩ (.pointer (some ⟨g, 8, none⟩))).setCell ⟨g4, 1, none⟩ (.int .i64 16)) ?hg ?ho ?hn ?hr ?_; (case ho => rfl); (case hg => rfl); (case hn => rfl); (case hr => first | (go_simp; done) | (go_simp; rfl)); intro w3 hw; have BX3 := Aside0.mk (show w3.heap[g4]? = some (.cells #[.pointer (some ⟨g, 8, none⟩), .int .i64 16] 82 (0, 0)) by rw [hw]; refine blk_put (cs := #[.pointer (some ⟨g, 8, none⟩), .int .i64 0]) ?_ 1 _ rfl; exact blk_put BX4.out 0 _ rfl); have HG3 := Aside0.mk (show w3.heap[g]? = some (.cells #[.int .i64 a0_0, .int .i64 a0_1, .int .i64 a0_2, .int .i64 a0_3, .bool a0_4, .bool a0_5, .bool a0_6, .bool a0_7, .bool true, .bool a0_9, .bool a0_10, .bool a0_11, .bool a0_12, .bool a0_13] 23 (0, 0)) by rw [hw]; exact blk_far (blk_far HG2.out (p := ⟨g4, 0, none⟩) (blk_ne HG2.out BX4.out (by decide)) _) (p := ⟨g4, 1, none⟩) (blk_ne HG2.out BX4.out (by decide)) _); have HS3 := Aside0.mk (show w3.heap[g3]? = some (.cells #[.pointer (some ⟨g, 4, none⟩), .int .i64 1, .pointer (some ⟨g, 5, none⟩), .int .i64 2, .pointer (some ⟨g, 6, none⟩), .int .i64 4, .pointer (some ⟨g, 7, none⟩), .int .i64 8, .pointer (some ⟨g, 8, none⟩), .int .i64 16, .pointer (some ⟨g, 9, none⟩), .int .i64 32, .pointer (some ⟨g, 10, none⟩), .int .i64 64, .pointer (some ⟨g, 11, none⟩), .int .i64 128, .pointer (some ⟨g, 12, none⟩), .int .i64 256, .pointer (some ⟨g, 13, none⟩), .int .i64 512] 82 (0, 0)) by rw [hw]; exact blk_far (blk_far HS2.out (p := ⟨g4, 0, none⟩) (HNE4.out) _) (p := ⟨g4, 1, none⟩) (HNE4.out) _); have HB3 := Aside0.mk (show Below w.heap.size w w3 by rw [hw]; exact below_set (below_set HB2.out HG4.out) HG4.out); clear hw hc0 hc1 hf0 hf1; have hd0 := (blk_cell BX3.out 0).trans rfl; have hd1 := (blk_cell BX3.out 1).trans rfl; have hdi := (blk_cell HG3.out 8).trans rfl))
            go_roundg 5
            case measure => have := HI.out; omega
            case rel =>
              have h1 := HN.out
              have h2 := HN0.out
              have h3 := HN1.out
              have h4 := HBM.out
              refine ⟨5, _, rfl, by first | rfl | decide, ⟨by omega, by omega, by omega, ?_⟩, HG3, HS3, HB3⟩
              refine ⟨fun h_ => absurd h_ (by decide), fun h_ => absurd h_ (by decide), fun h_ => absurd h_ (by decide), fun h_ => absurd h_ (by decide), fun h_ => absurd h_ (by decide), fun _ => ⟨by (try unfold wrap64); omega, by (try unfold wrap64); omega, by (try unfold wrap64); omega⟩, fun h_ => absurd h_ (by decide), fun h_ => absurd h_ (by decide), fun h_ => absurd h_ (by decide), fun h_ => absurd h_ (by decide), fun h_ => absurd h_ (by decide)⟩
          · replace hb := Bool.eq_false_iff.mpr hb
            subst hb
            have HBM := Aside0.mk (show option_Bits.bm false 8000 = 0 from rfl)
            go_wp2_with (first | ((with_reducible refine gate_dst (N := 10) rfl ?_); refine box_event ?hg (N := 10) ?hd (cs := #[.pointer none, .int .i64 0]) (t := 82) ?hr ?_; (case hd => rfl); (case hg => rfl); (case hr => first | (go_simp; done) | (go_simp; rfl)); intro g4 hg w2 hbox hb; have BX4 := Aside0.mk hbox; have HG2 := Aside0.mk (blk_below HG.out hb); have HS2 := Aside0.mk (blk_below HS.out hb); have HNE4 := Aside0.mk (show g3 ≠ g4 by have h1 := blk_lt HS.out; omega); have HB2 := Aside0.mk (below_step HB.out hb); have HG4 := Aside0.mk (show w.heap.size ≤ g4 by have := HB.out.size; omega); have hc0 := (blk_cell hbox 0).trans rfl; have hc1 := (blk_cell hbox 1).trans rfl; have hf0 := blk_frozen hbox 0; have hf1 := blk_frozen hbox 1; clear hg hbox hb) | ((with_reducible refine gate_store (t := 82) (p := 10) rfl ?_); refine store_event (t := 82) (p := 10) (v := .tmp 38) (w1 := (w2.setCell ⟨g4, 0, none⟩ (.pointer (some ⟨g, 8, none⟩))).setCell ⟨g4, 1, none⟩ (.int .i64 16)) ?hg ?ho ?hn ?hr ?_; (case ho => rfl); (case hg => rfl); (case hn => rfl); (case hr => first | (go_simp; done) | (go_simp; rfl)); intro w3 hw; have BX3 := Aside0.mk (show w3.heap[g4]? = some (.cells #[.pointer (some ⟨g, 8, none⟩), .int .i64 16] 82 (0, 0)) by rw [hw]; refine blk_put (cs := #[.pointer (some ⟨g, 8, none⟩), .int .i64 0]) ?_ 1 _ rfl; exact blk_put BX4.out 0 _ rfl); have HG3 := Aside0.mk (show w3.heap[g]? = some (.cells #[.int .i64 a0_0, .int .i64 a0_1, .int .i64 a0_2, .int .i64 a0_3, .bool a0_4, .bool a0_5, .bool a0_6, .bool a0_7, .bool false, .bool a0_9, .bool a0_10, .bool a0_11, .bool a0_12, .bool a0_13] 23 (0, 0)) by rw [hw]; exact blk_far (blk_far HG2.out (p := ⟨g4, 0, none⟩) (blk_ne HG2.out BX4.out (by decide)) _) (p := ⟨g4, 1, none⟩) (blk_ne HG2.out BX4.out (by decide)) _); have HS3 := Aside0.mk (show w3.heap[g3]? = some (.cells #[.pointer (some ⟨g, 4, none⟩), .int .i64 1, .pointer (some ⟨g, 5, none⟩), .int .i64 2, .pointer (some ⟨g, 6, none⟩), .int .i64 4, .pointer (some ⟨g, 7, none⟩), .int .i64 8, .pointer (some ⟨g, 8, none⟩), .int .i64 16, .pointer (some ⟨g, 9, none⟩), .int .i64 32, .pointer (some ⟨g, 10, none⟩), .int .i64 64, .pointer (some ⟨g, 11, none⟩), .int .i64 128, .pointer (some ⟨g, 12, none⟩), .int .i64 256, .pointer (some ⟨g, 13, none⟩), .int .i64 512] 82 (0, 0)) by rw [hw]; exact blk_far (blk_far HS2.out (p := ⟨g4, 0, none⟩) (HNE4.out) _) (p := ⟨g4, 1, none⟩) (HNE4.out) _); have HB3 := Aside0.mk (show Below w.heap.size w w3 by rw [hw]; exact below_set (below_set HB2.out HG4.out) HG4.out); clear hw hc0 hc1 hf0 hf1; have hd0 := (blk_cell BX3.out 0).trans rfl; have hd1 := (blk_cell BX3.out 1).trans rfl; have hdi := (blk_cell HG3.out 8).trans rfl))
            go_roundg 5
            case measure => have := HI.out; omega
            case rel =>
              have h1 := HN.out
              have h2 := HN0.out
              have h3 := HN1.out
              have h4 := HBM.out
              refine ⟨5, _, rfl, by first | rfl | decide, ⟨by omega, by omega, by omega, ?_⟩, HG3, HS3, HB3⟩
              refine ⟨fun h_ => absurd h_ (by decide), fun h_ => absurd h_ (by decide), fun h_ => absurd h_ (by decide), fun h_ => absurd h_ (by decide), fun h_ => absurd h_ (by decide), fun _ => ⟨by (try unfold wrap64); omega, by (try unfold wrap64); omega, by (try unfold wrap64); omega⟩, fun h_ => absurd h_ (by decide), fun h_ => absurd h_ (by decide), fun h_ => absurd h_ (by decide), fun h_ => absurd h_ (by decide), fun h_ => absurd h_ (by decide)⟩
        · obtain ⟨hn, hn0, hn1⟩ := HI.out.2.2.2.2.2.2.2.2.1 rfl
          have HN := Aside0.mk hn
          have HN0 := Aside0.mk hn0
          have HN1 := Aside0.mk hn1
          clear hn hn0 hn1
          have hx0 := (blk_cell HS.out 10).trans rfl
          have hx1 := (blk_cell HS.out 11).trans rfl
          by_cases hb : a0_9 = true
          · subst hb
            have HBM := Aside0.mk (show option_Bits.bm true 16000 = 16000 from rfl)
            go_wp2_with (first | ((with_reducible refine gate_dst (N := 10) rfl ?_); refine box_event ?hg (N := 10) ?hd (cs := #[.pointer none, .int .i64 0]) (t := 82) ?hr ?_; (case hd => rfl); (case hg => rfl); (case hr => first | (go_simp; done) | (go_simp; rfl)); intro g4 hg w2 hbox hb; have BX4 := Aside0.mk hbox; have HG2 := Aside0.mk (blk_below HG.out hb); have HS2 := Aside0.mk (blk_below HS.out hb); have HNE4 := Aside0.mk (show g3 ≠ g4 by have h1 := blk_lt HS.out; omega); have HB2 := Aside0.mk (below_step HB.out hb); have HG4 := Aside0.mk (show w.heap.size ≤ g4 by have := HB.out.size; omega); have hc0 := (blk_cell hbox 0).trans rfl; have hc1 := (blk_cell hbox 1).trans rfl; have hf0 := blk_frozen hbox 0; have hf1 := blk_frozen hbox 1; clear hg hbox hb) | ((with_reducible refine gate_store (t := 82) (p := 10) rfl ?_); refine store_event (t := 82) (p := 10) (v := .tmp 38) (w1 := (w2.setCell ⟨g4, 0, none⟩ (.pointer (some ⟨g, 9, none⟩))).setCell ⟨g4, 1, none⟩ (.int .i64 32)) ?hg ?ho ?hn ?hr ?_; (case ho => rfl); (case hg => rfl); (case hn => rfl); (case hr => first | (go_simp; done) | (go_simp; rfl)); intro w3 hw; have BX3 := Aside0.mk (show w3.heap[g4]? = some (.cells #[.pointer (some ⟨g, 9, none⟩), .int .i64 32] 82 (0, 0)) by rw [hw]; refine blk_put (cs := #[.pointer (some ⟨g, 9, none⟩), .int .i64 0]) ?_ 1 _ rfl; exact blk_put BX4.out 0 _ rfl); have HG3 := Aside0.mk (show w3.heap[g]? = some (.cells #[.int .i64 a0_0, .int .i64 a0_1, .int .i64 a0_2, .int .i64 a0_3, .bool a0_4, .bool a0_5, .bool a0_6, .bool a0_7, .bool a0_8, .bool true, .bool a0_10, .bool a0_11, .bool a0_12, .bool a0_13] 23 (0, 0)) by rw [hw]; exact blk_far (blk_far HG2.out (p := ⟨g4, 0, none⟩) (blk_ne HG2.out BX4.out (by decide)) _) (p := ⟨g4, 1, none⟩) (blk_ne HG2.out BX4.out (by decide)) _); have HS3 := Aside0.mk (show w3.heap[g3]? = some (.cells #[.pointer (some ⟨g, 4, none⟩), .int .i64 1, .pointer (some ⟨g, 5, none⟩), .int .i64 2, .pointer (some ⟨g, 6, none⟩), .int .i64 4, .pointer (some ⟨g, 7, none⟩), .int .i64 8, .pointer (some ⟨g, 8, none⟩), .int .i64 16, .pointer (some ⟨g, 9, none⟩), .int .i64 32, .pointer (some ⟨g, 10, none⟩), .int .i64 64, .pointer (some ⟨g, 11, none⟩), .int .i64 128, .pointer (some ⟨g, 12, none⟩), .int .i64 256, .pointer (some ⟨g, 13, none⟩), .int .i64 512] 82 (0, 0)) by rw [hw]; exact blk_far (blk_far HS2.out (p := ⟨g4, 0, none⟩) (HNE4.out) _) (p := ⟨g4, 1, none⟩) (HNE4.out) _); have HB3 := Aside0.mk (show Below w.heap.size w w3 by rw [hw]; exact below_set (below_set HB2.out HG4.out) HG4.out); clear hw hc0 hc1 hf0 hf1; have hd0 := (blk_cell BX3.out 0).trans rfl; have hd1 := (blk_cell BX3.out 1).trans rfl; have hdi := (blk_cell HG3.out 9).trans rfl))
            go_roundg 4
            case measure => have := HI.out; omega
            case rel =>
              have h1 := HN.out
              have h2 := HN0.out
              have h3 := HN1.out
              have h4 := HBM.out
              refine ⟨6, _, rfl, by first | rfl | decide, ⟨by omega, by omega, by omega, ?_⟩, HG3, HS3, HB3⟩
              refine ⟨fun h_ => absurd h_ (by decide), fun h_ => absurd h_ (by decide), fun h_ => absurd h_ (by decide), fun h_ => absurd h_ (by decide), fun h_ => absurd h_ (by decide), fun h_ => absurd h_ (by decide), fun _ => ⟨by (try unfold wrap64); omega, by (try unfold wrap64); omega, by (try unfold wrap64); omega⟩, fun h_ => absurd h_ (by decide), fun h_ => absurd h_ (by decide), fun h_ => absurd h_ (by decide), fun h_ => absurd h_ (by decide)⟩
          · replace hb := Bool.eq_false_iff.mpr hb
            subst hb
            have HBM := Aside0.mk (show option_Bits.bm false 16000 = 0 from rfl)
            go_wp2_with (first | ((with_reducible refine gate_dst (N := 10) rfl ?_); refine box_event ?hg (N := 10) ?hd (cs := #[.pointer none, .int .i64 0]) (t := 82) ?hr ?_; (case hd => rfl); (case hg => rfl); (case hr => first | (go_simp; done) | (go_simp; rfl)); intro g4 hg w2 hbox hb; have BX4 := Aside0.mk hbox; have HG2 := Aside0.mk (blk_below HG.out hb); have HS2 := Aside0.mk (blk_below HS.out hb); have HNE4 := Aside0.mk (show g3 ≠ g4 by have h1 := blk_lt HS.out; omega); have HB2 := Aside0.mk (below_step HB.out hb); have HG4 := Aside0.mk (show w.heap.size ≤ g4 by have := HB.out.size; omega); have hc0 := (blk_cell hbox 0).trans rfl; have hc1 := (blk_cell hbox 1).trans rfl; have hf0 := blk_frozen hbox 0; have hf1 := blk_frozen hbox 1; clear hg hbox hb) | ((with_reducible refine gate_store (t := 82) (p := 10) rfl ?_); refine store_event (t := 82) (p := 10) (v := .tmp 38) (w1 := (w2.setCell ⟨g4, 0, none⟩ (.pointer (some ⟨g, 9, none⟩))).setCell ⟨g4, 1, none⟩ (.int .i64 32)) ?hg ?ho ?hn ?hr ?_; (case ho => rfl); (case hg => rfl); (case hn => rfl); (case hr => first | (go_simp; done) | (go_simp; rfl)); intro w3 hw; have BX3 := Aside0.mk (show w3.heap[g4]? = some (.cells #[.pointer (some ⟨g, 9, none⟩), .int .i64 32] 82 (0, 0)) by rw [hw]; refine blk_put (cs := #[.pointer (some ⟨g, 9, none⟩), .int .i64 0]) ?_ 1 _ rfl; exact blk_put BX4.out 0 _ rfl); have HG3 := Aside0.mk (show w3.heap[g]? = some (.cells #[.int .i64 a0_0, .int .i64 a0_1, .int .i64 a0_2, .int .i64 a0_3, .bool a0_4, .bool a0_5, .bool a0_6, .bool a0_7, .bool a0_8, .bool false, .bool a0_10, .bool a0_11, .bool a0_12, .bool a0_13] 23 (0, 0)) by rw [hw]; exact blk_far (blk_far HG2.out (p := ⟨g4, 0, none⟩) (blk_ne HG2.out BX4.out (by decide)) _) (p := ⟨g4, 1, none⟩) (blk_ne HG2.out BX4.out (by decide)) _); have HS3 := Aside0.mk (show w3.heap[g3]? = some (.cells #[.pointer (some ⟨g, 4, none⟩), .int .i64 1, .pointer (some ⟨g, 5, none⟩), .int .i64 2, .pointer (some ⟨g, 6, none⟩), .int .i64 4, .pointer (some ⟨g, 7, none⟩), .int .i64 8, .pointer (some ⟨g, 8, none⟩), .int .i64 16, .pointer (some ⟨g, 9, none⟩), .int .i64 32, .pointer (some ⟨g, 10, none⟩), .int .i64 64, .pointer (some ⟨g, 11, none⟩), .int .i64 128, .pointer (some ⟨g, 12, none⟩), .int .i64 256, .pointer (some ⟨g, 13, none⟩), .int .i64 512] 82 (0, 0)) by rw [hw]; exact blk_far (blk_far HS2.out (p := ⟨g4, 0, none⟩) (HNE4.out) _) (p := ⟨g4, 1, none⟩) (HNE4.out) _); have HB3 := Aside0.mk (show Below w.heap.size w w3 by rw [hw]; exact below_set (below_set HB2.out HG4.out) HG4.out); clear hw hc0 hc1 hf0 hf1; have hd0 := (blk_cell BX3.out 0).trans rfl; have hd1 := (blk_cell BX3.out 1).trans rfl; have hdi := (blk_cell HG3.out 9).trans rfl))
            go_roundg 4
            case measure => have := HI.out; omega
            case rel =>
              have h1 := HN.out
              have h2 := HN0.out
              have h3 := HN1.out
              have h4 := HBM.out
              refine ⟨6, _, rfl, by first | rfl | decide, ⟨by omega, by omega, by omega, ?_⟩, HG3, HS3, HB3⟩
              refine ⟨fun h_ => absurd h_ (by decide), fun h_ => absurd h_ (by decide), fun h_ => absurd h_ (by decide), fun h_ => absurd h_ (by decide), fun h_ => absurd h_ (by decide), fun h_ => absurd h_ (by decide), fun _ => ⟨by (try unfold wrap64); omega, by (try unfold wrap64); omega, by (try unfold wrap64); omega⟩, fun h_ => absurd h_ (by decide), fun h_ => absurd h_ (by decide), fun h_ => absurd h_ (by decide), fun h_ => absurd h_ (by decide)⟩
        · obtain ⟨hn, hn0, hn1⟩ := HI.out.2.2.2.2.2.2.2.2.2.1 rfl
          have HN := Aside0.mk hn
          have HN0 := Aside0.mk hn0
          have HN1 := Aside0.mk hn1
          clear hn hn0 hn1
          have hx0 := (blk_cell HS.out 12).trans rfl
          have hx1 := (blk_cell HS.out 13).trans rfl
          by_cases hb : a0_10 = true
          · subst hb
            have HBM := Aside0.mk (show option_Bits.bm true 32000 = 32000 from rfl)
            go_wp2_with (first | ((with_reducible refine gate_dst (N := 10) rfl ?_); refine box_event ?hg (N := 10) ?hd (cs := #[.pointer none, .int .i64 0]) (t := 82) ?hr ?_; (case hd => rfl); (case hg => rfl); (case hr => first | (go_simp; done) | (go_simp; rfl)); intro g4 hg w2 hbox hb; have BX4 := Aside0.mk hbox; have HG2 := Aside0.mk (blk_below HG.out hb); have HS2 := Aside0.mk (blk_below HS.out hb); have HNE4 := Aside0.mk (show g3 ≠ g4 by have h1 := blk_lt HS.out; omega); have HB2 := Aside0.mk (below_step HB.out hb); have HG4 := Aside0.mk (show w.heap.size ≤ g4 by have := HB.out.size; omega); have hc0 := (blk_cell hbox 0).trans rfl; have hc1 := (blk_cell hbox 1).trans rfl; have hf0 := blk_frozen hbox 0; have hf1 := blk_frozen hbox 1; clear hg hbox hb) | ((with_reducible refine gate_store (t := 82) (p := 10) rfl ?_); refine store_event (t := 82) (p := 10) (v := .tmp 38) (w1 := (w2.setCell ⟨g4, 0, none⟩ (.pointer (some ⟨g, 10, none⟩))).setCell ⟨g4, 1, none⟩ (.int .i64 64)) ?hg ?ho ?hn ?hr ?_; (case ho => rfl); (case hg => rfl); (case hn => rfl); (case hr => first | (go_simp; done) | (go_simp; rfl)); intro w3 hw; have BX3 := Aside0.mk (show w3.heap[g4]? = some (.cells #[.pointer (some ⟨g, 10, none⟩), .int .i64 64] 82 (0, 0)) by rw [hw]; refine blk_put (cs := #[.pointer (some ⟨g, 10, none⟩), .int .i64 0]) ?_ 1 _ rfl; exact blk_put BX4.out 0 _ rfl); have HG3 := Aside0.mk (show w3.heap[g]? = some (.cells #[.int .i64 a0_0, .int .i64 a0_1, .int .i64 a0_2, .int .i64 a0_3, .bool a0_4, .bool a0_5, .bool a0_6, .bool a0_7, .bool a0_8, .bool a0_9, .bool true, .bool a0_11, .bool a0_12, .bool a0_13] 23 (0, 0)) by rw [hw]; exact blk_far (blk_far HG2.out (p := ⟨g4, 0, none⟩) (blk_ne HG2.out BX4.out (by decide)) _) (p := ⟨g4, 1, none⟩) (blk_ne HG2.out BX4.out (by decide)) _); have HS3 := Aside0.mk (show w3.heap[g3]? = some (.cells #[.pointer (some ⟨g, 4, none⟩), .int .i64 1, .pointer (some ⟨g, 5, none⟩), .int .i64 2, .pointer (some ⟨g, 6, none⟩), .int .i64 4, .pointer (some ⟨g, 7, none⟩), .int .i64 8, .pointer (some ⟨g, 8, none⟩), .int .i64 16, .pointer (some ⟨g, 9, none⟩), .int .i64 32, .pointer (some ⟨g, 10, none⟩), .int .i64 64, .pointer (some ⟨g, 11, none⟩), .int .i64 128, .pointer (some ⟨g, 12, none⟩), .int .i64 256, .pointer (some ⟨g, 13, none⟩), .int .i64 512] 82 (0, 0)) by rw [hw]; exact blk_far (blk_far HS2.out (p := ⟨g4, 0, none⟩) (HNE4.out) _) (p := ⟨g4, 1, none⟩) (HNE4.out) _); have HB3 := Aside0.mk (show Below w.heap.size w w3 by rw [hw]; exact below_set (below_set HB2.out HG4.out) HG4.out); clear hw hc0 hc1 hf0 hf1; have hd0 := (blk_cell BX3.out 0).trans rfl; have hd1 := (blk_cell BX3.out 1).trans rfl; have hdi := (blk_cell HG3.out 10).trans rfl))
            go_roundg 3
            case measure => have := HI.out; omega
            case rel =>
              have h1 := HN.out
              have h2 := HN0.out
              have h3 := HN1.out
              have h4 := HBM.out
              refine ⟨7, _, rfl, by first | rfl | decide, ⟨by omega, by omega, by omega, ?_⟩, HG3, HS3, HB3⟩
              refine ⟨fun h_ => absurd h_ (by decide), fun h_ => absurd h_ (by decide), fun h_ => absurd h_ (by decide), fun h_ => absurd h_ (by decide), fun h_ => absurd h_ (by decide), fun h_ => absurd h_ (by decide), fun h_ => absurd h_ (by decide), fun _ => ⟨by (try unfold wrap64); omega, by (try unfold wrap64); omega, by (try unfold wrap64); omega⟩, fun h_ => absurd h_ (by decide), fun h_ => absurd h_ (by decide), fun h_ => absurd h_ (by decide)⟩
          · replace hb := Bool.eq_false_iff.mpr hb
            subst hb
            have HBM := Aside0.mk (show option_Bits.bm false 32000 = 0 from rfl)
            go_wp2_with (first | ((with_reducible refine gate_dst (N := 10) rfl ?_); refine box_event ?hg (N := 10) ?hd (cs := #[.pointer none, .int .i64 0]) (t := 82) ?hr ?_; (case hd => rfl); (case hg => rfl); (case hr => first | (go_simp; done) | (go_simp; rfl)); intro g4 hg w2 hbox hb; have BX4 := Aside0.mk hbox; have HG2 := Aside0.mk (blk_below HG.out hb); have HS2 := Aside0.mk (blk_below HS.out hb); have HNE4 := Aside0.mk (show g3 ≠ g4 by have h1 := blk_lt HS.out; omega); have HB2 := Aside0.mk (below_step HB.out hb); have HG4 := Aside0.mk (show w.heap.size ≤ g4 by have := HB.out.size; omega); have hc0 := (blk_cell hbox 0).trans rfl; have hc1 := (blk_cell hbox 1).trans rfl; have hf0 := blk_frozen hbox 0; have hf1 := blk_frozen hbox 1; clear hg hbox hb) | ((with_reducible refine gate_store (t := 82) (p := 10) rfl ?_); refine store_event (t := 82) (p := 10) (v := .tmp 38) (w1 := (w2.setCell ⟨g4, 0, none⟩ (.pointer (some ⟨g, 10, none⟩))).setCell ⟨g4, 1, none⟩ (.int .i64 64)) ?hg ?ho ?hn ?hr ?_; (case ho => rfl); (case hg => rfl); (case hn => rfl); (case hr => first | (go_simp; done) | (go_simp; rfl)); intro w3 hw; have BX3 := Aside0.mk (show w3.heap[g4]? = some (.cells #[.pointer (some ⟨g, 10, none⟩), .int .i64 64] 82 (0, 0)) by rw [hw]; refine blk_put (cs := #[.pointer (some ⟨g, 10, none⟩), .int .i64 0]) ?_ 1 _ rfl; exact blk_put BX4.out 0 _ rfl); have HG3 := Aside0.mk (show w3.heap[g]? = some (.cells #[.int .i64 a0_0, .int .i64 a0_1, .int .i64 a0_2, .int .i64 a0_3, .bool a0_4, .bool a0_5, .bool a0_6, .bool a0_7, .bool a0_8, .bool a0_9, .bool false, .bool a0_11, .bool a0_12, .bool a0_13] 23 (0, 0)) by rw [hw]; exact blk_far (blk_far HG2.out (p := ⟨g4, 0, none⟩) (blk_ne HG2.out BX4.out (by decide)) _) (p := ⟨g4, 1, none⟩) (blk_ne HG2.out BX4.out (by decide)) _); have HS3 := Aside0.mk (show w3.heap[g3]? = some (.cells #[.pointer (some ⟨g, 4, none⟩), .int .i64 1, .pointer (some ⟨g, 5, none⟩), .int .i64 2, .pointer (some ⟨g, 6, none⟩), .int .i64 4, .pointer (some ⟨g, 7, none⟩), .int .i64 8, .pointer (some ⟨g, 8, none⟩), .int .i64 16, .pointer (some ⟨g, 9, none⟩), .int .i64 32, .pointer (some ⟨g, 10, none⟩), .int .i64 64, .pointer (some ⟨g, 11, none⟩), .int .i64 128, .pointer (some ⟨g, 12, none⟩), .int .i64 256, .pointer (some ⟨g, 13, none⟩), .int .i64 512] 82 (0, 0)) by rw [hw]; exact blk_far (blk_far HS2.out (p := ⟨g4, 0, none⟩) (HNE4.out) _) (p := ⟨g4, 1, none⟩) (HNE4.out) _); have HB3 := Aside0.mk (show Below w.heap.size w w3 by rw [hw]; exact below_set (below_set HB2.out HG4.out) HG4.out); clear hw hc0 hc1 hf0 hf1; have hd0 := (blk_cell BX3.out 0).trans rfl; have hd1 := (blk_cell BX3.out 1).trans rfl; have hdi := (blk_cell HG3.out 10).trans rfl))
            go_roundg 3
            case measure => have := HI.out; omega
            case rel =>
              have h1 := HN.out
              have h2 := HN0.out
              have h3 := HN1.out
              have h4 := HBM.out
              refine ⟨7, _, rfl, by first | rfl | decide, ⟨by omega, by omega, by omega, ?_⟩, HG3, HS3, HB3⟩
              refine ⟨fun h_ => absurd h_ (by decide), fun h_ => absurd h_ (by decide), fun h_ => absurd h_ (by decide), fun h_ => absurd h_ (by decide), fun h_ => absurd h_ (by decide), fun h_ => absurd h_ (by decide), fun h_ => absurd h_ (by decide), fun _ => ⟨by (try unfold wrap64); omega, by (try unfold wrap64); omega, by (try unfold wrap64); omega⟩, fun h_ => absurd h_ (by decide), fun h_ => absurd h_ (by decide), fun h_ => absurd h_ (by decide)⟩
        · obtain ⟨hn, hn0, hn1⟩ := HI.out.2.2.2.2.2.2.2.2.2.2.1 rfl
          have HN := Aside0.mk hn
          have HN0 := Aside0.mk hn0
          have HN1 := Aside0.mk hn1
          clear hn hn0 hn1
          have hx0 := (blk_cell HS.out 14).trans rfl
          have hx1 := (blk_cell HS.out 15).trans rfl
          by_cases hb : a0_11 = true
          · subst hb
            have HBM := Aside0.mk (show option_Bits.bm true 64000 = 64000 from rfl)
            go_wp2_with (first | ((with_reducible refine gate_dst (N := 10) rfl ?_); refine box_event ?hg (N := 10) ?hd (cs := #[.pointer none, .int .i64 0]) (t := 82) ?hr ?_; (case hd => rfl); (case hg => rfl); (case hr => first | (go_simp; done) | (go_simp; rfl)); intro g4 hg w2 hbox hb; have BX4 := Aside0.mk hbox; have HG2 := Aside0.mk (blk_below HG.out hb); have HS2 := Aside0.mk (blk_below HS.out hb); have HNE4 := Aside0.mk (show g3 ≠ g4 by have h1 := blk_lt HS.out; omega); have HB2 := Aside0.mk (below_step HB.out hb); have HG4 := Aside0.mk (show w.heap.size ≤ g4 by have := HB.out.size; omega); have hc0 := (blk_cell hbox 0).trans rfl; have hc1 := (blk_cell hbox 1).trans rfl; have hf0 := blk_frozen hbox 0; have hf1 := blk_frozen hbox 1; clear hg hbox hb) | ((with_reducible refine gate_store (t := 82) (p := 10) rfl ?_); refine store_event (t := 82) (p := 10) (v := .tmp 38) (w1 := (w2.setCell ⟨g4, 0, none⟩ (.pointer (some ⟨g, 11, none⟩))).setCell ⟨g4, 1, none⟩ (.int .i64 128)) ?hg ?ho ?hn ?hr ?_; (case ho => rfl); (case hg => rfl); (case hn => rfl); (case hr => first | (go_simp; done) | (go_simp; rfl)); intro w3 hw; have BX3 := Aside0.mk (show w3.heap[g4]? = some (.cells #[.pointer (some ⟨g, 11, none⟩), .int .i64 128] 82 (0, 0)) by rw [hw]; refine blk_put (cs := #[.pointer (some ⟨g, 11, none⟩), .int .i64 0]) ?_ 1 _ rfl; exact blk_put BX4.out 0 _ rfl); have HG3 := Aside0.mk (show w3.heap[g]? = some (.cells #[.int .i64 a0_0, .int .i64 a0_1, .int .i64 a0_2, .int .i64 a0_3, .bool a0_4, .bool a0_5, .bool a0_6, .bool a0_7, .bool a0_8, .bool a0_9, .bool a0_10, .bool true, .bool a0_12, .bool a0_13] 23 (0, 0)) by rw [hw]; exact blk_far (blk_far HG2.out (p := ⟨g4, 0, none⟩) (blk_ne HG2.out BX4.out (by decide)) _) (p := ⟨g4, 1, none⟩) (blk_ne HG2.out BX4.out (by decide)) _); have HS3 := Aside0.mk (show w3.heap[g3]? = some (.cells #[.pointer (some ⟨g, 4, none⟩), .int .i64 1, .pointer (some ⟨g, 5, none⟩), .int .i64 2, .pointer (some ⟨g, 6, none⟩), .int .i64 4, .pointer (some ⟨g, 7, none⟩), .int .i64 8, .pointer (some ⟨g, 8, none⟩), .int .i64 16, .pointer (some ⟨g, 9, none⟩), .int .i64 32, .pointer (some ⟨g, 10, none⟩), .int .i64 64, .pointer (some ⟨g, 11, none⟩), .int .i64 128, .pointer (some ⟨g, 12, none⟩), .int .i64 256, .pointer (some ⟨g, 13, none⟩), .int .i64 512] 82 (0, 0)) by rw [hw]; exact blk_far (blk_far HS2.out (p := ⟨g4, 0, none⟩) (HNE4.out) _) (p := ⟨g4, 1, none⟩) (HNE4.out) _); have HB3 := Aside0.mk (show Below w.heap.size w w3 by rw [hw]; exact below_set (below_set HB2.out HG4.out) HG4.out); clear hw hc0 hc1 hf0 hf1; have hd0 := (blk_cell BX3.out 0).trans rfl; have hd1 := (blk_cell BX3.out 1).trans rfl; have hdi := (blk_cell HG3.out 11).trans rfl))
            go_roundg 2
            case measure => have := HI.out; omega
            case rel =>
              have h1 := HN.out
              have h2 := HN0.out
              have h3 := HN1.out
              have h4 := HBM.out
              refine ⟨8, _, rfl, by first | rfl | decide, ⟨by omega, by omega, by omega, ?_⟩, HG3, HS3, HB3⟩
              refine ⟨fun h_ => absurd h_ (by decide), fun h_ => absurd h_ (by decide), fun h_ => absurd h_ (by decide), fun h_ => absurd h_ (by decide), fun h_ => absurd h_ (by decide), fun h_ => absurd h_ (by decide), fun h_ => absurd h_ (by decide), fun h_ => absurd h_ (by decide), fun _ => ⟨by (try unfold wrap64); omega, by (try unfold wrap64); omega, by (try unfold wrap64); omega⟩, fun h_ => absurd h_ (by decide), fun h_ => absurd h_ (by decide)⟩
          · replace hb := Bool.eq_false_iff.mpr hb
            subst hb
            have HBM := Aside0.mk (show option_Bits.bm false 64000 = 0 from rfl)
            go_wp2_with (first | ((with_reducible refine gate_dst (N := 10) rfl ?_); refine box_event ?hg (N := 10) ?hd (cs := #[.pointer none, .int .i64 0]) (t := 82) ?hr ?_; (case hd => rfl); (case hg => rfl); (case hr => first | (go_simp; done) | (go_simp; rfl)); intro g4 hg w2 hbox hb; have BX4 := Aside0.mk hbox; have HG2 := Aside0.mk (blk_below HG.out hb); have HS2 := Aside0.mk (blk_below HS.out hb); have HNE4 := Aside0.mk (show g3 ≠ g4 by have h1 := blk_lt HS.out; omega); have HB2 := Aside0.mk (below_step HB.out hb); have HG4 := Aside0.mk (show w.heap.size ≤ g4 by have := HB.out.size; omega); have hc0 := (blk_cell hbox 0).trans rfl; have hc1 := (blk_cell hbox 1).trans rfl; have hf0 := blk_frozen hbox 0; have hf1 := blk_frozen hbox 1; clear hg hbox hb) | ((with_reducible refine gate_store (t := 82) (p := 10) rfl ?_); refine store_event (t := 82) (p := 10) (v := .tmp 38) (w1 := (w2.setCell ⟨g4, 0, none⟩ (.pointer (some ⟨g, 11, none⟩))).setCell ⟨g4, 1, none⟩ (.int .i64 128)) ?hg ?ho ?hn ?hr ?_; (case ho => rfl); (case hg => rfl); (case hn => rfl); (case hr => first | (go_simp; done) | (go_simp; rfl)); intro w3 hw; have BX3 := Aside0.mk (show w3.heap[g4]? = some (.cells #[.pointer (some ⟨g, 11, none⟩), .int .i64 128] 82 (0, 0)) by rw [hw]; refine blk_put (cs := #[.pointer (some ⟨g, 11, none⟩), .int .i64 0]) ?_ 1 _ rfl; exact blk_put BX4.out 0 _ rfl); have HG3 := Aside0.mk (show w3.heap[g]? = some (.cells #[.int .i64 a0_0, .int .i64 a0_1, .int .i64 a0_2, .int .i64 a0_3, .bool a0_4, .bool a0_5, .bool a0_6, .bool a0_7, .bool a0_8, .bool a0_9, .bool a0_10, .bool false, .bool a0_12, .bool a0_13] 23 (0, 0)) by rw [hw]; exact blk_far (blk_far HG2.out (p := ⟨g4, 0, none⟩) (blk_ne HG2.out BX4.out (by decide)) _) (p := ⟨g4, 1, none⟩) (blk_ne HG2.out BX4.out (by decide)) _); have HS3 := Aside0.mk (show w3.heap[g3]? = some (.cells #[.pointer (some ⟨g, 4, none⟩), .int .i64 1, .pointer (some ⟨g, 5, none⟩), .int .i64 2, .pointer (some ⟨g, 6, none⟩), .int .i64 4, .pointer (some ⟨g, 7, none⟩), .int .i64 8, .pointer (some ⟨g, 8, none⟩), .int .i64 16, .pointer (some ⟨g, 9, none⟩), .int .i64 32, .pointer (some ⟨g, 10, none⟩), .int .i64 64, .pointer (some ⟨g, 11, none⟩), .int .i64 128, .pointer (some ⟨g, 12, none⟩), .int .i64 256, .pointer (some ⟨g, 13, none⟩), .int .i64 512] 82 (0, 0)) by rw [hw]; exact blk_far (blk_far HS2.out (p := ⟨g4, 0, none⟩) (HNE4.out) _) (p := ⟨g4, 1, none⟩) (HNE4.out) _); have HB3 := Aside0.mk (show Below w.heap.size w w3 by rw [hw]; exact below_set (below_set HB2.out HG4.out) HG4.out); clear hw hc0 hc1 hf0 hf1; have hd0 := (blk_cell BX3.out 0).trans rfl; have hd1 := (blk_cell BX3.out 1).trans rfl; have hdi := (blk_cell HG3.out 11).trans rfl))
            go_roundg 2
            case measure => have := HI.out; omega
            case rel =>
              have h1 := HN.out
              have h2 := HN0.out
              have h3 := HN1.out
              have h4 := HBM.out
              refine ⟨8, _, rfl, by first | rfl | decide, ⟨by omega, by omega, by omega, ?_⟩, HG3, HS3, HB3⟩
              refine ⟨fun h_ => absurd h_ (by decide), fun h_ => absurd h_ (by decide), fun h_ => absurd h_ (by decide), fun h_ => absurd h_ (by decide), fun h_ => absurd h_ (by decide), fun h_ => absurd h_ (by decide), fun h_ => absurd h_ (by decide), fun h_ => absurd h_ (by decide), fun _ => ⟨by (try unfold wrap64); omega, by (try unfold wrap64); omega, by (try unfold wrap64); omega⟩, fun h_ => absurd h_ (by decide), fun h_ => absurd h_ (by decide)⟩
        · obtain ⟨hn, hn0, hn1⟩ := HI.out.2.2.2.2.2.2.2.2.2.2.2.1 rfl
          have HN := Aside0.mk hn
          have HN0 := Aside0.mk hn0
          have HN1 := Aside0.mk hn1
          clear hn hn0 hn1
          have hx0 := (blk_cell HS.out 16).trans rfl
          have hx1 := (blk_cell HS.out 17).trans rfl
          by_cases hb : a0_12 = true
          · subst hb
            have HBM := Aside0.mk (show option_Bits.bm true 128000 = 128000 from rfl)
            go_wp2_with (first | ((with_reducible refine gate_dst (N := 10) rfl ?_); refine box_event ?hg (N := 10) ?hd (cs := #[.pointer none, .int .i64 0]) (t := 82) ?hr ?_; (case hd => rfl); (case hg => rfl); (case hr => first | (go_simp; done) | (go_simp; rfl)); intro g4 hg w2 hbox hb; have BX4 := Aside0.mk hbox; have HG2 := Aside0.mk (blk_below HG.out hb); have HS2 := Aside0.mk (blk_below HS.out hb); have HNE4 := Aside0.mk (show g3 ≠ g4 by have h1 := blk_lt HS.out; omega); have HB2 := Aside0.mk (below_step HB.out hb); have HG4 := Aside0.mk (show w.heap.size ≤ g4 by have := HB.out.size; omega); have hc0 := (blk_cell hbox 0).trans rfl; have hc1 := (blk_cell hbox 1).trans rfl; have hf0 := blk_frozen hbox 0; have hf1 := blk_frozen hbox 1; clear hg hbox hb) | ((with_reducible refine gate_store (t := 82) (p := 10) rfl ?_); refine store_event (t := 82) (p := 10) (v := .tmp 38) (w1 := (w2.setCell ⟨g4, 0, none⟩ (.pointer (some ⟨g, 12, none⟩))).setCell ⟨g4, 1, none⟩ (.int .i64 256)) ?hg ?ho ?hn ?hr ?_; (case ho => rfl); (case hg => rfl); (case hn => rfl); (case hr => first | (go_simp; done) | (go_simp; rfl)); intro w3 hw; have BX3 := Aside0.mk (show w3.heap[g4]? = some (.cells #[.pointer (some ⟨g, 12, none⟩), .int .i64 256] 82 (0, 0)) by rw [hw]; refine blk_put (cs := #[.pointer (some ⟨g, 12, none⟩), .int .i64 0]) ?_ 1 _ rfl; exact blk_put BX4.out 0 _ rfl); have HG3 := Aside0.mk (show w3.heap[g]? = some (.cells #[.int .i64 a0_0, .int .i64 a0_1, .int .i64 a0_2, .int .i64 a0_3, .bool a0_4, .bool a0_5, .bool a0_6, .bool a0_7, .bool a0_8, .bool a0_9, .bool a0_10, .bool a0_11, .bool true, .bool a0_13] 23 (0, 0)) by rw [hw]; exact blk_far (blk_far HG2.out (p := ⟨g4, 0, none⟩) (blk_ne HG2.out BX4.out (by decide)) _) (p := ⟨g4, 1, none⟩) (blk_ne HG2.out BX4.out (by decide)) _); have HS3 := Aside0.mk (show w3.heap[g3]? = some (.cells #[.pointer (some ⟨g, 4, none⟩), .int .i64 1, .pointer (some ⟨g, 5, none⟩), .int .i64 2, .pointer (some ⟨g, 6, none⟩), .int .i64 4, .pointer (some ⟨g, 7, none⟩), .int .i64 8, .pointer (some ⟨g, 8, none⟩), .int .i64 16, .pointer (some ⟨g, 9, none⟩), .int .i64 32, .pointer (some ⟨g, 10, none⟩), .int .i64 64, .pointer (some ⟨g, 11, none⟩), .int .i64 128, .pointer (some ⟨g, 12, none⟩), .int .i64 256, .pointer (some ⟨g, 13, none⟩), .int .i64 512] 82 (0, 0)) by rw [hw]; exact blk_far (blk_far HS2.out (p := ⟨g4, 0, none⟩) (HNE4.out) _) (p := ⟨g4, 1, none⟩) (HNE4.out) _); have HB3 := Aside0.mk (show Below w.heap.size w w3 by rw [hw]; exact below_set (below_set HB2.out HG4.out) HG4.out); clear hw hc0 hc1 hf0 hf1; have hd0 := (blk_cell BX3.out 0).trans rfl; have hd1 := (blk_cell BX3.out 1).trans rfl; have hdi := (blk_cell HG3.out 12).trans rfl))
            go_roundg 1
            case measure => have := HI.out; omega
            case rel =>
              have h1 := HN.out
              have h2 := HN0.out
              have h3 := HN1.out
              have h4 := HBM.out
              refine ⟨9, _, rfl, by first | rfl | decide, ⟨by omega, by omega, by omega, ?_⟩, HG3, HS3, HB3⟩
              refine ⟨fun h_ => absurd h_ (by decide), fun h_ => absurd h_ (by decide), fun h_ => absurd h_ (by decide), fun h_ => absurd h_ (by decide), fun h_ => absurd h_ (by decide), fun h_ => absurd h_ (by decide), fun h_ => absurd h_ (by decide), fun h_ => absurd h_ (by decide), fun h_ => absurd h_ (by decide), fun _ => ⟨by (try unfold wrap64); omega, by (try unfold wrap64); omega, by (try unfold wrap64); omega⟩, fun h_ => absurd h_ (by decide)⟩
          · replace hb := Bool.eq_false_iff.mpr hb
            subst hb
            have HBM := Aside0.mk (show option_Bits.bm false 128000 = 0 from rfl)
            go_wp2_with (first | ((with_reducible refine gate_dst (N := 10) rfl ?_); refine box_event ?hg (N := 10) ?hd (cs := #[.pointer none, .int .i64 0]) (t := 82) ?hr ?_; (case hd => rfl); (case hg => rfl); (case hr => first | (go_simp; done) | (go_simp; rfl)); intro g4 hg w2 hbox hb; have BX4 := Aside0.mk hbox; have HG2 := Aside0.mk (blk_below HG.out hb); have HS2 := Aside0.mk (blk_below HS.out hb); have HNE4 := Aside0.mk (show g3 ≠ g4 by have h1 := blk_lt HS.out; omega); have HB2 := Aside0.mk (below_step HB.out hb); have HG4 := Aside0.mk (show w.heap.size ≤ g4 by have := HB.out.size; omega); have hc0 := (blk_cell hbox 0).trans rfl; have hc1 := (blk_cell hbox 1).trans rfl; have hf0 := blk_frozen hbox 0; have hf1 := blk_frozen hbox 1; clear hg hbox hb) | ((with_reducible refine gate_store (t := 82) (p := 10) rfl ?_); refine store_event (t := 82) (p := 10) (v := .tmp 38) (w1 := (w2.setCell ⟨g4, 0, none⟩ (.pointer (some ⟨g, 12, none⟩))).setCell ⟨g4, 1, none⟩ (.int .i64 256)) ?hg ?ho ?hn ?hr ?_; (case ho => rfl); (case hg => rfl); (case hn => rfl); (case hr => first | (go_simp; done) | (go_simp; rfl)); intro w3 hw; have BX3 := Aside0.mk (show w3.heap[g4]? = some (.cells #[.pointer (some ⟨g, 12, none⟩), .int .i64 256] 82 (0, 0)) by rw [hw]; refine blk_put (cs := #[.pointer (some ⟨g, 12, none⟩), .int .i64 0]) ?_ 1 _ rfl; exact blk_put BX4.out 0 _ rfl); have HG3 := Aside0.mk (show w3.heap[g]? = some (.cells #[.int .i64 a0_0, .int .i64 a0_1, .int .i64 a0_2, .int .i64 a0_3, .bool a0_4, .bool a0_5, .bool a0_6, .bool a0_7, .bool a0_8, .bool a0_9, .bool a0_10, .bool a0_11, .bool false, .bool a0_13] 23 (0, 0)) by rw [hw]; exact blk_far (blk_far HG2.out (p := ⟨g4, 0, none⟩) (blk_ne HG2.out BX4.out (by decide)) _) (p := ⟨g4, 1, none⟩) (blk_ne HG2.out BX4.out (by decide)) _); have HS3 := Aside0.mk (show w3.heap[g3]? = some (.cells #[.pointer (some ⟨g, 4, none⟩), .int .i64 1, .pointer (some ⟨g, 5, none⟩), .int .i64 2, .pointer (some ⟨g, 6, none⟩), .int .i64 4, .pointer (some ⟨g, 7, none⟩), .int .i64 8, .pointer (some ⟨g, 8, none⟩), .int .i64 16, .pointer (some ⟨g, 9, none⟩), .int .i64 32, .pointer (some ⟨g, 10, none⟩), .int .i64 64, .pointer (some ⟨g, 11, none⟩), .int .i64 128, .pointer (some ⟨g, 12, none⟩), .int .i64 256, .pointer (some ⟨g, 13, none⟩), .int .i64 512] 82 (0, 0)) by rw [hw]; exact blk_far (blk_far HS2.out (p := ⟨g4, 0, none⟩) (HNE4.out) _) (p := ⟨g4, 1, none⟩) (HNE4.out) _); have HB3 := Aside0.mk (show Below w.heap.size w w3 by rw [hw]; exact below_set (below_set HB2.out HG4.out) HG4.out); clear hw hc0 hc1 hf0 hf1; have hd0 := (blk_cell BX3.out 0).trans rfl; have hd1 := (blk_cell BX3.out 1).trans rfl; have hdi := (blk_cell HG3.out 12).trans rfl))
            go_roundg 1
            case measure => have := HI.out; omega
            case rel =>
              have h1 := HN.out
              have h2 := HN0.out
              have h3 := HN1.out
              have h4 := HBM.out
              refine ⟨9, _, rfl, by first | rfl | decide, ⟨by omega, by omega, by omega, ?_⟩, HG3, HS3, HB3⟩
              refine ⟨fun h_ => absurd h_ (by decide), fun h_ => absurd h_ (by decide), fun h_ => absurd h_ (by decide), fun h_ => absurd h_ (by decide), fun h_ => absurd h_ (by decide), fun h_ => absurd h_ (by decide), fun h_ => absurd h_ (by decide), fun h_ => absurd h_ (by decide), fun h_ => absurd h_ (by decide), fun _ => ⟨by (try unfold wrap64); omega, by (try unfold wrap64); omega, by (try unfold wrap64); omega⟩, fun h_ => absurd h_ (by decide)⟩
        · obtain ⟨hn, hn0, hn1⟩ := HI.out.2.2.2.2.2.2.2.2.2.2.2.2.1 rfl
          have HN := Aside0.mk hn
          have HN0 := Aside0.mk hn0
          have HN1 := Aside0.mk hn1
          clear hn hn0 hn1
          have hx0 := (blk_cell HS.out 18).trans rfl
          have hx1 := (blk_cell HS.out 19).trans rfl
          by_cases hb : a0_13 = true
          · subst hb
            have HBM := Aside0.mk (show option_Bits.bm true 256000 = 256000 from rfl)
            go_wp2_with (first | ((with_reducible refine gate_dst (N := 10) rfl ?_); refine box_event ?hg (N := 10) ?hd (cs := #[.pointer none, .int .i64 0]) (t := 82) ?hr ?_; (case hd => rfl); (case hg => rfl); (case hr => first | (go_simp; done) | (go_simp; rfl)); intro g4 hg w2 hbox hb; have BX4 := Aside0.mk hbox; have HG2 := Aside0.mk (blk_below HG.out hb); have HS2 := Aside0.mk (blk_below HS.out hb); have HNE4 := Aside0.mk (show g3 ≠ g4 by have h1 := blk_lt HS.out; omega); have HB2 := Aside0.mk (below_step HB.out hb); have HG4 := Aside0.mk (show w.heap.size ≤ g4 by have := HB.out.size; omega); have hc0 := (blk_cell hbox 0).trans rfl; have hc1 := (blk_cell hbox 1).trans rfl; have hf0 := blk_frozen hbox 0; have hf1 := blk_frozen hbox 1; clear hg hbox hb) | ((with_reducible refine gate_store (t := 82) (p := 10) rfl ?_); refine store_event (t := 82) (p := 10) (v := .tmp 38) (w1 := (w2.setCell ⟨g4, 0, none⟩ (.pointer (some ⟨g, 13, none⟩))).setCell ⟨g4, 1, none⟩ (.int .i64 512)) ?hg ?ho ?hn ?hr ?_; (case ho => rfl); (case hg => rfl); (case hn => rfl); (case hr => first | (go_simp; done) | (go_simp; rfl)); intro w3 hw; have BX3 := Aside0.mk (show w3.heap[g4]? = some (.cells #[.pointer (some ⟨g, 13, none⟩), .int .i64 512] 82 (0, 0)) by rw [hw]; refine blk_put (cs := #[.pointer (some ⟨g, 13, none⟩), .int .i64 0]) ?_ 1 _ rfl; exact blk_put BX4.out 0 _ rfl); have HG3 := Aside0.mk (show w3.heap[g]? = some (.cells #[.int .i64 a0_0, .int .i64 a0_1, .int .i64 a0_2, .int .i64 a0_3, .bool a0_4, .bool a0_5, .bool a0_6, .bool a0_7, .bool a0_8, .bool a0_9, .bool a0_10, .bool a0_11, .bool a0_12, .bool true] 23 (0, 0)) by rw [hw]; exact blk_far (blk_far HG2.out (p := ⟨g4, 0, none⟩) (blk_ne HG2.out BX4.out (by decide)) _) (p := ⟨g4, 1, none⟩) (blk_ne HG2.out BX4.out (by decide)) _); have HS3 := Aside0.mk (show w3.heap[g3]? = some (.cells #[.pointer (some ⟨g, 4, none⟩), .int .i64 1, .pointer (some ⟨g, 5, none⟩), .int .i64 2, .pointer (some ⟨g, 6, none⟩), .int .i64 4, .pointer (some ⟨g, 7, none⟩), .int .i64 8, .pointer (some ⟨g, 8, none⟩), .int .i64 16, .pointer (some ⟨g, 9, none⟩), .int .i64 32, .pointer (some ⟨g, 10, none⟩), .int .i64 64, .pointer (some ⟨g, 11, none⟩), .int .i64 128, .pointer (some ⟨g, 12, none⟩), .int .i64 256, .pointer (some ⟨g, 13, none⟩), .int .i64 512] 82 (0, 0)) by rw [hw]; exact blk_far (blk_far HS2.out (p := ⟨g4, 0, none⟩) (HNE4.out) _) (p := ⟨g4, 1, none⟩) (HNE4.out) _); have HB3 := Aside0.mk (show Below w.heap.size w w3 by rw [hw]; exact below_set (below_set HB2.out HG4.out) HG4.out); clear hw hc0 hc1 hf0 hf1; have hd0 := (blk_cell BX3.out 0).trans rfl; have hd1 := (blk_cell BX3.out 1).trans rfl; have hdi := (blk_cell HG3.out 13).trans rfl))
            go_roundg 0
            case measure => have := HI.out; omega
            case rel =>
              have h1 := HN.out
              have h2 := HN0.out
              have h3 := HN1.out
              have h4 := HBM.out
              refine ⟨10, _, rfl, by first | rfl | decide, ⟨by omega, by omega, by omega, ?_⟩, HG3, HS3, HB3⟩
              refine ⟨fun h_ => absurd h_ (by decide), fun h_ => absurd h_ (by decide), fun h_ => absurd h_ (by decide), fun h_ => absurd h_ (by decide), fun h_ => absurd h_ (by decide), fun h_ => absurd h_ (by decide), fun h_ => absurd h_ (by decide), fun h_ => absurd h_ (by decide), fun h_ => absurd h_ (by decide), fun h_ => absurd h_ (by decide), fun _ => ⟨by (try unfold wrap64); omega, by (try unfold wrap64); omega, by (try unfold wrap64); omega⟩⟩
          · replace hb := Bool.eq_false_iff.mpr hb
            subst hb
            have HBM := Aside0.mk (show option_Bits.bm false 256000 = 0 from rfl)
            go_wp2_with (first | ((with_reducible refine gate_dst (N := 10) rfl ?_); refine box_event ?hg (N := 10) ?hd (cs := #[.pointer none, .int .i64 0]) (t := 82) ?hr ?_; (case hd => rfl); (case hg => rfl); (case hr => first | (go_simp; done) | (go_simp; rfl)); intro g4 hg w2 hbox hb; have BX4 := Aside0.mk hbox; have HG2 := Aside0.mk (blk_below HG.out hb); have HS2 := Aside0.mk (blk_below HS.out hb); have HNE4 := Aside0.mk (show g3 ≠ g4 by have h1 := blk_lt HS.out; omega); have HB2 := Aside0.mk (below_step HB.out hb); have HG4 := Aside0.mk (show w.heap.size ≤ g4 by have := HB.out.size; omega); have hc0 := (blk_cell hbox 0).trans rfl; have hc1 := (blk_cell hbox 1).trans rfl; have hf0 := blk_frozen hbox 0; have hf1 := blk_frozen hbox 1; clear hg hbox hb) | ((with_reducible refine gate_store (t := 82) (p := 10) rfl ?_); refine store_event (t := 82) (p := 10) (v := .tmp 38) (w1 := (w2.setCell ⟨g4, 0, none⟩ (.pointer (some ⟨g, 13, none⟩))).setCell ⟨g4, 1, none⟩ (.int .i64 512)) ?hg ?ho ?hn ?hr ?_; (case ho => rfl); (case hg => rfl); (case hn => rfl); (case hr => first | (go_simp; done) | (go_simp; rfl)); intro w3 hw; have BX3 := Aside0.mk (show w3.heap[g4]? = some (.cells #[.pointer (some ⟨g, 13, none⟩), .int .i64 512] 82 (0, 0)) by rw [hw]; refine blk_put (cs := #[.pointer (some ⟨g, 13, none⟩), .int .i64 0]) ?_ 1 _ rfl; exact blk_put BX4.out 0 _ rfl); have HG3 := Aside0.mk (show w3.heap[g]? = some (.cells #[.int .i64 a0_0, .int .i64 a0_1, .int .i64 a0_2, .int .i64 a0_3, .bool a0_4, .bool a0_5, .bool a0_6, .bool a0_7, .bool a0_8, .bool a0_9, .bool a0_10, .bool a0_11, .bool a0_12, .bool false] 23 (0, 0)) by rw [hw]; exact blk_far (blk_far HG2.out (p := ⟨g4, 0, none⟩) (blk_ne HG2.out BX4.out (by decide)) _) (p := ⟨g4, 1, none⟩) (blk_ne HG2.out BX4.out (by decide)) _); have HS3 := Aside0.mk (show w3.heap[g3]? = some (.cells #[.pointer (some ⟨g, 4, none⟩), .int .i64 1, .pointer (some ⟨g, 5, none⟩), .int .i64 2, .pointer (some ⟨g, 6, none⟩), .int .i64 4, .pointer (some ⟨g, 7, none⟩), .int .i64 8, .pointer (some ⟨g, 8, none⟩), .int .i64 16, .pointer (some ⟨g, 9, none⟩), .int .i64 32, .pointer (some ⟨g, 10, none⟩), .int .i64 64, .pointer (some ⟨g, 11, none⟩), .int .i64 128, .pointer (some ⟨g, 12, none⟩), .int .i64 256, .pointer (some ⟨g, 13, none⟩), .int .i64 512] 82 (0, 0)) by rw [hw]; exact blk_far (blk_far HS2.out (p := ⟨g4, 0, none⟩) (HNE4.out) _) (p := ⟨g4, 1, none⟩) (HNE4.out) _); have HB3 := Aside0.mk (show Below w.heap.size w w3 by rw [hw]; exact below_set (below_set HB2.out HG4.out) HG4.out); clear hw hc0 hc1 hf0 hf1; have hd0 := (blk_cell BX3.out 0).trans rfl; have hd1 := (blk_cell BX3.out 1).trans rfl; have hdi := (blk_cell HG3.out 13).trans rfl))
            go_roundg 0
            case measure => have := HI.out; omega
            case rel =>
              have h1 := HN.out
              have h2 := HN0.out
              have h3 := HN1.out
              have h4 := HBM.out
              refine ⟨10, _, rfl, by first | rfl | decide, ⟨by omega, by omega, by omega, ?_⟩, HG3, HS3, HB3⟩
              refine ⟨fun h_ => absurd h_ (by decide), fun h_ => absurd h_ (by decide), fun h_ => absurd h_ (by decide), fun h_ => absurd h_ (by decide), fun h_ => absurd h_ (by decide), fun h_ => absurd h_ (by decide), fun h_ => absurd h_ (by decide), fun h_ => absurd h_ (by decide), fun h_ => absurd h_ (by decide), fun h_ => absurd h_ (by decide), fun _ => ⟨by (try unfold wrap64); omega, by (try unfold wrap64); omega, by (try unfold wrap64); omega⟩⟩
        · obtain ⟨hn, hn0, hn1⟩ := HI.out.2.2.2.2.2.2.2.2.2.2.2.2.2 rfl
          have HN := Aside0.mk hn
          clear hn hn0 hn1
          go_wp2
          go_ret2
          exact ⟨by rw [show r1 = n from (HN.out.trans HR.out.1).symm, show r2 = 0 from HR.out.2.symm] <;> first | rfl | simp, HB.out⟩
def naskhlaw10_awake.f (k : Nat)  : Option (Bool) := (option_Bits.f k 1 0 0 0 false true false false false false false false false false).bind fun bt177 => (if bt177.2 = 0 then (if bt177.1 = 1001 then ((option_Check.f k 0 1 0 0 false false false false false false false false false false).bind fun t179 => (some (t179 == 3))) else (some false)) else (some false))
theorem naskhlaw10_awake.mono : ∀ k, LeO (naskhlaw10_awake.f k ) (naskhlaw10_awake.f (k + 1) ) := by
  intro  k
  unfold naskhlaw10_awake.f
  repeat' first
      | (with_reducible exact option_Bits.mono _ _ _ _ _ _ _ _ _ _ _ _ _ _ _)
      | (with_reducible exact option_Check.mono _ _ _ _ _ _ _ _ _ _ _ _ _ _ _)
      | (with_reducible exact LeO.refl _)
      | (with_reducible exact LeO.none _)
      | (with_reducible refine LeO.ite ?_ ?_)
      | (with_reducible refine LeO.bind ?_ (fun _ => ?_))
      | exact option_Bits.mono _ _ _ _ _ _ _ _ _ _ _ _ _ _ _
      | exact option_Check.mono _ _ _ _ _ _ _ _ _ _ _ _ _ _ _
      | exact LeO.none _
      | refine LeO.ite ?_ ?_
      | refine LeO.bind ?_ (fun _ => ?_)
set_option maxHeartbeats 8000000 in
set_option maxRecDepth 100000 in
theorem naskhlaw10_awake.calls (k : Nat)  (r : Bool) (w : World) (h : naskhlaw10_awake.f k  = some r) :
    Calls Try.prog 18 #[] w fun e w' => e = .returned (.bool r) ∧ Below w.heap.size w w' := by
  have hu23 := Try.underlying23
  have HB := Aside0.mk (Below.refl w.heap.size w)
  have H : ((option_Bits.f k 1 0 0 0 false true false false false false false false false false).bind fun bt177 => (if bt177.2 = 0 then (if bt177.1 = 1001 then ((option_Check.f k 0 1 0 0 false false false false false false false false false false).bind fun t179 => (some (t179 == 3))) else (some false)) else (some false))) = some r := h
  clear h
  replace H := Option.bind_eq_some_iff.mp H
  obtain ⟨⟨t177, t178⟩, A10, H⟩ := H
  replace H : (if t178 = 0 then (if t177 = 1001 then ((option_Check.f k 0 1 0 0 false false false false false false false false false false).bind fun t179 => (some (t179 == 3))) else (some false)) else (some false)) = some r := H
  have A1 := Aside0.mk A10
  clear A10
  by_cases c2 : t178 = 0
  · rw [if_pos c2] at H
    have c2b0 : (t178 == 0) = true := beq_iff_eq.mpr c2
    have c2b1 : (t178 != 0) = false := bne_eq_false_iff_eq.mpr c2
    clear c2
    by_cases c3 : t177 = 1001
    · rw [if_pos c3] at H
      have c3b0 : (t177 == 1001) = true := beq_iff_eq.mpr c3
      have c3b1 : (t177 != 1001) = false := bne_eq_false_iff_eq.mpr c3
      clear c3
      replace H := Option.bind_eq_some_iff.mp H
      obtain ⟨t179, A40, H⟩ := H
      replace H : (some (t179 == 3)) = some r := H
      have A4 := Aside0.mk A40
      clear A40
      obtain rfl := Option.some.inj H
      go_enter Try.func18, Try.ntmps18
      go_wp2_with (first | ((with_reducible refine gate_callee (f := 36) rfl ?_); refine goesL_ (some 5) rfl rfl Try.func36 (by kernel_rfl) rfl #[.agg #[.int .i64 1, .int .i64 0, .int .i64 0, .int .i64 0, .bool false, .bool true, .bool false, .bool false, .bool false, .bool false, .bool false, .bool false, .bool false, .bool false]] rfl (by (try simp only [List.map_toArray, List.map_cons, List.map_nil]); first | done | rfl | (simp only [List.length_drop, List.length_take]; rfl)) ?_; (with_reducible refine (option_Bits.calls k 1 0 0 0 false true false false false false false false false false t177 t178 _ A1.out).mono ?_); rintro e w5 ⟨rfl, hb⟩; refine ⟨_, rfl, ?_⟩; have n0_ := Aside0.mk (below_step (by repeat (first | (with_reducible first | exact HB.out | apply below_alloc | apply pw_below_drewN | apply below_drew1) | exact HB.out)) hb); clear HB; have HB := n0_; clear n0_; (try clear hb); (try clear hb2); (try clear hk); (try clear hi)) | (go_at_call 14; (with_reducible refine (option_Check.calls k 0 1 0 0 false false false false false false false false false false t179 _ A4.out).mono ?_); rintro e w6 ⟨rfl, hb⟩; have n0_ := Aside0.mk (below_step (by repeat (first | (with_reducible first | exact HB.out | apply below_alloc | apply pw_below_drewN | apply below_drew1) | exact HB.out)) hb); clear HB; have HB := n0_; clear n0_; (try clear hb); (try clear hb2); (try clear hk); (try clear hi)))
      go_ret
      exact ⟨by first | rfl | (simp [errW_none, errW_some] <;> rfl) | (simp [*, errW_none, errW_some] <;> rfl), by repeat (first | (with_reducible first | exact HB.out | apply below_alloc | apply pw_below_drewN | apply below_drew1) | exact HB.out)⟩
    · rw [if_neg c3] at H
      have c3b0 : (t177 == 1001) = false := beq_eq_false_iff_ne.mpr c3
      have c3b1 : (t177 != 1001) = true := bne_iff_ne.mpr c3
      obtain rfl := Option.some.inj H
      go_enter Try.func18, Try.ntmps18
      go_wp2_with (first | ((with_reducible refine gate_callee (f := 36) rfl ?_); refine goesL_ (some 5) rfl rfl Try.func36 (by kernel_rfl) rfl #[.agg #[.int .i64 1, .int .i64 0, .int .i64 0, .int .i64 0, .bool false, .bool true, .bool false, .bool false, .bool false, .bool false, .bool false, .bool false, .bool false, .bool false]] rfl (by (try simp only [List.map_toArray, List.map_cons, List.map_nil]); first | done | rfl | (simp only [List.length_drop, List.length_take]; rfl)) ?_; (with_reducible refine (option_Bits.calls k 1 0 0 0 false true false false false false false false false false t177 t178 _ A1.out).mono ?_); rintro e w7 ⟨rfl, hb⟩; refine ⟨_, rfl, ?_⟩; have n0_ := Aside0.mk (below_step (by repeat (first | (with_reducible first | exact HB.out | apply below_alloc | apply pw_below_drewN | apply below_drew1) | exact HB.out)) hb); clear HB; have HB := n0_; clear n0_; (try clear hb); (try clear hb2); (try clear hk); (try clear hi)))
      go_ret
      exact ⟨by first | rfl | (simp [errW_none, errW_some] <;> rfl) | (simp [*, errW_none, errW_some] <;> rfl), by repeat (first | (with_reducible first | exact HB.out | apply below_alloc | apply pw_below_drewN | apply below_drew1) | exact HB.out)⟩
  · rw [if_neg c2] at H
    have c2b0 : (t178 == 0) = false := beq_eq_false_iff_ne.mpr c2
    have c2b1 : (t178 != 0) = true := bne_iff_ne.mpr c2
    obtain rfl := Option.some.inj H
    go_enter Try.func18, Try.ntmps18
    go_wp2_with (first | ((with_reducible refine gate_callee (f := 36) rfl ?_); refine goesL_ (some 5) rfl rfl Try.func36 (by kernel_rfl) rfl #[.agg #[.int .i64 1, .int .i64 0, .int .i64 0, .int .i64 0, .bool false, .bool true, .bool false, .bool false, .bool false, .bool false, .bool false, .bool false, .bool false, .bool false]] rfl (by (try simp only [List.map_toArray, List.map_cons, List.map_nil]); first | done | rfl | (simp only [List.length_drop, List.length_take]; rfl)) ?_; (with_reducible refine (option_Bits.calls k 1 0 0 0 false true false false false false false false false false t177 t178 _ A1.out).mono ?_); rintro e w8 ⟨rfl, hb⟩; refine ⟨_, rfl, ?_⟩; have n0_ := Aside0.mk (below_step (by repeat (first | (with_reducible first | exact HB.out | apply below_alloc | apply pw_below_drewN | apply below_drew1) | exact HB.out)) hb); clear HB; have HB := n0_; clear n0_; (try clear hb); (try clear hb2); (try clear hk); (try clear hi)))
    go_ret
    exact ⟨by first | rfl | (simp [errW_none, errW_some] <;> rfl) | (simp [*, errW_none, errW_some] <;> rfl), by repeat (first | (with_reducible first | exact HB.out | apply below_alloc | apply pw_below_drewN | apply below_drew1) | exact HB.out)⟩
def naskhref10_in.f (a0 : Int) (a1 : Int) : Option (Bool) := if a0 ≥ 0 then (some (decide (a0 ≤ a1))) else (some false)
set_option maxHeartbeats 8000000 in
set_option maxRecDepth 100000 in
theorem naskhref10_in.calls (a0 : Int) (a1 : Int) (r : Bool) (w : World) (h : naskhref10_in.f a0 a1 = some r) :
    Calls Try.prog 50 #[.int .i64 a0, .int .i64 a1] w fun e w' => e = .returned (.bool r) ∧ Drawn0 w w' := by
  have H : (if a0 ≥ 0 then (some (decide (a0 ≤ a1))) else (some false)) = some r := h
  clear h
  by_cases c3 : a0 ≥ 0
  · rw [if_pos c3] at H
    have c3b0 : decide (0 ≤ a0) = true := decide_eq_true c3
    clear c3
    obtain rfl := Option.some.inj H
    go_enter Try.func50, Try.ntmps50
    go_wp2
    go_ret
    exact ⟨by first | rfl | (simp; done) | (simp [*]; done), by repeat (first | exact Drawn0.refl _ | apply Drawn0.step)⟩
  · rw [if_neg c3] at H
    have c3b0 : decide (0 ≤ a0) = false := decide_eq_false c3
    clear c3
    obtain rfl := Option.some.inj H
    go_enter Try.func50, Try.ntmps50
    go_wp2
    go_ret
    exact ⟨by first | rfl | (simp; done) | (simp [*]; done), by repeat (first | exact Drawn0.refl _ | apply Drawn0.step)⟩
end Go.Proofs.Ytjnhepgjkphkoaa.POptionBits
