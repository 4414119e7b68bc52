import Derived.Test.YtbkdaafphcfpdaaStkX3
namespace Go.Proofs.Ytbkdaafphcfpdaa.Stk
open Go.RowKit Go.Proofs.YtbkdaafphcfpdaaW.PrintWords Go.Proofs.YtbkdaafphcfpdaaW.PrintLast Go.Proofs.YtbkdaafphcfpdaaW.PrintMore
attribute [local go_sem] max2_int min2_int max_two min_two max_three min_three max_four min_four   -- for this text's walks alone
set_option linter.unusedVariables false
set_option linter.unusedSimpArgs false
def MadeX (w : World) (n : Int) (e : Ending) (w' : World) : Prop := ∃ g v, e = .returned (.pointer (some ⟨g, 0, none⟩)) ∧ StkX w' w.heap.size g v 0 0 0 [newE n] ∧ w.heap.size ≤ g ∧ Below w.heap.size w w'
set_option maxHeartbeats 8000000 in
set_option maxRecDepth 100000 in
theorem x_new_low (n : Int) (w : World) (h : n < 0) : Calls Try.prog 27 #[.int .i64 n] w (MadeX w n) := by
  have HE := Aside0.mk (show newE n = ⟨0, 13, false⟩ by unfold newE; rw [if_pos h])
  have hk := Try.underlying72
  have he := Try.underlying46
  go_enter Try.func27, Try.ntmps27
  go_wp2
  go_ret
  unfold MadeX
  rw [HE.out]
  exact ⟨w.heap.size + 1, .slice (some ⟨w.heap.size, 0, none⟩) 1 1, by first | rfl | simp [*], stk_new w 72 46 ⟨0, 13, false⟩ _, Nat.le_succ _, below_alloc (below_alloc (Below.refl _ _) _) _⟩
set_option maxHeartbeats 8000000 in
set_option maxRecDepth 100000 in
theorem x_new_high (n : Int) (w : World) (h : ¬ n < 0) (h2 : 125 < n) : Calls Try.prog 27 #[.int .i64 n] w (MadeX w n) := by
  have HE := Aside0.mk (show newE n = ⟨125, 13, false⟩ by unfold newE; rw [if_neg h, if_pos h2])
  have hk := Try.underlying72
  have he := Try.underlying46
  go_enter Try.func27, Try.ntmps27
  go_wp2
  go_ret
  unfold MadeX
  rw [HE.out]
  exact ⟨w.heap.size + 1, .slice (some ⟨w.heap.size, 0, none⟩) 1 1, by first | rfl | simp [*], stk_new w 72 46 ⟨125, 13, false⟩ _, Nat.le_succ _, below_alloc (below_alloc (Below.refl _ _) _) _⟩
set_option maxHeartbeats 8000000 in
set_option maxRecDepth 100000 in
theorem x_new_mid (n : Int) (w : World) (h : ¬ n < 0) (h2 : ¬ 125 < n) : Calls Try.prog 27 #[.int .i64 n] w (MadeX w n) := by
  have HE := Aside0.mk (show newE n = ⟨n, 13, false⟩ by unfold newE; rw [if_neg h, if_neg h2])
  have hk := Try.underlying72
  have he := Try.underlying46
  go_enter Try.func27, Try.ntmps27
  go_wp2
  go_ret
  unfold MadeX
  rw [HE.out]
  exact ⟨w.heap.size + 1, .slice (some ⟨w.heap.size, 0, none⟩) 1 1, by first | rfl | simp [*], stk_new w 72 46 ⟨n, 13, false⟩ _, Nat.le_succ _, below_alloc (below_alloc (Below.refl _ _) _) _⟩
theorem x_new (n : Int) (w : World) : Calls Try.prog 27 #[.int .i64 n] w (MadeX w n) := by
  by_cases h : n < 0
  · exact x_new_low n w h
  · by_cases h2 : 125 < n
    · exact x_new_high n w h h2
    · exact x_new_mid n w h h2
end Go.Proofs.Ytbkdaafphcfpdaa.Stk
