import Derived.Test.YtbkdaafphcfpdaaStkP6
namespace Go.Proofs.Ytbkdaafphcfpdaa.Stk
open Go.RowKit Go.Proofs.YtbkdaafphcfpdaaW.PrintWords Go.Proofs.YtbkdaafphcfpdaaW.PrintLast Go.Proofs.YtbkdaafphcfpdaaW.PrintMore
attribute [local go_sem] max2_int min2_int max_two min_two max_three min_three max_four min_four   -- for this text's walks alone
set_option linter.unusedVariables false
set_option linter.unusedSimpArgs false
def newE (n : Int) : Ent := ⟨if n < 0 then 0 else if 125 < n then 125 else n, 13, false⟩
def Made (w : World) (n : Int) (e : Ending) (w' : World) : Prop := ∃ g v, e = .returned (.pointer (some ⟨g, 0, none⟩)) ∧ StkP w' w.heap.size g v 0 0 0 [newE n] ∧ w.heap.size ≤ g ∧ Below w.heap.size w w'
set_option maxHeartbeats 8000000 in
set_option maxRecDepth 100000 in
theorem p_new_low (n : Int) (w : World) (h : n < 0) : Calls Try.prog 44 #[.int .i64 n] w (Made w n) := by
  have HE := Aside0.mk (show newE n = ⟨0, 13, false⟩ by unfold newE; rw [if_pos h])
  have hk := Try.underlying87
  have he := Try.underlying82
  go_enter Try.func44, Try.ntmps44
  go_wp2_with (first | ((with_reducible refine gate_dst (N := 3) rfl ?_); refine box_event ?hg (N := 3) ?hd (cs := #[.int .i64 0, .int .i64 0, .bool false]) (t := 82) ?hr ?_; (case hd => rfl); (case hg => rfl); (case hr => first | (go_simp; done) | (go_simp; rfl)); intro g3 hg w1 hbox hb; have BX := Aside0.mk hbox; have HB := Aside0.mk hb; have HG3 := Aside0.mk (show w.heap.size ≤ g3 by omega); clear hg hbox hb; have hc0 := (blk_cell BX.out 0).trans rfl; have hf0 := blk_frozen BX.out 0; have hc1 := (blk_cell BX.out 1).trans rfl; have hf1 := blk_frozen BX.out 1; have hc2 := (blk_cell BX.out 2).trans rfl; have hf2 := blk_frozen BX.out 2))
  go_ret
  have hsz : w1.heap.size = (((w1.setCell ⟨g3, 0, none⟩ (.int .i64 0)).setCell ⟨g3, 1, none⟩ (.int .i64 13)).setCell ⟨g3, 2, none⟩ (.bool false)).heap.size := by simp [World.setCell]
  have HB3 := below_set (j := 2) (v := .bool false) (below_set (j := 1) (v := .int .i64 13) (below_set (j := 0) (v := .int .i64 0) HB.out HG3.out) HG3.out) HG3.out
  rw [hsz]
  generalize ((w1.setCell ⟨g3, 0, none⟩ (.int .i64 0)).setCell ⟨g3, 1, none⟩ (.int .i64 13)).setCell ⟨g3, 2, none⟩ (.bool false) = w3 at HB3 ⊢
  unfold Made
  rw [HE.out]
  exact ⟨w3.heap.size + 1, .slice (some ⟨w3.heap.size, 0, none⟩) 1 1, by first | rfl | simp [*], stk_lower (stk_new w3 87 82 ⟨0, 13, false⟩ _) HB3.size, Nat.le_succ_of_le HB3.size, below_alloc (below_alloc HB3 _) _⟩
set_option maxHeartbeats 8000000 in
set_option maxRecDepth 100000 in
theorem p_new_high (n : Int) (w : World) (h : ¬ n < 0) (h2 : 125 < n) : Calls Try.prog 44 #[.int .i64 n] w (Made w n) := by
  have HE := Aside0.mk (show newE n = ⟨125, 13, false⟩ by unfold newE; rw [if_neg h, if_pos h2])
  have hk := Try.underlying87
  have he := Try.underlying82
  go_enter Try.func44, Try.ntmps44
  go_wp2_with (first | ((with_reducible refine gate_dst (N := 3) rfl ?_); refine box_event ?hg (N := 3) ?hd (cs := #[.int .i64 0, .int .i64 0, .bool false]) (t := 82) ?hr ?_; (case hd => rfl); (case hg => rfl); (case hr => first | (go_simp; done) | (go_simp; rfl)); intro g3 hg w1 hbox hb; have BX := Aside0.mk hbox; have HB := Aside0.mk hb; have HG3 := Aside0.mk (show w.heap.size ≤ g3 by omega); clear hg hbox hb; have hc0 := (blk_cell BX.out 0).trans rfl; have hf0 := blk_frozen BX.out 0; have hc1 := (blk_cell BX.out 1).trans rfl; have hf1 := blk_frozen BX.out 1; have hc2 := (blk_cell BX.out 2).trans rfl; have hf2 := blk_frozen BX.out 2))
  go_ret
  have hsz : w1.heap.size = (((w1.setCell ⟨g3, 0, none⟩ (.int .i64 125)).setCell ⟨g3, 1, none⟩ (.int .i64 13)).setCell ⟨g3, 2, none⟩ (.bool false)).heap.size := by simp [World.setCell]
  have HB3 := below_set (j := 2) (v := .bool false) (below_set (j := 1) (v := .int .i64 13) (below_set (j := 0) (v := .int .i64 125) HB.out HG3.out) HG3.out) HG3.out
  rw [hsz]
  generalize ((w1.setCell ⟨g3, 0, none⟩ (.int .i64 125)).setCell ⟨g3, 1, none⟩ (.int .i64 13)).setCell ⟨g3, 2, none⟩ (.bool false) = w3 at HB3 ⊢
  unfold Made
  rw [HE.out]
  exact ⟨w3.heap.size + 1, .slice (some ⟨w3.heap.size, 0, none⟩) 1 1, by first | rfl | simp [*], stk_lower (stk_new w3 87 82 ⟨125, 13, false⟩ _) HB3.size, Nat.le_succ_of_le HB3.size, below_alloc (below_alloc HB3 _) _⟩
set_option maxHeartbeats 8000000 in
set_option maxRecDepth 100000 in
theorem p_new_mid (n : Int) (w : World) (h : ¬ n < 0) (h2 : ¬ 125 < n) : Calls Try.prog 44 #[.int .i64 n] w (Made w n) := by
  have HE := Aside0.mk (show newE n = ⟨n, 13, false⟩ by unfold newE; rw [if_neg h, if_neg h2])
  have hk := Try.underlying87
  have he := Try.underlying82
  go_enter Try.func44, Try.ntmps44
  go_wp2_with (first | ((with_reducible refine gate_dst (N := 3) rfl ?_); refine box_event ?hg (N := 3) ?hd (cs := #[.int .i64 0, .int .i64 0, .bool false]) (t := 82) ?hr ?_; (case hd => rfl); (case hg => rfl); (case hr => first | (go_simp; done) | (go_simp; rfl)); intro g3 hg w1 hbox hb; have BX := Aside0.mk hbox; have HB := Aside0.mk hb; have HG3 := Aside0.mk (show w.heap.size ≤ g3 by omega); clear hg hbox hb; have hc0 := (blk_cell BX.out 0).trans rfl; have hf0 := blk_frozen BX.out 0; have hc1 := (blk_cell BX.out 1).trans rfl; have hf1 := blk_frozen BX.out 1; have hc2 := (blk_cell BX.out 2).trans rfl; have hf2 := blk_frozen BX.out 2))
  go_ret
  have hsz : w1.heap.size = (((w1.setCell ⟨g3, 0, none⟩ (.int .i64 n)).setCell ⟨g3, 1, none⟩ (.int .i64 13)).setCell ⟨g3, 2, none⟩ (.bool false)).heap.size := by simp [World.setCell]
  have HB3 := below_set (j := 2) (v := .bool false) (below_set (j := 1) (v := .int .i64 13) (below_set (j := 0) (v := .int .i64 n) HB.out HG3.out) HG3.out) HG3.out
  rw [hsz]
  generalize ((w1.setCell ⟨g3, 0, none⟩ (.int .i64 n)).setCell ⟨g3, 1, none⟩ (.int .i64 13)).setCell ⟨g3, 2, none⟩ (.bool false) = w3 at HB3 ⊢
  unfold Made
  rw [HE.out]
  exact ⟨w3.heap.size + 1, .slice (some ⟨w3.heap.size, 0, none⟩) 1 1, by first | rfl | simp [*], stk_lower (stk_new w3 87 82 ⟨n, 13, false⟩ _) HB3.size, Nat.le_succ_of_le HB3.size, below_alloc (below_alloc HB3 _) _⟩
theorem p_new (n : Int) (w : World) : Calls Try.prog 44 #[.int .i64 n] w (Made w n) := by
  by_cases h : n < 0
  · exact p_new_low n w h
  · by_cases h2 : 125 < n
    · exact p_new_high n w h h2
    · exact p_new_mid n w h h2
end Go.Proofs.Ytbkdaafphcfpdaa.Stk
