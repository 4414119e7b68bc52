import Derived.Test.YtknghhlielhleaaDoorSpW
namespace Go.Proofs.YtknghhlielhleaaDoor.Stk
open Go.RowKit Go.Proofs.YtknghhlielhleaaDoorW.PrintWords Go.Proofs.YtknghhlielhleaaDoorW.PrintLast Go.Proofs.YtknghhlielhleaaDoorW.PrintMore
attribute [local go_sem] max2_int min2_int max_two min_two max_three min_three max_four min_four   -- for this text's walks alone
set_option linter.unusedVariables false
set_option linter.unusedSimpArgs false
theorem info49 : (Tryd.prog.info? 49).map (·.zero) = some (some (.agg #[.slice none 0 0, .pointer none, .pointer none, .int .i64 0])) := by kernel_rfl
theorem size49 : (Tryd.prog.info? 49).map (·.size) = some 4 := by kernel_rfl
theorem put4 {w : World} {g t : Nat} {a b c d a' b' c' d' : Value} (h : w.heap[g]? = some (.cells #[a, b, c, d] t (0, 0))) : ((((w.setCell ⟨g, 0, none⟩ a').setCell ⟨g, 1, none⟩ b').setCell ⟨g, 2, none⟩ c').setCell ⟨g, 3, none⟩ d').heap[g]? = some (.cells #[a', b', c', d'] t (0, 0)) := by
  refine blk_put (cs := #[a', b', c', d]) ?_ 3 _ rfl
  refine blk_put (cs := #[a', b', c, d]) ?_ 2 _ rfl
  refine blk_put (cs := #[a', b, c, d]) ?_ 1 _ rfl
  exact blk_put h 0 _ rfl
theorem put4_below {w0 w : World} {g : Nat} {a' b' c' d' : Value} (h : Below w0.heap.size w0 w) (hg : w0.heap.size ≤ g) : Below w0.heap.size w0 ((((w.setCell ⟨g, 0, none⟩ a').setCell ⟨g, 1, none⟩ b').setCell ⟨g, 2, none⟩ c').setCell ⟨g, 3, none⟩ d') := below_set (below_set (below_set (below_set h hg) hg) hg) hg
theorem put4_far {w : World} {g k t : Nat} {cs : Array Value} {a' b' c' d' : Value} (h : w.heap[k]? = some (.cells cs t (0, 0))) (hg : k ≠ g) : ((((w.setCell ⟨g, 0, none⟩ a').setCell ⟨g, 1, none⟩ b').setCell ⟨g, 2, none⟩ c').setCell ⟨g, 3, none⟩ d').heap[k]? = some (.cells cs t (0, 0)) := blk_far (blk_far (blk_far (blk_far h hg _) hg _) hg _) hg _
set_option maxHeartbeats 8000000 in
set_option maxRecDepth 100000 in
theorem p_numbered (p : Addr) (f : Int) (A : Addr) (n : Nat) (w : World) :
    Calls Tryd.prog 32 #[.pointer (some p), .int .i64 f, .slice (some A) n n] w fun e w' => e = .returned (.agg #[.slice (some A) n n, .pointer (some p), .pointer none, .int .i64 f]) ∧ Below w.heap.size w w' := by
  have hu := Tryd.underlying49
  go_enter Tryd.func32, Tryd.ntmps32
  go_wp2_with (first | ((with_reducible refine gate_dst (N := 6) rfl ?_); refine wp_alloc_cells rfl 49 rfl _ info49 ?_; intro g hg w1 hb hB; have HG := Aside0.mk hb; have HB := Aside0.mk hB; have HGG := Aside0.mk (show w.heap.size ≤ g by omega); have k0 := (blk_cell HG.out 0).trans rfl; have f0 := blk_frozen HG.out 0; have k1 := (blk_cell HG.out 1).trans rfl; have f1 := blk_frozen HG.out 1; have k2 := (blk_cell HG.out 2).trans rfl; have f2 := blk_frozen HG.out 2; have k3 := (blk_cell HG.out 3).trans rfl; have f3 := blk_frozen HG.out 3; clear hg hb hB))
  refine bodyPost_ret (results_cell_row rfl _ _ g 49 #[.slice (some A) n n, .pointer (some p), .pointer none, .int .i64 f] (0, 0) _ rfl (put4 HG.out) Tryd.underlying49 rfl (by kernel_rfl)) rfl ?_
  exact ⟨rfl, put4_below HB.out HGG.out⟩
set_option maxHeartbeats 8000000 in
set_option maxRecDepth 100000 in
theorem p_flagged (p : Addr) (s : ByteArray) (w : World) :
    Calls Tryd.prog 33 #[.pointer (some p), .string s] w fun e w' => ∃ r, e = .returned (.agg #[.slice (some ⟨r, 0, none⟩) 1 1, .pointer none, .pointer (some p), .int .i64 0]) ∧ Below w.heap.size w w' ∧ w.heap.size ≤ r ∧ w'.heap[r]? = some (.cells #[.string s] 9 (0, 0)) := by
  have hu := Tryd.underlying49
  go_enter Tryd.func33, Tryd.ntmps33
  go_wp2_with (first | ((with_reducible refine gate_dst (N := 4) rfl ?_); refine wp_alloc_cells rfl 49 rfl _ info49 ?_; intro g hg w1 hb hB; have HG := Aside0.mk hb; have HB := Aside0.mk hB; have HGG := Aside0.mk (show w.heap.size ≤ g by omega); have k0 := (blk_cell HG.out 0).trans rfl; have f0 := blk_frozen HG.out 0; have k1 := (blk_cell HG.out 1).trans rfl; have f1 := blk_frozen HG.out 1; have k2 := (blk_cell HG.out 2).trans rfl; have f2 := blk_frozen HG.out 2; have k3 := (blk_cell HG.out 3).trans rfl; have f3 := blk_frozen HG.out 3; clear hg hb hB) | ((with_reducible refine gate_dst (N := 6) rfl ?_); refine Kd.event_run rfl (w1 := w1.alloc (.cells #[.string s] 9 (0, 0))) (v := .slice (some ⟨w1.heap.size, 0, none⟩) 1 1) (by go_simp; try rfl) ?_; obtain ⟨w3, hw3⟩ : ∃ w3, w1.alloc (.cells #[.string s] 9 (0, 0)) = w3 := ⟨_, rfl⟩; obtain ⟨r, hr⟩ : ∃ r, w1.heap.size = r := ⟨_, rfl⟩; have HR := Aside0.mk (show w3.heap[r]? = some (.cells #[.string s] 9 (0, 0)) by subst hw3; subst hr; exact blk_new _ _); have HG0 := Aside0.mk (show w3.heap[g]? = some (.cells #[.slice none 0 0, .pointer none, .pointer none, .int .i64 0] 49 (0, 0)) by subst hw3; exact blk_alloc HG.out _); have HB3 := Aside0.mk (show Below w.heap.size w w3 by subst hw3; exact below_alloc HB.out _); have HRR := Aside0.mk (show w.heap.size ≤ r ∧ r ≠ g by have := HB.out.size; have := blk_lt HG.out; omega); rw [hw3, hr]; clear hw3 hr k0 k1 k2 k3 f0 f1 f2 f3; have k0 := (blk_cell HG0.out 0).trans rfl; have f0 := blk_frozen HG0.out 0; have k1 := (blk_cell HG0.out 1).trans rfl; have f1 := blk_frozen HG0.out 1; have k2 := (blk_cell HG0.out 2).trans rfl; have f2 := blk_frozen HG0.out 2; have k3 := (blk_cell HG0.out 3).trans rfl; have f3 := blk_frozen HG0.out 3))
  refine bodyPost_ret (results_cell_row rfl _ _ g 49 #[.slice (some ⟨r, 0, none⟩) 1 1, .pointer none, .pointer (some p), .int .i64 0] (0, 0) _ rfl (put4 HG0.out) Tryd.underlying49 rfl (by kernel_rfl)) rfl ?_
  exact ⟨r, rfl, put4_below HB3.out HGG.out, HRR.out.1, put4_far HR.out HRR.out.2⟩
end Go.Proofs.YtknghhlielhleaaDoor.Stk
