/- The spelling: SpellParses' walk. -/
import Derived.Test.YtknghhlielhleaaDoorSpP8
import Derived.Test.YtknghhlielhleaaDoorSpP9
namespace Go.Proofs.YtknghhlielhleaaDoor.Stk
open Go.RowKit Go.Proofs.YtknghhlielhleaaDoorW.PrintWords Go.Proofs.YtknghhlielhleaaDoorW.PrintLast Go.Proofs.YtknghhlielhleaaDoorW.PrintMore
attribute [local go_sem] max2_int min2_int max_two min_two max_three min_three max_four min_four   -- for this text's walks alone
set_option linter.unusedVariables false
set_option linter.unusedSimpArgs false
attribute [local go_sem high] eqTO
set_option maxHeartbeats 8000000 in
set_option maxRecDepth 100000 in
theorem spellParses_walk (s : ByteArray) (w : World) : Calls Tryd.prog 3 #[.string s] w fun e w' => e = .returned (.bool true) ∧ Below w.heap.size w w' := by
  have hu := Tryd.underlying24
  by_cases hl : 1100 < s.size
  · have b0 : decide ((s.size : Int) > 1100) = true := decide_eq_true (by omega)
    have b1 : decide (1100 < (s.size : Int)) = true := decide_eq_true (by omega)
    clear hl
    go_enter Tryd.func3, Tryd.ntmps3
    go_wp2_with (first | (go_at_call 7; (with_reducible refine (p_awake _).mono ?_); go_loud (rintro e w1 ⟨rfl, hb⟩; have HBE := Aside0.mk hb; clear hb)))
    go_ret
    exact ⟨rfl, HBE.out⟩
  · have b0 : decide ((s.size : Int) > 1100) = false := decide_eq_false (by omega)
    have b1 : decide (1100 < (s.size : Int)) = false := decide_eq_false (by omega)
    clear hl
    have c1 := p_parse s
    have c2 := p_rparse s
    generalize parseW s = pr at c1 c2
    obtain ⟨e, v⟩ := pr
    have n0 : (e == e) = true := by simp
    go_enter Tryd.func3, Tryd.ntmps3
    go_wp2_with (first | (go_at_call 8; (with_reducible refine (c1 _).mono ?_); go_loud (rintro e w1 ⟨rfl, hb⟩; have HB1 := Aside0.mk hb; clear hb)) | ((with_reducible refine gate_dst (N := 3) rfl ?_); go_loud (refine wp_alloc_cells rfl 24 rfl _ infoTO ?_; intro g3 hg w2 hb2 hB2; have HB2 := Aside0.mk (below_step HB1.out hB2); have H2 := Aside0.mk hb2; have HG3 := Aside0.mk (show w.heap.size ≤ g3 by have := HB1.out.size; omega); clear hg hb2 hB2)) | ((with_reducible refine gate_store (t := 24) (p := 3) rfl ?_); go_loud (refine wp_store_cells rfl 24 _ _ rfl rfl g3 (ovc v) rfl rfl 24 _ H2.out (size_ovc _) rfl (ovc_one _) ?_; intro w3 hb3 hW3; have H3 := Aside0.mk hb3; have HB3 := Aside0.mk (hW3.below HB2.out HG3.out); clear hb3 hW3)) | (go_at_call 9; (with_reducible refine (c2 _).mono ?_); go_loud (rintro e w4 ⟨rfl, hb⟩; have HB4 := Aside0.mk (below_step HB3.out hb); have H34 := Aside0.mk (blk_below H3.out hb); clear hb)) | ((with_reducible refine gate_dst (N := 5) rfl ?_); go_loud (refine wp_alloc_cells rfl 24 rfl _ infoTO ?_; intro g5 hg w5 hb5 hB5; have HB5 := Aside0.mk (below_step HB4.out hB5); have H5 := Aside0.mk hb5; have H35 := Aside0.mk (blk_below H34.out hB5); have HG5 := Aside0.mk (show w.heap.size ≤ g5 ∧ g3 ≠ g5 by have := HB4.out.size; have := blk_lt H34.out; omega); clear hg hb5 hB5)) | ((with_reducible refine gate_store (t := 24) (p := 5) rfl ?_); go_loud (refine wp_store_cells rfl 24 _ _ rfl rfl g5 (ovc v) rfl rfl 24 _ H5.out (size_ovc _) rfl (ovc_one _) ?_; intro w6 hb6 hW6; have H6 := Aside0.mk hb6; have H36 := Aside0.mk (hW6.blk H35.out HG5.out.2); have HB6 := Aside0.mk (hW6.below HB5.out HG5.out.1); clear hb6 hW6)) | ((with_reducible refine gate_dst (N := 21) rfl ?_); go_loud ((try (refine gate_guard (by rfl) ?_; dsimp only)); refine wpList_load_row rfl 24 _ rfl g3 rfl 24 (ovc v) (0, 0) _ H36.out Tryd.underlying24 rfl (size_ovc _) ?_)) | ((with_reducible refine gate_dst (N := 22) rfl ?_); go_loud ((try (refine gate_guard (by rfl) ?_; dsimp only)); refine wpList_load_row rfl 24 _ rfl g5 rfl 24 (ovc v) (0, 0) _ H6.out Tryd.underlying24 rfl (size_ovc _) ?_)) | (go_at_call 7; (with_reducible refine (p_awake _).mono ?_); go_loud (rintro e w7 ⟨rfl, hb⟩; have HBE := Aside0.mk (below_step HB6.out hb); clear hb)))
    go_ret
    exact ⟨rfl, HBE.out⟩
end Go.Proofs.YtknghhlielhleaaDoor.Stk
