/- The trie: the law TrieNobody. -/
import Derived.Test.YtljcohjafcjgdaaTrE4
namespace Go.Proofs.Ytljcohjafcjgdaa.Stk
open Go.RowKit Go.Proofs.YtljcohjafcjgdaaW.PrintWords Go.Proofs.YtljcohjafcjgdaaW.PrintLast Go.Proofs.YtljcohjafcjgdaaW.PrintMore
attribute [local go_sem] max2_int min2_int max_two min_two max_three min_three max_four min_four   -- for this text's walks alone
set_option linter.unusedVariables false
set_option linter.unusedSimpArgs false
theorem zero_tab : (Try.prog.info? 52).map (·.zero) = some (some (.agg #[.slice none 0 0, .slice none 0 0, .int .i64 0, .bool false])) := by kernel_rfl
theorem tab_zero {w : World} {g : Nat} (h : w.heap[g]? = some (.cells #[.slice none 0 0, .slice none 0 0, .int .i64 0, .bool false] 52 (0, 0))) : TabR w g [] [] 0 false :=
  ⟨none, 0, none, 0, h, ⟨Nat.le_refl _, rfl, by simp, fun h => by simp at h⟩, ⟨Nat.le_refl _, rfl, by simp, fun h => by simp at h⟩⟩
theorem p_blocks_zero {w : World} {g : Nat} (h : TabR w g [] [] 0 false) : Calls Try.prog 15 #[.pointer (some ⟨g, 0, none⟩)] w fun e w' => e = .returned (.int .i64 0) ∧ Below w.heap.size w w' := (p_blocks h).mono fun e w' ⟨a, b⟩ => ⟨a, drawn_below0 b⟩
theorem p_blocks_nil' (w : World) : Calls Try.prog 15 #[.pointer none] w fun e w' => e = .returned (.int .i64 0) ∧ Below w.heap.size w w' := (p_blocks_nil w).mono fun e w' ⟨a, b⟩ => ⟨a, drawn_below0 b⟩
set_option maxHeartbeats 8000000 in
set_option maxRecDepth 100000 in
theorem p_nobody (n : Int) (w : World) : Calls Try.prog 10 #[.int .i64 n] w fun e w' => e = .returned (.bool true) ∧ Below w.heap.size w w' := by
  go_enter Try.func10, Try.ntmps10
  go_wp2_with (first | ((with_reducible refine gate_dst (N := 4) rfl ?_); refine wp_alloc_cells rfl 52 rfl _ zero_tab ?_; intro g4 hg w1 hb hB; have HT1 := Aside0.mk (tab_zero hb); have HB1 := Aside0.mk hB; clear hg hb hB) | (go_at_call 28; (with_reducible refine (p_get_nil n w1).mono ?_); rintro e w2 ⟨rfl, hb⟩; have HT2 := Aside0.mk (tab_below HT1.out hb); have HB2 := Aside0.mk (below_step HB1.out hb); clear hb) | (go_at_call 28; (with_reducible refine (p_get_zero HT2.out n).mono ?_); rintro e w3 ⟨rfl, hb⟩; have HT3 := Aside0.mk (tab_below HT2.out hb); have HB3 := Aside0.mk (below_step HB2.out hb); clear hb) | (go_at_call 15; (with_reducible refine (p_blocks_nil' w3).mono ?_); rintro e w4 ⟨rfl, hb⟩; have HT4 := Aside0.mk (tab_below HT3.out hb); have HB4 := Aside0.mk (below_step HB3.out hb); clear hb) | (go_at_call 15; (with_reducible refine (p_blocks_zero HT4.out).mono ?_); rintro e w5 ⟨rfl, hb⟩; have HT5 := Aside0.mk (tab_below HT4.out hb); have HB5 := Aside0.mk (below_step HB4.out hb); clear hb) | (go_at_call 37; (with_reducible refine (p_ranges_nil (w := w5)).mono ?_); rintro e w6 ⟨rfl, hb⟩; have HT6 := Aside0.mk (tab_below HT5.out hb); have HB6 := Aside0.mk (below_step HB5.out hb); clear hb) | (go_at_call 37; (with_reducible refine (p_ranges_zero HT6.out).mono ?_); rintro e w7 ⟨rfl, hb⟩; have HT7 := Aside0.mk (tab_below HT6.out hb); have HB7 := Aside0.mk (below_step HB6.out hb); clear hb) | (go_at_call 38; (with_reducible refine (p_count_nil (w := w7) n).mono ?_); rintro e w8 ⟨rfl, hb⟩; have HT8 := Aside0.mk (tab_below HT7.out hb); have HB8 := Aside0.mk (below_step HB7.out hb); clear hb) | (go_at_call 38; (with_reducible refine (p_count_zero HT8.out n).mono ?_); rintro e w9 ⟨rfl, hb⟩; have HT9 := Aside0.mk (tab_below HT8.out hb); have HB9 := Aside0.mk (below_step HB8.out hb); clear hb) | (go_at_call 12; (with_reducible refine (p_awake w9).mono ?_); rintro e w10 ⟨rfl, hb⟩; have HT10 := Aside0.mk (tab_below HT9.out hb); have HB10 := Aside0.mk (below_step HB9.out hb); clear hb))
  go_ret
  exact ⟨by first | rfl | (simp; done), HB10.out⟩
end Go.Proofs.Ytljcohjafcjgdaa.Stk
