/- The trie: a part of one value. -/
import Derived.Test.YtmkgihmchkphaaaTrW
namespace Go.Proofs.Ytmkgihmchkphaaa.Stk
open Go.RowKit Go.Proofs.YtmkgihmchkphaaaW.PrintWords Go.Proofs.YtmkgihmchkphaaaW.PrintLast Go.Proofs.YtmkgihmchkphaaaW.PrintMore
attribute [local go_sem] max2_int min2_int max_two min_two max_three min_three max_four min_four   -- for this text's walks alone
set_option linter.unusedVariables false
set_option linter.unusedSimpArgs false
/-- A part of one value. -/
def rep (v : Int) : List Int := List.replicate 128 v
theorem rep_len {v : Int} : (rep v).length = 128 := List.length_replicate
theorem zero_blk : (Try.prog.info? 107).map (·.zero) = some (some (.agg (arr (rep 0)))) := by kernel_rfl
theorem size_blk : (Try.prog.info? 107).map (·.size) = some 128 := by kernel_rfl
theorem all_eq {l : List Int} {v : Int} (hl : l.length = 128) (h : ∀ j, j < 128 → l.getD j 0 = v) : l = rep v := by
  unfold rep
  rw [List.eq_replicate_iff]
  refine ⟨hl, fun b hb => ?_⟩
  obtain ⟨j, hj, rfl⟩ := List.mem_iff_getElem.1 hb
  have := h j (by omega)
  simpa [List.getD, List.getElem?_eq_getElem hj] using this
theorem size_int : (Try.prog.info? 3).map (·.size) = some 1 := by kernel_rfl
set_option maxHeartbeats 8000000 in
set_option maxRecDepth 100000 in
theorem p_even (v : Int) (w : World) : Calls Try.prog 98 #[.int .i64 v] w fun e w' => e = .returned (.agg (arr (rep v))) ∧ Below w.heap.size w w' := by
  go_enter Try.func98, Try.ntmps98
  go_wp2_with (first | ((with_reducible refine gate_dst (N := 2) rfl ?_); refine wp_alloc_arr rfl 107 rfl (rep 0) zero_blk ?_; intro g2 hg w2 hb hB; have HB2 := Aside0.mk hb; have HBB2 := Aside0.mk hB; have HG2 := Aside0.mk hg; clear hg hb hB) | ((with_reducible refine gate_dst (N := 3) rfl ?_); refine wp_alloc_arr rfl 107 rfl (rep 0) zero_blk ?_; intro g3 hg w3 hb hB; have hl2 := blk_lt HB2.out; have HB3 := Aside0.mk hb; replace HB2 := Aside0.mk (blk_below HB2.out hB); have HBB := Aside0.mk (below_step HBB2.out hB); have HG3 := Aside0.mk (show g2 ≠ g3 ∧ w.heap.size ≤ g2 ∧ w.heap.size ≤ g3 by have := HG2.out; have := HBB2.out.size; omega); clear hl2 hg hb hB))
  go_loopg [5] 128 (fun kq v5 w' => ∃ (i : Nat) (l : List Int), v5 = .int .i64 (i : Int) ∧ Aside0 (i ≤ 128 ∧ 128 - i = kq ∧ l.length = 128 ∧ ∀ j, j < i → l.getD j 0 = v) ∧ Aside0 (w'.heap[g3]? = some (.cells (arr l) 107 (0, 0))) ∧ Aside0 (w'.heap[g2]? = some (.cells (arr (rep 0)) 107 (0, 0))) ∧ Aside0 (Below w.heap.size w w'))
  case atStart => exact ⟨0, _, rfl, ⟨Nat.zero_le _, rfl, rep_len, fun j hj => by omega⟩, HB3, HB2, HBB⟩
  case round =>
    clear HB3 HB2 HBB
    obtain ⟨i, l, rfl, HI, H3, H2, HB⟩ := hrel
    by_cases hlt : i < 128
    · have b0 : decide ((i : Int) < 128) = true := decide_eq_true (by omega)
      have b1 : decide (i < 128) = true := decide_eq_true hlt
      have hw := (show wrap64 ((i : Int) + 1) = ((i + 1 : Nat) : Int) by unfold wrap64; omega)
      have hi0 : (0 : Int) ≤ (i : Int) := by omega
      have hi1 : (i : Int) < 128 := by omega
      replace hi0 := eq_true hi0
      replace hi1 := eq_true hi1
      have HLT := Aside0.mk hlt
      clear hlt
      go_wp2_with (first | ((with_reducible refine gate_store (t := 3) (p := 10) rfl ?_); refine wp_put_arr rfl 3 _ _ rfl rfl g3 i v (by first | rfl | go_simp) rfl 107 l H3.out size_int (by have := HI.out; have := HLT.out; omega) ?_; intro w4 h4 hw4; have H4 := Aside0.mk h4; have HO4 := Aside0.mk (hw4.blk H2.out HG3.out.1); have HB4 := Aside0.mk (hw4.below HB.out HG3.out.2.2); clear h4 hw4))
      go_roundg (128 - (i + 1))
      case measure => have := HI.out; have := HLT.out; omega
      case rel => exact ⟨i + 1, _, by first | rfl | go_num | rw [hw], ⟨by have := HLT.out; omega, rfl, by rw [List.length_set]; exact HI.out.2.2.1, fun j hj => by
        by_cases e : j = i
        · subst e; simp [List.getD, HI.out.2.2.1, HLT.out]
        · have := HI.out.2.2.2 j (by omega); simpa [List.getD, List.getElem?_set_ne (Ne.symm e)] using this⟩, H4, HO4, HB4⟩
    · have b0 : decide ((i : Int) < 128) = false := decide_eq_false (by omega)
      have b1 : decide (i < 128) = false := decide_eq_false hlt
      have HE := Aside0.mk (show l = rep v from all_eq HI.out.2.2.1 (fun j hj => HI.out.2.2.2 j (by omega)))
      clear hlt
      go_wp2_with (first | ((with_reducible refine gate_dst (N := 12) rfl ?_); refine wp_load_arr rfl 107 _ rfl g3 rfl 107 l H3.out 128 3 Try.underlying107 size_blk HI.out.2.2.1 ?_) | ((with_reducible refine gate_store (t := 107) (p := 2) rfl ?_); refine wp_store_arr rfl 107 _ _ rfl rfl g2 l rfl rfl 107 _ H2.out 128 size_blk HI.out.2.2.1 rep_len ?_; intro w5 h5 hw5; have H5 := Aside0.mk h5; have HB5 := Aside0.mk (hw5.below HB.out HG3.out.2.1); clear h5 hw5))
      (try simp only [Exit.inBlock, Exit.then])
      refine bodyPost_ret (results_single rfl (.cell g2 107 (arr l) (0, 0) _ rfl H5.out Try.underlying107 rfl (by rw [size_blk, arr_size, HI.out.2.2.1]) .nil)) rfl ?_
      exact ⟨by first | rfl | (rw [HE.out]), HB5.out⟩
end Go.Proofs.Ytmkgihmchkphaaa.Stk
