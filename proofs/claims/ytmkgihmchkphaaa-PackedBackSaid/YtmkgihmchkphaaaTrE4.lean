/- The trie: Ranges, Count. -/
import Derived.Test.YtmkgihmchkphaaaTrE3
namespace Go.Proofs.Ytmkgihmchkphaaa.Stk
open Go.RowKit Go.Proofs.YtmkgihmchkphaaaW.PrintWords Go.Proofs.YtmkgihmchkphaaaW.PrintLast Go.Proofs.YtmkgihmchkphaaaW.PrintMore
attribute [local go_sem] max2_int min2_int max_two min_two max_three min_three max_four min_four   -- for this text's walks alone
set_option linter.unusedVariables false
set_option linter.unusedSimpArgs false
set_option maxHeartbeats 8000000 in
set_option maxRecDepth 100000 in
theorem p_clip (A : Option Addr) (n c : Nat) (hc : n ≤ c) (w : World) : Calls Try.prog 94 #[.slice A n c] w fun e w' => e = .returned (.slice A n n) ∧ Below w.heap.size w w' := by
  have q0 := eq_true (show (0 : Int) ≤ (n : Int) by omega)
  have q1 := eq_true (show (n : Int) ≤ (c : Int) by omega)
  have q2 := eq_true hc
  have hu := Try.underlying59
  go_enter Try.func94, Try.ntmps94
  go_wp2
  go_ret
  exact ⟨by first | rfl | (simp; done), by first | exact Below.refl _ _ | exact (Below.refl _ _).drew⟩
set_option maxHeartbeats 8000000 in
set_option maxRecDepth 100000 in
theorem p_ranges {w : World} {g : Nat} {fs : List Int} {bs : List (List Int)} {z : Int} (h : TabR w g fs bs z true) (hk : TabOk fs bs) :
    Calls Try.prog 75 #[.pointer (some ⟨g, 0, none⟩)] w fun e w' => ∃ rs A, e = .returned (.slice A (keepR z rs).length (keepR z rs).length) ∧ Kd.C kR w' A (keepR z rs).length (keepR z rs) ∧ Seg (tabv fs bs) rs 0 1114112 ∧ Below w.heap.size w w' := by
  have HT := Aside0.mk h
  have HK := Aside0.mk hk
  clear h hk
  go_enter Try.func75, Try.ntmps75
  go_wp2_with (first | ((with_reducible refine gate_dst (N := 1) rfl ?_); refine box_event ?hg (N := 1) ?hd (cs := #[.pointer (some ⟨g, 0, none⟩)]) (t := 68) ?hr ?_; (case hd => rfl); (case hg => rfl); (case hr => first | (go_simp; done) | (go_simp; rfl)); intro g1 hg w1 hbox hb; have H1 := Aside0.mk hbox; have HB1 := Aside0.mk hb; have HG1 := Aside0.mk (show w.heap.size ≤ g1 by omega); clear hg hbox hb) | ((with_reducible refine gate_dst (N := 3) rfl ?_); refine wp_alloc_one rfl 59 rfl (.slice none 0 0) zero_trs rfl ?_; intro g3 hg w2 hb hB; have H3 := Aside0.mk hb; have H12 := Aside0.mk (blk_below H1.out hB); have HB2 := Aside0.mk (below_step HB1.out hB); have HG3 := Aside0.mk (show w.heap.size ≤ g3 ∧ g1 ≠ g3 by have := HB1.out.size; have := blk_lt H1.out; omega); have k1 := (blk_cell H12.out 0).trans rfl; clear hg hb hB) | (go_at_call 92; (with_reducible refine (p_each_ranges HT.out HK.out HB2.out H12.out H3.out HG3.out.1 HG3.out.2).mono ?_); rintro e w4 ⟨rfl, rs, v, hb, hn, hR, hs⟩; obtain ⟨A4, c4, e4, hc4, hC4⟩ := Kd.R_reads hR; subst e4; have HB4 := Aside0.mk hb; have HS4 := Aside0.mk hs; have HC4 := Aside0.mk hC4; have HCC4 := Aside0.mk hc4; have k4 := (blk_cell hn 0).trans rfl; clear hb hn hR hs hc4 hC4) | (go_at_call 94; (with_reducible refine (p_clip A4 (keepR z rs).length c4 HCC4.out w4).mono ?_); rintro e w5 ⟨rfl, hb⟩; have HB5 := Aside0.mk (below_step HB4.out hb); have HC5 := Aside0.mk (Kd.C_below HC4.out hb); clear hb))
  go_ret
  exact ⟨rs, A4, by first | rfl | (simp; done), HC5.out, HS4.out, HB5.out⟩
set_option maxHeartbeats 8000000 in
set_option maxRecDepth 100000 in
theorem p_each_nil (f : Value) (w : World) : Calls Try.prog 92 #[.pointer none, f] w fun e w' => e = .returned (.tuple #[]) ∧ Below w.heap.size w w' := by
  go_enter Try.func92, Try.ntmps92
  go_wp2
  first | go_end0 | ((try simp only [Exit.inBlock, Exit.then]); refine bodyPost_ret (results_none rfl _ _ _) rfl ?_)
  exact ⟨by first | rfl | (simp; done), by first | exact Below.refl _ _ | exact (Below.refl _ _).drew⟩
theorem p_each_zero {w : World} {g : Nat} {fs : List Int} {bs : List (List Int)} {z : Int} (h : TabR w g fs bs z false) (f : Value) : Calls Try.prog 92 #[.pointer (some ⟨g, 0, none⟩), f] w fun e w' => e = .returned (.tuple #[]) ∧ Below w.heap.size w w' := by
  obtain ⟨A1, c1, A2, c2, hG, _, _⟩ := h
  have k3 := (blk_cell hG 3).trans rfl
  clear hG
  go_enter Try.func92, Try.ntmps92
  go_wp2
  first | go_end0 | ((try simp only [Exit.inBlock, Exit.then]); refine bodyPost_ret (results_none rfl _ _ _) rfl ?_)
  exact ⟨by first | rfl | (simp; done), by first | exact Below.refl _ _ | exact (Below.refl _ _).drew⟩
set_option maxHeartbeats 8000000 in
set_option maxRecDepth 100000 in
theorem p_ranges_nil {w : World} : Calls Try.prog 75 #[.pointer none] w fun e w' => e = .returned (.slice none 0 0) ∧ Below w.heap.size w w' := by
  go_enter Try.func75, Try.ntmps75
  go_wp2_with (first | ((with_reducible refine gate_dst (N := 1) rfl ?_); refine box_event ?hg (N := 1) ?hd (cs := #[.pointer none]) (t := 68) ?hr ?_; (case hd => rfl); (case hg => rfl); (case hr => first | (go_simp; done) | (go_simp; rfl)); intro g1 hg w1 hbox hb; have H1 := Aside0.mk hbox; have HB1 := Aside0.mk hb; have HG1 := Aside0.mk (show w.heap.size ≤ g1 by omega); clear hg hbox hb) | ((with_reducible refine gate_dst (N := 3) rfl ?_); refine wp_alloc_one rfl 59 rfl (.slice none 0 0) zero_trs rfl ?_; intro g3 hg w2 hb hB; have H3 := Aside0.mk hb; have H12 := Aside0.mk (blk_below H1.out hB); have HB2 := Aside0.mk (below_step HB1.out hB); have HG3 := Aside0.mk (show w.heap.size ≤ g3 ∧ g1 ≠ g3 by have := HB1.out.size; have := blk_lt H1.out; omega); have k1 := (blk_cell H12.out 0).trans rfl; clear hg hb hB) | (go_at_call 92; have HBX := Aside0.mk HB2.out; (with_reducible refine (p_each_nil _ _).mono ?_); rintro e w4 ⟨rfl, hb⟩; have HB4 := Aside0.mk (below_step HB2.out hb); have k4 := (blk_cell (blk_below H3.out hb) 0).trans rfl; clear hb) | (go_at_call 94; (with_reducible refine (p_clip none 0 0 (Nat.le_refl _) w4).mono ?_); rintro e w5 ⟨rfl, hb⟩; have HB5 := Aside0.mk (below_step HB4.out hb); clear hb))
  go_ret
  exact ⟨by first | rfl | (simp; done), HB5.out⟩
set_option maxHeartbeats 8000000 in
set_option maxRecDepth 100000 in
theorem p_ranges_zero {w : World} {g : Nat} {fs : List Int} {bs : List (List Int)} {z : Int} (h : TabR w g fs bs z false) : Calls Try.prog 75 #[.pointer (some ⟨g, 0, none⟩)] w fun e w' => e = .returned (.slice none 0 0) ∧ Below w.heap.size w w' := by
  have HT := Aside0.mk h
  clear h
  go_enter Try.func75, Try.ntmps75
  go_wp2_with (first | ((with_reducible refine gate_dst (N := 1) rfl ?_); refine box_event ?hg (N := 1) ?hd (cs := #[.pointer (some ⟨g, 0, none⟩)]) (t := 68) ?hr ?_; (case hd => rfl); (case hg => rfl); (case hr => first | (go_simp; done) | (go_simp; rfl)); intro g1 hg w1 hbox hb; have H1 := Aside0.mk hbox; have HB1 := Aside0.mk hb; have HG1 := Aside0.mk (show w.heap.size ≤ g1 by omega); clear hg hbox hb) | ((with_reducible refine gate_dst (N := 3) rfl ?_); refine wp_alloc_one rfl 59 rfl (.slice none 0 0) zero_trs rfl ?_; intro g3 hg w2 hb hB; have H3 := Aside0.mk hb; have H12 := Aside0.mk (blk_below H1.out hB); have HB2 := Aside0.mk (below_step HB1.out hB); have HG3 := Aside0.mk (show w.heap.size ≤ g3 ∧ g1 ≠ g3 by have := HB1.out.size; have := blk_lt H1.out; omega); have k1 := (blk_cell H12.out 0).trans rfl; clear hg hb hB) | (go_at_call 92; have HBX := Aside0.mk HB2.out; (with_reducible refine (p_each_zero (tab_below HT.out HBX.out) _).mono ?_); rintro e w4 ⟨rfl, hb⟩; have HB4 := Aside0.mk (below_step HB2.out hb); have k4 := (blk_cell (blk_below H3.out hb) 0).trans rfl; clear hb) | (go_at_call 94; (with_reducible refine (p_clip none 0 0 (Nat.le_refl _) w4).mono ?_); rintro e w5 ⟨rfl, hb⟩; have HB5 := Aside0.mk (below_step HB4.out hb); clear hb))
  go_ret
  exact ⟨by first | rfl | (simp; done), HB5.out⟩
end Go.Proofs.Ytmkgihmchkphaaa.Stk
