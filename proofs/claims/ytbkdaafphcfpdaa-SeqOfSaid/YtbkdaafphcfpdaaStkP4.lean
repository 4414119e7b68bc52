import Derived.Test.YtbkdaafphcfpdaaStkP3
namespace Go.Proofs.Ytbkdaafphcfpdaa.Stk
open Go.RowKit Go.Proofs.YtbkdaafphcfpdaaW.PrintWords Go.Proofs.YtbkdaafphcfpdaaW.PrintLast Go.Proofs.YtbkdaafphcfpdaaW.PrintMore
attribute [local go_sem] max2_int min2_int max_two min_two max_three min_three max_four min_four   -- for this text's walks alone
set_option linter.unusedVariables false
set_option linter.unusedSimpArgs false
def okB (a b : Int) (l : List Ent) (right : Bool) : Bool := !(decide (0 < a) || decide (0 < b)) && decide (nextL right (topE l).lv ≤ 125)
theorem nextL_lt {right : Bool} {x : Int} (h0 : 0 ≤ x) : ¬ nextL right x ≤ x := by unfold nextL; split <;> omega
theorem nextL_bd {right : Bool} {x : Int} (h0 : 0 ≤ x) (h1 : x ≤ 1000) : 0 ≤ nextL right x ∧ nextL right x ≤ 1002 := by unfold nextL; split <;> omega
set_option maxHeartbeats 8000000 in
set_option maxRecDepth 100000 in
theorem p_begin_full {w : World} {base g : Nat} {v : Value} {a b c : Int} {l : List Ent} (h : StkP w base g v a b c l) (hl : 0 < l.length) (hm : l.length ≤ 35184372088) (h0 : 0 ≤ (topE l).lv) (h1 : (topE l).lv ≤ 1000) (right : Bool) (y0 y1 : Int) (y2 : Bool) (hf : (decide (0 < a) || decide (0 < b)) = true) :
    Calls Try.prog 77 #[.pointer (some ⟨g, 0, none⟩), .bool right, .agg #[.int .i64 y0, .int .i64 y1, .bool y2]] w (Upd w base g v (.returned (.bool false)) a b c l) := by
  unfold Upd
  have hk := Try.underlying87
  have hkc := Try.underlying85
  have he := Try.underlying82
  have HS := Aside0.mk h
  have HN := Aside0.mk (fun (W : World) (hb : Below w.heap.size w W) => p_next (stk_below h hb) hl (by omega) h0 h1 right)
  have HF := Aside0.mk (fun (W : World) (hb : Below w.heap.size w W) => p_full (stk_below h hb) true hf)
  clear h hl hm h0 h1 hf
  generalize nextL right (topE l).lv = x0 at HN
  go_enter Try.func77, Try.ntmps77
  go_wp2_with (first | ((with_reducible refine gate_dst (N := 5) rfl ?_); refine box_event ?hg (N := 5) ?hd (cs := #[.int .i64 y0, .int .i64 y1, .bool y2]) (t := 82) ?hr ?_; (case hd => rfl); (case hg => rfl); (case hr => first | (go_simp; done) | (go_simp; rfl)); intro g5 hg w1 hbox hb; have BX := Aside0.mk hbox; have HB := Aside0.mk hb; have HG5 := Aside0.mk (show w.heap.size ≤ g5 by omega); clear hg hbox hb) | (go_at_call 80; (with_reducible refine (HN.out _ HB.out).mono ?_); rintro e w2 ⟨rfl, hb⟩; have BX2 := Aside0.mk (blk_below (g := g5) BX.out hb); have HB2 := Aside0.mk (below_step HB.out hb); clear hb; have hc0 := (blk_cell BX2.out 0).trans rfl; have hf0 := blk_frozen BX2.out 0; have hc1 := (blk_cell BX2.out 1).trans rfl; have hc2 := (blk_cell BX2.out 2).trans rfl) | (go_at_call 81; (with_reducible refine (HF.out _ (below_set HB2.out HG5.out)).mono ?_); rintro e w3 ⟨rfl, rfl⟩))
  go_ret
  exact ⟨v, by first | rfl | simp [*], stk_below HS.out (below_set HB2.out HG5.out), Mv.of_below (below_set HB2.out HG5.out) _ _⟩
set_option maxHeartbeats 8000000 in
set_option maxRecDepth 100000 in
theorem p_begin_high {w : World} {base g : Nat} {v : Value} {a b c : Int} {l : List Ent} (h : StkP w base g v a b c l) (hl : 0 < l.length) (hm : l.length ≤ 35184372088) (h0 : 0 ≤ (topE l).lv) (h1 : (topE l).lv ≤ 1000) (right : Bool) (y0 y1 : Int) (y2 : Bool) (hf : (decide (0 < a) || decide (0 < b)) = false) (hh : 125 < nextL right (topE l).lv) :
    Calls Try.prog 77 #[.pointer (some ⟨g, 0, none⟩), .bool right, .agg #[.int .i64 y0, .int .i64 y1, .bool y2]] w (Upd w base g v (.returned (.bool false)) a b c l) := by
  unfold Upd
  have hk := Try.underlying87
  have hkc := Try.underlying85
  have he := Try.underlying82
  have HS := Aside0.mk h
  have HN := Aside0.mk (fun (W : World) (hb : Below w.heap.size w W) => p_next (stk_below h hb) hl (by omega) h0 h1 right)
  have HF := Aside0.mk (fun (W : World) (hb : Below w.heap.size w W) => p_full (stk_below h hb) false hf)
  have HP := Aside0.mk (fun (W : World) (hb : Below w.heap.size w W) => p_push_high (stk_below h hb) hl hm (nextL right (topE l).lv) y1 y2 (nextL_lt h0) hh)
  clear h hl hm h0 h1 hf hh
  generalize nextL right (topE l).lv = x0 at HN HP
  go_enter Try.func77, Try.ntmps77
  go_wp2_with (first | ((with_reducible refine gate_dst (N := 5) rfl ?_); refine box_event ?hg (N := 5) ?hd (cs := #[.int .i64 y0, .int .i64 y1, .bool y2]) (t := 82) ?hr ?_; (case hd => rfl); (case hg => rfl); (case hr => first | (go_simp; done) | (go_simp; rfl)); intro g5 hg w1 hbox hb; have BX := Aside0.mk hbox; have HB := Aside0.mk hb; have HG5 := Aside0.mk (show w.heap.size ≤ g5 by omega); clear hg hbox hb) | (go_at_call 80; (with_reducible refine (HN.out _ HB.out).mono ?_); rintro e w2 ⟨rfl, hb⟩; have BX2 := Aside0.mk (blk_below (g := g5) BX.out hb); have HB2 := Aside0.mk (below_step HB.out hb); clear hb; have hc0 := (blk_cell BX2.out 0).trans rfl; have hf0 := blk_frozen BX2.out 0; have hc1 := (blk_cell BX2.out 1).trans rfl; have hc2 := (blk_cell BX2.out 2).trans rfl) | (go_at_call 81; (with_reducible refine (HF.out _ (below_set HB2.out HG5.out)).mono ?_); rintro e w3 ⟨rfl, rfl⟩) | (go_at_call 82; (with_reducible refine (HP.out _ (below_set HB2.out HG5.out)).mono ?_); rintro e w4 ⟨v4, rfl, hS4, hM4⟩; have HS4 := Aside0.mk hS4; have HM4 := Aside0.mk hM4; clear hS4 hM4))
  go_ret
  exact ⟨v4, by first | rfl | simp [*], HS4.out, (Mv.of_below (below_set HB2.out HG5.out) _ _).trans HM4.out⟩
set_option maxHeartbeats 8000000 in
set_option maxRecDepth 100000 in
theorem p_begin_put {w : World} {base g : Nat} {v : Value} {a b c : Int} {l : List Ent} (h : StkP w base g v a b c l) (hl : 0 < l.length) (hm : l.length ≤ 35184372088) (h0 : 0 ≤ (topE l).lv) (h1 : (topE l).lv ≤ 1000) (right : Bool) (y0 y1 : Int) (y2 : Bool) (hf : (decide (0 < a) || decide (0 < b)) = false) (hh : ¬ 125 < nextL right (topE l).lv) :
    Calls Try.prog 77 #[.pointer (some ⟨g, 0, none⟩), .bool right, .agg #[.int .i64 y0, .int .i64 y1, .bool y2]] w (Upd w base g v (.returned (.bool true)) a b c (l ++ [⟨nextL right (topE l).lv, y1, y2⟩])) := by
  unfold Upd
  have hk := Try.underlying87
  have hkc := Try.underlying85
  have he := Try.underlying82
  have HS := Aside0.mk h
  have HN := Aside0.mk (fun (W : World) (hb : Below w.heap.size w W) => p_next (stk_below h hb) hl (by omega) h0 h1 right)
  have HF := Aside0.mk (fun (W : World) (hb : Below w.heap.size w W) => p_full (stk_below h hb) false hf)
  have HP := Aside0.mk (fun (W : World) (hb : Below w.heap.size w W) => p_push_put (stk_below h hb) hl hm (nextL right (topE l).lv) y1 y2 (nextL_lt h0) hh)
  clear h hl hm h0 h1 hf hh
  generalize nextL right (topE l).lv = x0 at HN HP ⊢
  go_enter Try.func77, Try.ntmps77
  go_wp2_with (first | ((with_reducible refine gate_dst (N := 5) rfl ?_); refine box_event ?hg (N := 5) ?hd (cs := #[.int .i64 y0, .int .i64 y1, .bool y2]) (t := 82) ?hr ?_; (case hd => rfl); (case hg => rfl); (case hr => first | (go_simp; done) | (go_simp; rfl)); intro g5 hg w1 hbox hb; have BX := Aside0.mk hbox; have HB := Aside0.mk hb; have HG5 := Aside0.mk (show w.heap.size ≤ g5 by omega); clear hg hbox hb) | (go_at_call 80; (with_reducible refine (HN.out _ HB.out).mono ?_); rintro e w2 ⟨rfl, hb⟩; have BX2 := Aside0.mk (blk_below (g := g5) BX.out hb); have HB2 := Aside0.mk (below_step HB.out hb); clear hb; have hc0 := (blk_cell BX2.out 0).trans rfl; have hf0 := blk_frozen BX2.out 0; have hc1 := (blk_cell BX2.out 1).trans rfl; have hc2 := (blk_cell BX2.out 2).trans rfl) | (go_at_call 81; (with_reducible refine (HF.out _ (below_set HB2.out HG5.out)).mono ?_); rintro e w3 ⟨rfl, rfl⟩) | (go_at_call 82; (with_reducible refine (HP.out _ (below_set HB2.out HG5.out)).mono ?_); rintro e w4 ⟨v4, rfl, hS4, hM4⟩; have HS4 := Aside0.mk hS4; have HM4 := Aside0.mk hM4; clear hS4 hM4))
  go_ret
  exact ⟨v4, by first | rfl | simp [*], HS4.out, (Mv.of_below (below_set HB2.out HG5.out) _ _).trans HM4.out⟩
theorem p_begin {w : World} {base g : Nat} {v : Value} {a b c : Int} {l : List Ent} (h : StkP w base g v a b c l) (hl : 0 < l.length) (hm : l.length ≤ 35184372088) (h0 : 0 ≤ (topE l).lv) (h1 : (topE l).lv ≤ 1000) (right : Bool) (y0 y1 : Int) (y2 : Bool) :
    Calls Try.prog 77 #[.pointer (some ⟨g, 0, none⟩), .bool right, .agg #[.int .i64 y0, .int .i64 y1, .bool y2]] w (Upd w base g v (.returned (.bool (okB a b l right))) a b c (if okB a b l right = true then l ++ [⟨nextL right (topE l).lv, y1, y2⟩] else l)) := by
  cases hf : (decide (0 < a) || decide (0 < b)) with
  | true =>
    have e : okB a b l right = false := by unfold okB; rw [hf]; rfl
    rw [e, if_neg (by simp)]
    exact p_begin_full h hl hm h0 h1 right y0 y1 y2 hf
  | false =>
    by_cases hh : 125 < nextL right (topE l).lv
    · have e : okB a b l right = false := by unfold okB; rw [hf, decide_eq_false (by omega)]; rfl
      rw [e, if_neg (by simp)]
      exact p_begin_high h hl hm h0 h1 right y0 y1 y2 hf hh
    · have e : okB a b l right = true := by unfold okB; rw [hf, decide_eq_true (by omega)]; rfl
      rw [e, if_pos rfl]
      exact p_begin_put h hl hm h0 h1 right y0 y1 y2 hf hh
end Go.Proofs.Ytbkdaafphcfpdaa.Stk
