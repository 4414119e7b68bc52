import Derived.Test.YtbkdaafphcfpdaaStkP4
namespace Go.Proofs.Ytbkdaafphcfpdaa.Stk
open Go.RowKit Go.Proofs.YtbkdaafphcfpdaaW.PrintWords Go.Proofs.YtbkdaafphcfpdaaW.PrintLast Go.Proofs.YtbkdaafphcfpdaaW.PrintMore
attribute [local go_sem] max2_int min2_int max_two min_two max_three min_three max_four min_four   -- for this text's walks alone
set_option linter.unusedVariables false
set_option linter.unusedSimpArgs false
set_option maxHeartbeats 8000000 in
set_option maxRecDepth 100000 in
theorem p_embed_yes {w : World} {base g : Nat} {v : Value} {a b c : Int} {l : List Ent} (h : StkP w base g v a b c l) (hl : 0 < l.length) (hm : l.length ≤ 35184372088) (h0 : 0 ≤ (topE l).lv) (h1 : (topE l).lv ≤ 1000) (right : Bool) (ov : Int) (hok : okB a b l right = true) :
    Calls Try.prog 68 #[.pointer (some ⟨g, 0, none⟩), .bool right, .int .i64 ov] w (Upd w base g v (.returned (.bool true)) a b c (l ++ [⟨nextL right (topE l).lv, ov, false⟩])) := by
  unfold Upd
  have hk := Try.underlying87
  have hkc := Try.underlying85
  have HS := Aside0.mk h
  have HM := Aside0.mk (p_made h true (decide_eq_true hl))
  have HB := Aside0.mk (p_begin h hl hm h0 h1 right 0 ov false)
  rw [hok] at HB
  (first | rw [if_pos rfl] at HB | rw [if_neg (by simp)] at HB)
  clear h hl hm h0 h1 hok
  generalize nextL right (topE l).lv = x0 at HB ⊢
  go_enter Try.func68, Try.ntmps68
  go_wp2_with (first | (go_at_call 71; (with_reducible refine (HM.out).mono ?_); rintro e w1 ⟨rfl, rfl⟩) | (go_at_call 77; (with_reducible refine (HB.out).mono ?_); rintro e w4 ⟨v4, rfl, hS4, hM4⟩; have HS4 := Aside0.mk hS4; have HM4 := Aside0.mk hM4; clear hS4 hM4; have hc0 := (blk_cell HS4.out.1 0).trans rfl; have hc1 := (blk_cell HS4.out.1 1).trans rfl; have hc2 := (blk_cell HS4.out.1 2).trans rfl; have hf0 := blk_frozen HS4.out.1 0; have hf1 := blk_frozen HS4.out.1 1; have hf2 := blk_frozen HS4.out.1 2))
  go_ret
  exact ⟨v4, by first | rfl | simp [*], HS4.out, HM4.out⟩
set_option maxHeartbeats 8000000 in
set_option maxRecDepth 100000 in
theorem p_embed_count {w : World} {base g : Nat} {v : Value} {a b c : Int} {l : List Ent} (h : StkP w base g v a b c l) (hl : 0 < l.length) (hm : l.length ≤ 35184372088) (h0 : 0 ≤ (topE l).lv) (h1 : (topE l).lv ≤ 1000) (right : Bool) (ov : Int) (hok : okB a b l right = false) (ha : a = 0) :
    Calls Try.prog 68 #[.pointer (some ⟨g, 0, none⟩), .bool right, .int .i64 ov] w (Upd w base g v (.returned (.bool false)) a (wrap64 (b + 1)) c l) := by
  unfold Upd
  have hk := Try.underlying87
  have hkc := Try.underlying85
  have HS := Aside0.mk h
  have HM := Aside0.mk (p_made h true (decide_eq_true hl))
  have HB := Aside0.mk (p_begin h hl hm h0 h1 right 0 ov false)
  rw [hok] at HB
  (first | rw [if_pos rfl] at HB | rw [if_neg (by simp)] at HB)
  clear h hl hm h0 h1 hok
  have ea : (a == 0) = true := beq_iff_eq.mpr ha
  clear ha
  go_enter Try.func68, Try.ntmps68
  go_wp2_with (first | (go_at_call 71; (with_reducible refine (HM.out).mono ?_); rintro e w1 ⟨rfl, rfl⟩) | (go_at_call 77; (with_reducible refine (HB.out).mono ?_); rintro e w4 ⟨v4, rfl, hS4, hM4⟩; have HS4 := Aside0.mk hS4; have HM4 := Aside0.mk hM4; clear hS4 hM4; have hc0 := (blk_cell HS4.out.1 0).trans rfl; have hc1 := (blk_cell HS4.out.1 1).trans rfl; have hc2 := (blk_cell HS4.out.1 2).trans rfl; have hf0 := blk_frozen HS4.out.1 0; have hf1 := blk_frozen HS4.out.1 1; have hf2 := blk_frozen HS4.out.1 2))
  go_ret
  exact ⟨v4, by first | rfl | simp [*], stk_set HS4.out 1 _ rfl, HM4.out.set 1 _⟩
set_option maxHeartbeats 8000000 in
set_option maxRecDepth 100000 in
theorem p_embed_not {w : World} {base g : Nat} {v : Value} {a b c : Int} {l : List Ent} (h : StkP w base g v a b c l) (hl : 0 < l.length) (hm : l.length ≤ 35184372088) (h0 : 0 ≤ (topE l).lv) (h1 : (topE l).lv ≤ 1000) (right : Bool) (ov : Int) (hok : okB a b l right = false) (ha : ¬ a = 0) :
    Calls Try.prog 68 #[.pointer (some ⟨g, 0, none⟩), .bool right, .int .i64 ov] w (Upd w base g v (.returned (.bool false)) a b c l) := by
  unfold Upd
  have hk := Try.underlying87
  have hkc := Try.underlying85
  have HS := Aside0.mk h
  have HM := Aside0.mk (p_made h true (decide_eq_true hl))
  have HB := Aside0.mk (p_begin h hl hm h0 h1 right 0 ov false)
  rw [hok] at HB
  (first | rw [if_pos rfl] at HB | rw [if_neg (by simp)] at HB)
  clear h hl hm h0 h1 hok
  have ea : (a == 0) = false := beq_eq_false_iff_ne.mpr ha
  clear ha
  go_enter Try.func68, Try.ntmps68
  go_wp2_with (first | (go_at_call 71; (with_reducible refine (HM.out).mono ?_); rintro e w1 ⟨rfl, rfl⟩) | (go_at_call 77; (with_reducible refine (HB.out).mono ?_); rintro e w4 ⟨v4, rfl, hS4, hM4⟩; have HS4 := Aside0.mk hS4; have HM4 := Aside0.mk hM4; clear hS4 hM4; have hc0 := (blk_cell HS4.out.1 0).trans rfl; have hc1 := (blk_cell HS4.out.1 1).trans rfl; have hc2 := (blk_cell HS4.out.1 2).trans rfl; have hf0 := blk_frozen HS4.out.1 0; have hf1 := blk_frozen HS4.out.1 1; have hf2 := blk_frozen HS4.out.1 2))
  go_ret
  exact ⟨v4, by first | rfl | simp [*], HS4.out, HM4.out⟩
set_option maxHeartbeats 8000000 in
set_option maxRecDepth 100000 in
theorem p_isolate_yes {w : World} {base g : Nat} {v : Value} {a b c : Int} {l : List Ent} (h : StkP w base g v a b c l) (hl : 0 < l.length) (hm : l.length ≤ 35184372088) (h0 : 0 ≤ (topE l).lv) (h1 : (topE l).lv ≤ 1000) (right : Bool) (hok : okB a b l right = true) :
    Calls Try.prog 69 #[.pointer (some ⟨g, 0, none⟩), .bool right] w (Upd w base g v (.returned (.bool true)) a b (wrap64 (c + 1)) (l ++ [⟨nextL right (topE l).lv, 13, true⟩])) := by
  unfold Upd
  have hk := Try.underlying87
  have hkc := Try.underlying85
  have HS := Aside0.mk h
  have HM := Aside0.mk (p_made h true (decide_eq_true hl))
  have HB := Aside0.mk (p_begin h hl hm h0 h1 right 0 13 true)
  rw [hok] at HB
  (first | rw [if_pos rfl] at HB | rw [if_neg (by simp)] at HB)
  clear h hl hm h0 h1 hok
  generalize nextL right (topE l).lv = x0 at HB ⊢
  go_enter Try.func69, Try.ntmps69
  go_wp2_with (first | (go_at_call 71; (with_reducible refine (HM.out).mono ?_); rintro e w1 ⟨rfl, rfl⟩) | (go_at_call 77; (with_reducible refine (HB.out).mono ?_); rintro e w4 ⟨v4, rfl, hS4, hM4⟩; have HS4 := Aside0.mk hS4; have HM4 := Aside0.mk hM4; clear hS4 hM4; have hc0 := (blk_cell HS4.out.1 0).trans rfl; have hc1 := (blk_cell HS4.out.1 1).trans rfl; have hc2 := (blk_cell HS4.out.1 2).trans rfl; have hf0 := blk_frozen HS4.out.1 0; have hf1 := blk_frozen HS4.out.1 1; have hf2 := blk_frozen HS4.out.1 2))
  go_ret
  exact ⟨v4, by first | rfl | simp [*], stk_set HS4.out 2 _ rfl, HM4.out.set 2 _⟩
set_option maxHeartbeats 8000000 in
set_option maxRecDepth 100000 in
theorem p_isolate_not {w : World} {base g : Nat} {v : Value} {a b c : Int} {l : List Ent} (h : StkP w base g v a b c l) (hl : 0 < l.length) (hm : l.length ≤ 35184372088) (h0 : 0 ≤ (topE l).lv) (h1 : (topE l).lv ≤ 1000) (right : Bool) (hok : okB a b l right = false) :
    Calls Try.prog 69 #[.pointer (some ⟨g, 0, none⟩), .bool right] w (Upd w base g v (.returned (.bool false)) (wrap64 (a + 1)) b c l) := by
  unfold Upd
  have hk := Try.underlying87
  have hkc := Try.underlying85
  have HS := Aside0.mk h
  have HM := Aside0.mk (p_made h true (decide_eq_true hl))
  have HB := Aside0.mk (p_begin h hl hm h0 h1 right 0 13 true)
  rw [hok] at HB
  (first | rw [if_pos rfl] at HB | rw [if_neg (by simp)] at HB)
  clear h hl hm h0 h1 hok
  go_enter Try.func69, Try.ntmps69
  go_wp2_with (first | (go_at_call 71; (with_reducible refine (HM.out).mono ?_); rintro e w1 ⟨rfl, rfl⟩) | (go_at_call 77; (with_reducible refine (HB.out).mono ?_); rintro e w4 ⟨v4, rfl, hS4, hM4⟩; have HS4 := Aside0.mk hS4; have HM4 := Aside0.mk hM4; clear hS4 hM4; have hc0 := (blk_cell HS4.out.1 0).trans rfl; have hc1 := (blk_cell HS4.out.1 1).trans rfl; have hc2 := (blk_cell HS4.out.1 2).trans rfl; have hf0 := blk_frozen HS4.out.1 0; have hf1 := blk_frozen HS4.out.1 1; have hf2 := blk_frozen HS4.out.1 2))
  go_ret
  exact ⟨v4, by first | rfl | simp [*], stk_set HS4.out 0 _ rfl, HM4.out.set 0 _⟩
end Go.Proofs.Ytbkdaafphcfpdaa.Stk
