import Derived.Test.YtbkdaafphcfpdaaStkX2
namespace Go.Proofs.Ytbkdaafphcfpdaa.Stk
open Go.RowKit Go.Proofs.YtbkdaafphcfpdaaW.PrintWords Go.Proofs.YtbkdaafphcfpdaaW.PrintLast Go.Proofs.YtbkdaafphcfpdaaW.PrintMore
attribute [local go_sem] max2_int min2_int max_two min_two max_three min_three max_four min_four   -- for this text's walks alone
set_option linter.unusedVariables false
set_option linter.unusedSimpArgs false
theorem room_le {a b : Int} {l : List Ent} {right : Bool} (h : roomB a b l right = true) : ¬ 125 < nextL right (topE l).lv := by
  unfold roomB at h
  simp at h
  omega
set_option maxHeartbeats 8000000 in
set_option maxRecDepth 100000 in
theorem x_embed_yes {w : World} {base g : Nat} {v : Value} {a b c : Int} {l : List Ent} (h : StkX w base g v a b c l) (hl : 0 < l.length) (hm : l.length ≤ 35184372088) (h0 : 0 ≤ (topE l).lv) (h1 : (topE l).lv ≤ 1000) (right : Bool) (ov : Int) (hok : roomB a b l right = true) :
    Calls Try.prog 31 #[.pointer (some ⟨g, 0, none⟩), .bool right, .int .i64 ov] w (UpdX w base g v (.returned (.bool true)) a b c (l ++ [⟨nextL right (topE l).lv, ov, false⟩])) := by
  have hk := Try.underlying72
  have he := Try.underlying46
  have HS := Aside0.mk h
  have HR := Aside0.mk (x_room h hl (by omega) h0 h1 right)
  rw [hok] at HR
  have HN := Aside0.mk (fun (W : World) (hb : Below w.heap.size w W) => x_next (stk_below h hb) hl (by omega) h0 h1 right)
  have HP := Aside0.mk (fun (W : World) (hb : Below w.heap.size w W) => x_push_put (stk_below h hb) hl hm (nextL right (topE l).lv) ov false (nextL_lt h0) (room_le hok))
  generalize nextL right (topE l).lv = x0 at HN HP ⊢
  clear h hl hm h0 h1 hok
  go_enter Try.func31, Try.ntmps31
  go_wp2_with (first | (go_at_call 49; (with_reducible refine (HR.out).mono ?_); rintro e w1 ⟨rfl, hb⟩; have HB1 := Aside0.mk hb; have HS1 := Aside0.mk (stk_below HS.out hb); clear hb; have hc0 := (blk_cell HS1.out.1 0).trans rfl; have hc1 := (blk_cell HS1.out.1 1).trans rfl; have hc2 := (blk_cell HS1.out.1 2).trans rfl; have hc3 := (blk_cell HS1.out.1 3).trans rfl; have hf1 := blk_frozen HS1.out.1 1; have hf2 := blk_frozen HS1.out.1 2; have hf3 := blk_frozen HS1.out.1 3) | (go_at_call 51; (with_reducible refine (HN.out _ HB1.out).mono ?_); rintro e w2 ⟨rfl, hb⟩; have HB2 := Aside0.mk (below_step HB1.out hb); clear hb) | (go_at_call 50; (with_reducible refine (HP.out _ HB2.out).mono ?_); rintro e w4 ⟨v4, rfl, hS4, hM4⟩; have HS4 := Aside0.mk hS4; have HM4 := Aside0.mk hM4; clear hS4 hM4))
  go_ret
  unfold UpdX
  exact ⟨v4, by first | rfl | simp [*], HS4.out, (Mv.of_below HB2.out _ _).trans HM4.out⟩
set_option maxHeartbeats 8000000 in
set_option maxRecDepth 100000 in
theorem x_embed_count {w : World} {base g : Nat} {v : Value} {a b c : Int} {l : List Ent} (h : StkX w base g v a b c l) (hl : 0 < l.length) (hm : l.length ≤ 35184372088) (h0 : 0 ≤ (topE l).lv) (h1 : (topE l).lv ≤ 1000) (right : Bool) (ov : Int) (hok : roomB a b l right = false) (ha : a = 0) :
    Calls Try.prog 31 #[.pointer (some ⟨g, 0, none⟩), .bool right, .int .i64 ov] w (UpdX w base g v (.returned (.bool false)) a (wrap64 (b + 1)) c l) := by
  have hk := Try.underlying72
  have he := Try.underlying46
  have HS := Aside0.mk h
  have HR := Aside0.mk (x_room h hl (by omega) h0 h1 right)
  rw [hok] at HR
  have ea : (a == 0) = true := beq_iff_eq.mpr ha
  clear ha
  clear h hl hm h0 h1 hok
  go_enter Try.func31, Try.ntmps31
  go_wp2_with (first | (go_at_call 49; (with_reducible refine (HR.out).mono ?_); rintro e w1 ⟨rfl, hb⟩; have HB1 := Aside0.mk hb; have HS1 := Aside0.mk (stk_below HS.out hb); clear hb; have hc0 := (blk_cell HS1.out.1 0).trans rfl; have hc1 := (blk_cell HS1.out.1 1).trans rfl; have hc2 := (blk_cell HS1.out.1 2).trans rfl; have hc3 := (blk_cell HS1.out.1 3).trans rfl; have hf1 := blk_frozen HS1.out.1 1; have hf2 := blk_frozen HS1.out.1 2; have hf3 := blk_frozen HS1.out.1 3))
  go_ret
  unfold UpdX
  exact ⟨v, by first | rfl | simp [*], stk_set HS1.out 2 _ rfl, (Mv.of_below HB1.out _ _).set 2 _⟩
set_option maxHeartbeats 8000000 in
set_option maxRecDepth 100000 in
theorem x_embed_not {w : World} {base g : Nat} {v : Value} {a b c : Int} {l : List Ent} (h : StkX w base g v a b c l) (hl : 0 < l.length) (hm : l.length ≤ 35184372088) (h0 : 0 ≤ (topE l).lv) (h1 : (topE l).lv ≤ 1000) (right : Bool) (ov : Int) (hok : roomB a b l right = false) (ha : ¬ a = 0) :
    Calls Try.prog 31 #[.pointer (some ⟨g, 0, none⟩), .bool right, .int .i64 ov] w (UpdX w base g v (.returned (.bool false)) a b c l) := by
  have hk := Try.underlying72
  have he := Try.underlying46
  have HS := Aside0.mk h
  have HR := Aside0.mk (x_room h hl (by omega) h0 h1 right)
  rw [hok] at HR
  have ea : (a == 0) = false := beq_eq_false_iff_ne.mpr ha
  clear ha
  clear h hl hm h0 h1 hok
  go_enter Try.func31, Try.ntmps31
  go_wp2_with (first | (go_at_call 49; (with_reducible refine (HR.out).mono ?_); rintro e w1 ⟨rfl, hb⟩; have HB1 := Aside0.mk hb; have HS1 := Aside0.mk (stk_below HS.out hb); clear hb; have hc0 := (blk_cell HS1.out.1 0).trans rfl; have hc1 := (blk_cell HS1.out.1 1).trans rfl; have hc2 := (blk_cell HS1.out.1 2).trans rfl; have hc3 := (blk_cell HS1.out.1 3).trans rfl; have hf1 := blk_frozen HS1.out.1 1; have hf2 := blk_frozen HS1.out.1 2; have hf3 := blk_frozen HS1.out.1 3))
  go_ret
  unfold UpdX
  exact ⟨v, by first | rfl | simp [*], HS1.out, Mv.of_below HB1.out _ _⟩
set_option maxHeartbeats 8000000 in
set_option maxRecDepth 100000 in
theorem x_isolate_yes {w : World} {base g : Nat} {v : Value} {a b c : Int} {l : List Ent} (h : StkX w base g v a b c l) (hl : 0 < l.length) (hm : l.length ≤ 35184372088) (h0 : 0 ≤ (topE l).lv) (h1 : (topE l).lv ≤ 1000) (right : Bool) (hok : roomB a b l right = true) :
    Calls Try.prog 33 #[.pointer (some ⟨g, 0, none⟩), .bool right] w (UpdX w base g v (.returned (.bool true)) a b (wrap64 (c + 1)) (l ++ [⟨nextL right (topE l).lv, 13, true⟩])) := by
  have hk := Try.underlying72
  have he := Try.underlying46
  have HS := Aside0.mk h
  have HR := Aside0.mk (x_room h hl (by omega) h0 h1 right)
  rw [hok] at HR
  have HN := Aside0.mk (fun (W : World) (h_ : StkX W base g v a b (wrap64 (c + 1)) l) => x_next h_ hl (by omega) h0 h1 right)
  have HP := Aside0.mk (fun (W : World) (h_ : StkX W base g v a b (wrap64 (c + 1)) l) => x_push_put h_ hl hm (nextL right (topE l).lv) 13 true (nextL_lt h0) (room_le hok))
  generalize nextL right (topE l).lv = x0 at HN HP ⊢
  clear h hl hm h0 h1 hok
  go_enter Try.func33, Try.ntmps33
  go_wp2_with (first | (go_at_call 49; (with_reducible refine (HR.out).mono ?_); rintro e w1 ⟨rfl, hb⟩; have HB1 := Aside0.mk hb; have HS1 := Aside0.mk (stk_below HS.out hb); clear hb; have hc0 := (blk_cell HS1.out.1 0).trans rfl; have hc1 := (blk_cell HS1.out.1 1).trans rfl; have hc2 := (blk_cell HS1.out.1 2).trans rfl; have hc3 := (blk_cell HS1.out.1 3).trans rfl; have hf1 := blk_frozen HS1.out.1 1; have hf2 := blk_frozen HS1.out.1 2; have hf3 := blk_frozen HS1.out.1 3) | (go_at_call 51; have HS1s := Aside0.mk (show StkX (w1.setCell ⟨g, 3, none⟩ (.int .i64 (wrap64 (c + 1)))) base g v a b (wrap64 (c + 1)) l from stk_set HS1.out 3 _ rfl); (with_reducible refine (HN.out _ HS1s.out).mono ?_); rintro e w2 ⟨rfl, hb⟩; have HS2 := Aside0.mk (show StkX w2 base g v a b (wrap64 (c + 1)) l from stk_below HS1s.out hb); have HM2 := Aside0.mk (((Mv.of_below HB1.out g v).set 3 (.int .i64 (wrap64 (c + 1)))).below_ hb); clear hb) | (go_at_call 50; (with_reducible refine (HP.out _ HS2.out).mono ?_); rintro e w4 ⟨v4, rfl, hS4, hM4⟩; have HS4 := Aside0.mk hS4; have HM4 := Aside0.mk hM4; clear hS4 hM4))
  go_ret
  unfold UpdX
  exact ⟨v4, by first | rfl | simp [*], HS4.out, HM2.out.trans HM4.out⟩
set_option maxHeartbeats 8000000 in
set_option maxRecDepth 100000 in
theorem x_isolate_not {w : World} {base g : Nat} {v : Value} {a b c : Int} {l : List Ent} (h : StkX w base g v a b c l) (hl : 0 < l.length) (hm : l.length ≤ 35184372088) (h0 : 0 ≤ (topE l).lv) (h1 : (topE l).lv ≤ 1000) (right : Bool) (hok : roomB a b l right = false) :
    Calls Try.prog 33 #[.pointer (some ⟨g, 0, none⟩), .bool right] w (UpdX w base g v (.returned (.bool false)) (wrap64 (a + 1)) b c l) := by
  have hk := Try.underlying72
  have he := Try.underlying46
  have HS := Aside0.mk h
  have HR := Aside0.mk (x_room h hl (by omega) h0 h1 right)
  rw [hok] at HR
  clear h hl hm h0 h1 hok
  go_enter Try.func33, Try.ntmps33
  go_wp2_with (first | (go_at_call 49; (with_reducible refine (HR.out).mono ?_); rintro e w1 ⟨rfl, hb⟩; have HB1 := Aside0.mk hb; have HS1 := Aside0.mk (stk_below HS.out hb); clear hb; have hc0 := (blk_cell HS1.out.1 0).trans rfl; have hc1 := (blk_cell HS1.out.1 1).trans rfl; have hc2 := (blk_cell HS1.out.1 2).trans rfl; have hc3 := (blk_cell HS1.out.1 3).trans rfl; have hf1 := blk_frozen HS1.out.1 1; have hf2 := blk_frozen HS1.out.1 2; have hf3 := blk_frozen HS1.out.1 3))
  go_ret
  unfold UpdX
  exact ⟨v, by first | rfl | simp [*], stk_set HS1.out 1 _ rfl, (Mv.of_below HB1.out _ _).set 1 _⟩
set_option maxHeartbeats 8000000 in
set_option maxRecDepth 100000 in
theorem x_endembed_over {w : World} {base g : Nat} {v : Value} {a b c : Int} {l : List Ent} (h : StkX w base g v a b c l) (hl : 0 < l.length) (hm : l.length ≤ 35184372088) (ha : 0 < a) :
    Calls Try.prog 32 #[.pointer (some ⟨g, 0, none⟩)] w (UpdX w base g v (.returned (.tuple #[])) a b c l) := by
  have hk := Try.underlying72
  have HS := Aside0.mk h
  have hc1 := (blk_cell h.1 1).trans rfl
  have hf1 := blk_frozen h.1 1
  have hc2 := (blk_cell h.1 2).trans rfl
  have hf2 := blk_frozen h.1 2
  have hc3 := (blk_cell h.1 3).trans rfl
  have hf3 := blk_frozen h.1 3
  have da : decide (0 < a) = true := decide_eq_true ha
  clear h hl hm ha
  go_enter Try.func32, Try.ntmps32
  go_wp2
  first | go_end0 | ((try simp only [Exit.inBlock, Exit.then]); refine bodyPost_ret (results_none rfl _ _ _) rfl ?_)
  unfold UpdX
  exact ⟨v, by first | rfl | simp [*], HS.out, Mv.refl _ _ _⟩
set_option maxHeartbeats 8000000 in
set_option maxRecDepth 100000 in
theorem x_endembed_count {w : World} {base g : Nat} {v : Value} {a b c : Int} {l : List Ent} (h : StkX w base g v a b c l) (hl : 0 < l.length) (hm : l.length ≤ 35184372088) (ha : ¬ 0 < a) (hb : 0 < b) :
    Calls Try.prog 32 #[.pointer (some ⟨g, 0, none⟩)] w (UpdX w base g v (.returned (.tuple #[])) a (wrap64 (b - 1)) c l) := by
  have hk := Try.underlying72
  have HS := Aside0.mk h
  have hc1 := (blk_cell h.1 1).trans rfl
  have hf1 := blk_frozen h.1 1
  have hc2 := (blk_cell h.1 2).trans rfl
  have hf2 := blk_frozen h.1 2
  have hc3 := (blk_cell h.1 3).trans rfl
  have hf3 := blk_frozen h.1 3
  have da : decide (0 < a) = false := decide_eq_false ha
  have db : decide (0 < b) = true := decide_eq_true hb
  clear h hl hm ha hb
  go_enter Try.func32, Try.ntmps32
  go_wp2
  first | go_end0 | ((try simp only [Exit.inBlock, Exit.then]); refine bodyPost_ret (results_none rfl _ _ _) rfl ?_)
  unfold UpdX
  exact ⟨v, by first | rfl | simp [*], stk_set HS.out 2 _ rfl, (Mv.refl _ _ _).set 2 _⟩
set_option maxHeartbeats 8000000 in
set_option maxRecDepth 100000 in
theorem x_endembed_pop {w : World} {base g : Nat} {v : Value} {a b c : Int} {l : List Ent} (h : StkX w base g v a b c l) (hl : 0 < l.length) (hm : l.length ≤ 35184372088) (ha : ¬ 0 < a) (hb : ¬ 0 < b) (ht : (topE l).iso = false) :
    Calls Try.prog 32 #[.pointer (some ⟨g, 0, none⟩)] w (UpdX w base g v (.returned (.tuple #[])) a b c (popE l)) := by
  have hk := Try.underlying72
  have HS := Aside0.mk h
  have hc1 := (blk_cell h.1 1).trans rfl
  have hf1 := blk_frozen h.1 1
  have hc2 := (blk_cell h.1 2).trans rfl
  have hf2 := blk_frozen h.1 2
  have hc3 := (blk_cell h.1 3).trans rfl
  have hf3 := blk_frozen h.1 3
  have da : decide (0 < a) = false := decide_eq_false ha
  have db : decide (0 < b) = false := decide_eq_false hb
  have HT := Aside0.mk (x_top h hl (by omega))
  have hfl : ∀ (W : World) (x y : Int) (z : Bool), (Instr.field 46 (.agg #[.int .i64 x, .int .i64 y, .bool z]) 2).run Try.prog W = .ok (.bool z) W := fun W x y z => by kernel_rfl
  have HP := Aside0.mk (fun (W : World) (hb : Below w.heap.size w W) => x_pop (stk_below h hb) (by omega))
  rw [ht] at HT
  generalize popE l = l2 at HP ⊢
  clear h hl hm ha hb ht
  go_enter Try.func32, Try.ntmps32
  go_wp2_with (first | (go_at_call 29; (with_reducible refine (HT.out).mono ?_); rintro e w2 ⟨rfl, hb2⟩; have HB := Aside0.mk hb2; clear hb2) | (go_at_call 48; (with_reducible refine (HP.out _ HB.out).mono ?_); rintro e w4 ⟨v4, rfl, hS4, hM4⟩; have HS4 := Aside0.mk hS4; have HM4 := Aside0.mk hM4; clear hS4 hM4))
  first | go_end0 | ((try simp only [Exit.inBlock, Exit.then]); refine bodyPost_ret (results_none rfl _ _ _) rfl ?_)
  unfold UpdX
  exact ⟨v4, by first | rfl | simp [*], HS4.out, (Mv.of_below HB.out _ _).trans HM4.out⟩
set_option maxHeartbeats 8000000 in
set_option maxRecDepth 100000 in
theorem x_endembed_stay {w : World} {base g : Nat} {v : Value} {a b c : Int} {l : List Ent} (h : StkX w base g v a b c l) (hl : 0 < l.length) (hm : l.length ≤ 35184372088) (ha : ¬ 0 < a) (hb : ¬ 0 < b) (ht : (topE l).iso = true) :
    Calls Try.prog 32 #[.pointer (some ⟨g, 0, none⟩)] w (UpdX w base g v (.returned (.tuple #[])) a b c l) := by
  have hk := Try.underlying72
  have HS := Aside0.mk h
  have hc1 := (blk_cell h.1 1).trans rfl
  have hf1 := blk_frozen h.1 1
  have hc2 := (blk_cell h.1 2).trans rfl
  have hf2 := blk_frozen h.1 2
  have hc3 := (blk_cell h.1 3).trans rfl
  have hf3 := blk_frozen h.1 3
  have da : decide (0 < a) = false := decide_eq_false ha
  have db : decide (0 < b) = false := decide_eq_false hb
  have HT := Aside0.mk (x_top h hl (by omega))
  have hfl : ∀ (W : World) (x y : Int) (z : Bool), (Instr.field 46 (.agg #[.int .i64 x, .int .i64 y, .bool z]) 2).run Try.prog W = .ok (.bool z) W := fun W x y z => by kernel_rfl
  rw [ht] at HT
  clear h hl hm ha hb ht
  go_enter Try.func32, Try.ntmps32
  go_wp2_with (first | (go_at_call 29; (with_reducible refine (HT.out).mono ?_); rintro e w2 ⟨rfl, hb2⟩; have HB := Aside0.mk hb2; clear hb2))
  first | go_end0 | ((try simp only [Exit.inBlock, Exit.then]); refine bodyPost_ret (results_none rfl _ _ _) rfl ?_)
  unfold UpdX
  exact ⟨v, by first | rfl | simp [*], stk_below HS.out HB.out, Mv.of_below HB.out _ _⟩
set_option maxHeartbeats 8000000 in
set_option maxRecDepth 100000 in
theorem x_endiso_count {w : World} {base g : Nat} {v : Value} {a b c : Int} {l : List Ent} (h : StkX w base g v a b c l) (hl : 0 < l.length) (hm : l.length ≤ 35184372088) (ha : 0 < a) :
    Calls Try.prog 28 #[.pointer (some ⟨g, 0, none⟩)] w (UpdX w base g v (.returned (.tuple #[])) (wrap64 (a - 1)) b c l) := by
  have hk := Try.underlying72
  have HS := Aside0.mk h
  have hc1 := (blk_cell h.1 1).trans rfl
  have hf1 := blk_frozen h.1 1
  have hc2 := (blk_cell h.1 2).trans rfl
  have hf2 := blk_frozen h.1 2
  have hc3 := (blk_cell h.1 3).trans rfl
  have hf3 := blk_frozen h.1 3
  have da : decide (0 < a) = true := decide_eq_true ha
  clear h hl hm ha
  go_enter Try.func28, Try.ntmps28
  go_wp2
  first | go_end0 | ((try simp only [Exit.inBlock, Exit.then]); refine bodyPost_ret (results_none rfl _ _ _) rfl ?_)
  unfold UpdX
  exact ⟨v, by first | rfl | simp [*], stk_set HS.out 1 _ rfl, (Mv.refl _ _ _).set 1 _⟩
set_option maxHeartbeats 8000000 in
set_option maxRecDepth 100000 in
theorem x_endiso_none {w : World} {base g : Nat} {v : Value} {a b c : Int} {l : List Ent} (h : StkX w base g v a b c l) (hl : 0 < l.length) (hm : l.length ≤ 35184372088) (ha : ¬ 0 < a) (hc : ¬ 0 < c) :
    Calls Try.prog 28 #[.pointer (some ⟨g, 0, none⟩)] w (UpdX w base g v (.returned (.tuple #[])) a b c l) := by
  have hk := Try.underlying72
  have HS := Aside0.mk h
  have hc1 := (blk_cell h.1 1).trans rfl
  have hf1 := blk_frozen h.1 1
  have hc2 := (blk_cell h.1 2).trans rfl
  have hf2 := blk_frozen h.1 2
  have hc3 := (blk_cell h.1 3).trans rfl
  have hf3 := blk_frozen h.1 3
  have da : decide (0 < a) = false := decide_eq_false ha
  have dc : decide (0 < c) = false := decide_eq_false hc
  clear h hl hm ha hc
  go_enter Try.func28, Try.ntmps28
  go_wp2
  first | go_end0 | ((try simp only [Exit.inBlock, Exit.then]); refine bodyPost_ret (results_none rfl _ _ _) rfl ?_)
  unfold UpdX
  exact ⟨v, by first | rfl | simp [*], HS.out, Mv.refl _ _ _⟩
set_option maxHeartbeats 8000000 in
set_option maxRecDepth 100000 in
theorem x_endiso_drop {w : World} {base g : Nat} {v : Value} {a b c : Int} {l : List Ent} (h : StkX w base g v a b c l) (hl : 0 < l.length) (hm : l.length ≤ 35184372088) (ha : ¬ 0 < a) (hc : 0 < c) :
    Calls Try.prog 28 #[.pointer (some ⟨g, 0, none⟩)] w (UpdX w base g v (.returned (.tuple #[])) a 0 (wrap64 (c - 1)) (popE (dropI l.length l))) := by
  have hk := Try.underlying72
  have HS := Aside0.mk h
  have hc1 := (blk_cell h.1 1).trans rfl
  have hf1 := blk_frozen h.1 1
  have hc2 := (blk_cell h.1 2).trans rfl
  have hf2 := blk_frozen h.1 2
  have hc3 := (blk_cell h.1 3).trans rfl
  have hf3 := blk_frozen h.1 3
  have da : decide (0 < a) = false := decide_eq_false ha
  have dc : decide (0 < c) = true := decide_eq_true hc
  have HLM := Aside0.mk hm
  have HL0 := Aside0.mk hl
  have HS1 := Aside0.mk (stk_set (cells' := #[v, .int .i64 a, .int .i64 0, .int .i64 c]) h 2 (.int .i64 0) rfl)
  have HM1 := Aside0.mk ((Mv.refl w g v).set 2 (.int .i64 0))
  have hfl : ∀ (W : World) (x y : Int) (z : Bool), (Instr.field 46 (.agg #[.int .i64 x, .int .i64 y, .bool z]) 2).run Try.prog W = .ok (.bool z) W := fun W x y z => by kernel_rfl
  clear h hl hm ha hc
  go_enter Try.func28, Try.ntmps28
  go_wp2
  clear hc1 hc2 hc3 hf1 hf2 hf3 HS
  generalize w.setCell ⟨g, 2, none⟩ (.int .i64 0) = w1 at HS1 HM1 ⊢
  go_loopg [37] l.length (fun kq _ w' => ∃ (v1 : Value) (l1 : List Ent), Aside0 (StkX w' base g v1 a 0 c l1) ∧ Aside0 (Mv w w' g v v1) ∧ Aside0 (0 < l1.length ∧ l1.length = kq ∧ l1.length ≤ 35184372088 ∧ dropI l1.length l1 = dropI l.length l))
  case atStart => exact ⟨v, l, HS1, HM1, ⟨HL0.out, rfl, HLM.out, rfl⟩⟩
  case round =>
    clear HS1 HM1 HL0
    obtain ⟨v1, l1, HS1, HM1, HI⟩ := hrel
    have HT := Aside0.mk (x_top HS1.out HI.out.1 (by have := HI.out; omega))
    have HP := Aside0.mk (fun (W : World) (hb : Below wr.heap.size wr W) => x_pop (stk_below HS1.out hb) (by have := HI.out; omega))
    obtain ⟨A1, cap1, rfl, hcap1, hC1⟩ := stk_slice HS1.out
    have hcc := (blk_cell HS1.out.1 0).trans rfl
    clear hC1 hcap1
    by_cases h2 : 2 ≤ l1.length
    · have d2 : decide (1 < (l1.length : Int)) = true := decide_eq_true (by omega)
      have d3 : decide (1 < l1.length) = true := decide_eq_true (by omega)
      by_cases ht : (topE l1).iso = true
      · rw [ht] at HT
        have HR := Aside0.mk (show dropI l.length l = l1 by
          have h1 := HI.out
          rw [← h1.2.2.2]
          obtain ⟨n, hn⟩ : ∃ n, l1.length = n + 1 := ⟨l1.length - 1, by omega⟩
          rw [hn, dropI, if_pos ht])
        clear ht h2
        generalize hn1 : l1.length = n1 at *
        have HN1 := Aside0.mk hn1
        clear hn1
        go_wp2_with (first | (go_at_call 29; (with_reducible refine (HT.out).mono ?_); rintro e w2 ⟨rfl, hb2⟩; have HB := Aside0.mk hb2; clear hb2) | (go_at_call 48; (with_reducible refine (HP.out _ HB.out).mono ?_); rintro e w4 ⟨v4, rfl, hS4, hM4⟩; have HS4 := Aside0.mk hS4; have HM4 := Aside0.mk hM4; clear hS4 hM4; have hc3 := (blk_cell HS4.out.1 3).trans rfl; have hf3 := blk_frozen HS4.out.1 3))
        first | go_end0 | ((try simp only [Exit.inBlock, Exit.then]); refine bodyPost_ret (results_none rfl _ _ _) rfl ?_)
        unfold UpdX
        rw [HR.out]
        exact ⟨v4, by first | rfl | simp [*], stk_set HS4.out 3 _ rfl, (HM1.out.trans ((Mv.of_below HB.out _ _).trans HM4.out)).set 3 _⟩
      · have ht0 : (topE l1).iso = false := Bool.eq_false_iff.mpr ht
        rw [ht0] at HT
        have hpe : popE l1 = l1.take (l1.length - 1) := by unfold popE; rw [if_pos h2]
        have HR := Aside0.mk (show dropI (popE l1).length (popE l1) = dropI l.length l by
          have h1 := HI.out
          rw [← h1.2.2.2, hpe]
          have h3 : (l1.take (l1.length - 1)).length = l1.length - 1 := by simp
          obtain ⟨n, hn⟩ : ∃ n, l1.length = n + 1 := ⟨l1.length - 1, by omega⟩
          rw [h3, hn, Nat.add_sub_cancel, dropI, if_neg ht, if_pos (by omega), hn, Nat.add_sub_cancel])
        rw [decide_eq_true h2] at HP
        have HX := Aside0.mk (show 0 < (popE l1).length ∧ (popE l1).length ≤ 35184372088 ∧ (popE l1).length < gk by have := HI.out; rw [hpe]; simp; omega)
        clear ht ht0 h2 HI hpe
        generalize popE l1 = l2 at HP HR HX
        generalize hn1 : l1.length = n1 at *
        clear hn1
        go_wp2_with (first | (go_at_call 29; (with_reducible refine (HT.out).mono ?_); rintro e w2 ⟨rfl, hb2⟩; have HB := Aside0.mk hb2; clear hb2) | (go_at_call 48; (with_reducible refine (HP.out _ HB.out).mono ?_); rintro e w4 ⟨v4, rfl, hS4, hM4⟩; have HS4 := Aside0.mk hS4; have HM4 := Aside0.mk hM4; clear hS4 hM4))
        go_roundg l2.length
        case measure => exact HX.out.2.2
        case rel => exact ⟨v4, l2, HS4, ⟨HM1.out.trans ((Mv.of_below HB.out _ _).trans HM4.out)⟩, ⟨HX.out.1, rfl, HX.out.2.1, HR.out⟩⟩
    · have d2 : decide (1 < (l1.length : Int)) = false := decide_eq_false (by omega)
      have d3 : decide (1 < l1.length) = false := decide_eq_false (by omega)
      have HR := Aside0.mk (show dropI l.length l = l1 by
        have h1 := HI.out
        rw [← h1.2.2.2]
        obtain ⟨n, hn⟩ : ∃ n, l1.length = n + 1 := ⟨l1.length - 1, by omega⟩
        rw [hn, dropI, if_neg h2]
        split <;> rfl)
      clear h2
      generalize hn1 : l1.length = n1 at *
      clear hn1
      have HP := Aside0.mk (HP.out _ (Below.refl _ _))
      go_wp2_with (first | (go_at_call 48; (with_reducible refine (HP.out).mono ?_); rintro e w4 ⟨v4, rfl, hS4, hM4⟩; have HS4 := Aside0.mk hS4; have HM4 := Aside0.mk hM4; clear hS4 hM4; have hc3 := (blk_cell HS4.out.1 3).trans rfl; have hf3 := blk_frozen HS4.out.1 3))
      first | go_end0 | ((try simp only [Exit.inBlock, Exit.then]); refine bodyPost_ret (results_none rfl _ _ _) rfl ?_)
      unfold UpdX
      rw [HR.out]
      exact ⟨v4, by first | rfl | simp [*], stk_set HS4.out 3 _ rfl, (HM1.out.trans HM4.out).set 3 _⟩
end Go.Proofs.Ytbkdaafphcfpdaa.Stk
