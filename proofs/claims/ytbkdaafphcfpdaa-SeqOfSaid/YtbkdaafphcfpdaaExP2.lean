import Derived.Test.YtbkdaafphcfpdaaExP1
namespace Go.Proofs.Ytbkdaafphcfpdaa.Stk
open Go.RowKit Go.Proofs.YtbkdaafphcfpdaaW.PrintWords Go.Proofs.YtbkdaafphcfpdaaW.PrintLast Go.Proofs.YtbkdaafphcfpdaaW.PrintMore
attribute [local go_sem] max2_int min2_int max_two min_two max_three min_three max_four min_four   -- for this text's walks alone
set_option linter.unusedVariables false
set_option linter.unusedSimpArgs false
def WkR (base gw g : Nat) (Ac : Option Addr) (nc cc : Nat) (vm : Value) (bs : Int) (a b c : Int) (l : List Ent) (L T M : List Int) (w : World) (e : Ending) (w' : World) : Prop :=
  ∃ v vl vt, e = .returned (.tuple #[]) ∧ WkC w' base gw g Ac nc cc vm bs v a b c l vl vt vl vt L T M ∧ Below base w w'
theorem below_weak {w w1 : World} {B : Nat} (hB : B ≤ w.heap.size) (h : Below w.heap.size w w1) : Below B w w1 := ⟨h.os, h.tape, h.output, h.size, fun k hk => h.block k (by omega)⟩
theorem wk_base {w : World} {base gw g nc cc : Nat} {Ac : Option Addr} {vm v cl ct vl vt : Value} {bs a b c : Int} {l : List Ent} {L T M : List Int} (h : WkC w base gw g Ac nc cc vm bs v a b c l cl ct vl vt L T M) : base ≤ w.heap.size := by
  have := h.2.2.2.2.2
  have := blk_lt h.1
  omega
theorem at_I {w : World} {A : Option Addr} {n : Nat} {xs : List Int} (h : Kd.C kI w A n xs) (i : Nat) (h1 : i < n) : ∃ ad, A = some ad ∧ w.cell? (ad.add i) = some (.int .i64 (xs.getD i 0)) := by
  obtain ⟨ad, c, e, _, hK, hc0⟩ := Kd.C_get h 0 (i : Int) (by omega) (by omega)
  rw [Int.toNat_natCast] at hK hc0
  have hc : ∀ j u, c[j]? = some u → w.cell? (ad.add (i * 1 + j)) = some u := hc0
  have hk : c = [.int .i64 (xs.getD i 0)] := hK
  subst hk
  have := hc 0 _ rfl
  rw [Nat.mul_one, Nat.add_zero] at this
  exact ⟨ad, e, this⟩
def over (o y : Int) : Int := if o = 13 then y else o
set_option maxHeartbeats 8000000 in
set_option maxRecDepth 100000 in
theorem w_given_plain {w : World} {base gw g nc cc : Nat} {Ac : Option Addr} {vm v vl vt : Value} {bs a b c : Int} {l : List Ent} {L T M : List Int} (h : WkC w base gw g Ac nc cc vm bs v a b c l vl vt vl vt L T M) (hL : L.length ≤ 17592186044000 ∧ T.length ≤ 17592186044000) (hG : Good l) (y : Int) (ho : (topE l).ov = 13) :
    Calls Try.prog 62 #[.pointer (some ⟨gw, 0, none⟩), .int .i64 y] w (WkR base gw g Ac nc cc vm bs a b c l (L ++ [(topE l).lv]) (T ++ [y]) M w) := by
  have hk := Try.underlying67
  have he := Try.underlying82
  have HBS := Aside0.mk (wk_base h)
  have hc := (blk_cell h.1 0).trans rfl
  have HT := Aside0.mk (p_top h.2.1 hG.1 (by have := hG.len; omega))
  have HP := Aside0.mk (fun (W : World) (hb : Below w.heap.size w W) => w_put (wk_below h hb) hL (topE l).lv (y))
  obtain ⟨t0, t1, t2, ht⟩ : ∃ t0 t1 t2, topE l = ⟨t0, t1, t2⟩ := ⟨_, _, _, rfl⟩
  rw [ht] at HT HP ho ⊢
  dsimp only at ho
  have e1 : (t1 == 13) = true := beq_iff_eq.mpr ho
  have e2 : (t1 != 13) = false := bne_eq_false_iff_eq.mpr ho
  clear ho
  clear h hL hG ht
  go_enter Try.func62, Try.ntmps62
  go_wp2_with (first | (go_at_call 72; (with_reducible refine (HT.out).mono ?_); rintro e w1 ⟨rfl, hb⟩; have HB1 := Aside0.mk hb; clear hb) | ((with_reducible refine gate_dst (N := 4) rfl ?_); refine box_event ?hg (N := 4) ?hd (cs := #[.int .i64 0, .int .i64 0, .bool false]) (t := 82) ?hr ?_; (case hd => rfl); (case hg => rfl); (case hr => first | (go_simp; done) | (go_simp; rfl)); intro g4 hg w2 hbox hb; have BX := Aside0.mk hbox; have HB2 := Aside0.mk (below_step HB1.out hb); have HG4 := Aside0.mk (show w.heap.size ≤ g4 by have := HB1.out.size; omega); have hc0 := (blk_cell BX.out 0).trans rfl; have hc1 := (blk_cell BX.out 1).trans rfl; have hc2 := (blk_cell BX.out 2).trans rfl; have hf0 := blk_frozen BX.out 0; have hf1 := blk_frozen BX.out 1; have hf2 := blk_frozen BX.out 2; clear hg hbox hb) | ((with_reducible refine gate_store (t := 82) (p := 4) rfl ?_); refine store_event (t := 82) (p := 4) (v := .tmp 9) (w1 := ((w2.setCell ⟨g4, 0, none⟩ (.int .i64 t0)).setCell ⟨g4, 1, none⟩ (.int .i64 t1)).setCell ⟨g4, 2, none⟩ (.bool t2)) ?hg ?ho ?hn ?hr ?_; (case ho => rfl); (case hg => rfl); (case hn => rfl); (case hr => first | (go_simp; done) | (go_simp; rfl)); intro w3 hw; have BX3 := Aside0.mk (show w3.heap[g4]? = some (.cells #[.int .i64 t0, .int .i64 t1, .bool t2] 82 (0, 0)) by rw [hw]; refine blk_put (cs := #[.int .i64 t0, .int .i64 t1, .bool false]) ?_ 2 _ rfl; refine blk_put (cs := #[.int .i64 t0, .int .i64 0, .bool false]) ?_ 1 _ rfl; exact blk_put BX.out 0 _ rfl); have HB3 := Aside0.mk (show Below w.heap.size w w3 by rw [hw]; exact below_set (below_set (below_set HB2.out HG4.out) HG4.out) HG4.out); clear hw hc0 hc1 hc2 hf0 hf1 hf2 BX; have hd0 := (blk_cell BX3.out 0).trans rfl; have hd1 := (blk_cell BX3.out 1).trans rfl) | (go_at_call 65; (with_reducible refine (HP.out _ HB3.out).mono ?_); rintro e w5 ⟨vl5, vt5, rfl, hk5, hb5⟩; have HK5 := Aside0.mk hk5; have HB5 := Aside0.mk hb5; clear hk5 hb5))
  first | go_end0 | ((try simp only [Exit.inBlock, Exit.then]); refine bodyPost_ret (results_none rfl _ _ _) rfl ?_)
  unfold WkR
  exact ⟨v, vl5, vt5, by first | rfl | simp [*], HK5.out, (below_weak HBS.out HB3.out).trans HB5.out⟩
set_option maxHeartbeats 8000000 in
set_option maxRecDepth 100000 in
theorem w_given_over {w : World} {base gw g nc cc : Nat} {Ac : Option Addr} {vm v vl vt : Value} {bs a b c : Int} {l : List Ent} {L T M : List Int} (h : WkC w base gw g Ac nc cc vm bs v a b c l vl vt vl vt L T M) (hL : L.length ≤ 17592186044000 ∧ T.length ≤ 17592186044000) (hG : Good l) (y : Int) (ho : ¬ (topE l).ov = 13) :
    Calls Try.prog 62 #[.pointer (some ⟨gw, 0, none⟩), .int .i64 y] w (WkR base gw g Ac nc cc vm bs a b c l (L ++ [(topE l).lv]) (T ++ [(topE l).ov]) M w) := by
  have hk := Try.underlying67
  have he := Try.underlying82
  have HBS := Aside0.mk (wk_base h)
  have hc := (blk_cell h.1 0).trans rfl
  have HT := Aside0.mk (p_top h.2.1 hG.1 (by have := hG.len; omega))
  have HP := Aside0.mk (fun (W : World) (hb : Below w.heap.size w W) => w_put (wk_below h hb) hL (topE l).lv ((topE l).ov))
  obtain ⟨t0, t1, t2, ht⟩ : ∃ t0 t1 t2, topE l = ⟨t0, t1, t2⟩ := ⟨_, _, _, rfl⟩
  rw [ht] at HT HP ho ⊢
  dsimp only at ho
  have e1 : (t1 == 13) = false := beq_eq_false_iff_ne.mpr ho
  have e2 : (t1 != 13) = true := bne_iff_ne.mpr ho
  clear ho
  clear h hL hG ht
  go_enter Try.func62, Try.ntmps62
  go_wp2_with (first | (go_at_call 72; (with_reducible refine (HT.out).mono ?_); rintro e w1 ⟨rfl, hb⟩; have HB1 := Aside0.mk hb; clear hb) | ((with_reducible refine gate_dst (N := 4) rfl ?_); refine box_event ?hg (N := 4) ?hd (cs := #[.int .i64 0, .int .i64 0, .bool false]) (t := 82) ?hr ?_; (case hd => rfl); (case hg => rfl); (case hr => first | (go_simp; done) | (go_simp; rfl)); intro g4 hg w2 hbox hb; have BX := Aside0.mk hbox; have HB2 := Aside0.mk (below_step HB1.out hb); have HG4 := Aside0.mk (show w.heap.size ≤ g4 by have := HB1.out.size; omega); have hc0 := (blk_cell BX.out 0).trans rfl; have hc1 := (blk_cell BX.out 1).trans rfl; have hc2 := (blk_cell BX.out 2).trans rfl; have hf0 := blk_frozen BX.out 0; have hf1 := blk_frozen BX.out 1; have hf2 := blk_frozen BX.out 2; clear hg hbox hb) | ((with_reducible refine gate_store (t := 82) (p := 4) rfl ?_); refine store_event (t := 82) (p := 4) (v := .tmp 9) (w1 := ((w2.setCell ⟨g4, 0, none⟩ (.int .i64 t0)).setCell ⟨g4, 1, none⟩ (.int .i64 t1)).setCell ⟨g4, 2, none⟩ (.bool t2)) ?hg ?ho ?hn ?hr ?_; (case ho => rfl); (case hg => rfl); (case hn => rfl); (case hr => first | (go_simp; done) | (go_simp; rfl)); intro w3 hw; have BX3 := Aside0.mk (show w3.heap[g4]? = some (.cells #[.int .i64 t0, .int .i64 t1, .bool t2] 82 (0, 0)) by rw [hw]; refine blk_put (cs := #[.int .i64 t0, .int .i64 t1, .bool false]) ?_ 2 _ rfl; refine blk_put (cs := #[.int .i64 t0, .int .i64 0, .bool false]) ?_ 1 _ rfl; exact blk_put BX.out 0 _ rfl); have HB3 := Aside0.mk (show Below w.heap.size w w3 by rw [hw]; exact below_set (below_set (below_set HB2.out HG4.out) HG4.out) HG4.out); clear hw hc0 hc1 hc2 hf0 hf1 hf2 BX; have hd0 := (blk_cell BX3.out 0).trans rfl; have hd1 := (blk_cell BX3.out 1).trans rfl) | (go_at_call 65; (with_reducible refine (HP.out _ HB3.out).mono ?_); rintro e w5 ⟨vl5, vt5, rfl, hk5, hb5⟩; have HK5 := Aside0.mk hk5; have HB5 := Aside0.mk hb5; clear hk5 hb5))
  first | go_end0 | ((try simp only [Exit.inBlock, Exit.then]); refine bodyPost_ret (results_none rfl _ _ _) rfl ?_)
  unfold WkR
  exact ⟨v, vl5, vt5, by first | rfl | simp [*], HK5.out, (below_weak HBS.out HB3.out).trans HB5.out⟩
theorem w_given {w : World} {base gw g nc cc : Nat} {Ac : Option Addr} {vm v vl vt : Value} {bs a b c : Int} {l : List Ent} {L T M : List Int} (h : WkC w base gw g Ac nc cc vm bs v a b c l vl vt vl vt L T M) (hL : L.length ≤ 17592186044000 ∧ T.length ≤ 17592186044000) (hG : Good l) (y : Int) :
    Calls Try.prog 62 #[.pointer (some ⟨gw, 0, none⟩), .int .i64 y] w (WkR base gw g Ac nc cc vm bs a b c l (L ++ [(topE l).lv]) (T ++ [over (topE l).ov y]) M w) := by
  unfold over
  by_cases ho : (topE l).ov = 13
  · rw [if_pos ho]; exact w_given_plain h hL hG y ho
  · rw [if_neg ho]; exact w_given_over h hL hG y ho
set_option maxHeartbeats 8000000 in
set_option maxRecDepth 100000 in
theorem w_gone {w : World} {base gw g nc cc : Nat} {Ac : Option Addr} {vm v vl vt : Value} {bs a b c : Int} {l : List Ent} {L T M : List Int} (h : WkC w base gw g Ac nc cc vm bs v a b c l vl vt vl vt L T M) (hL : L.length ≤ 17592186044000 ∧ T.length ≤ 17592186044000) (hG : Good l) :
    Calls Try.prog 63 #[.pointer (some ⟨gw, 0, none⟩)] w (WkR base gw g Ac nc cc vm bs a b c l (L ++ [(topE l).lv]) (T ++ [9]) M w) := by
  have hk := Try.underlying67
  have HBS := Aside0.mk (wk_base h)
  have hc := (blk_cell h.1 0).trans rfl
  have HT := Aside0.mk (p_top h.2.1 hG.1 (by have := hG.len; omega))
  have HP := Aside0.mk (fun (W : World) (hb : Below w.heap.size w W) => w_put (wk_below h hb) hL (topE l).lv 9)
  obtain ⟨t0, t1, t2, ht⟩ : ∃ t0 t1 t2, topE l = ⟨t0, t1, t2⟩ := ⟨_, _, _, rfl⟩
  rw [ht] at HT HP ⊢
  have hfl : ∀ (W : World) (x y : Int) (z : Bool), (Instr.field 82 (.agg #[.int .i64 x, .int .i64 y, .bool z]) 0).run Try.prog W = .ok (.int .i64 x) W := fun W x y z => by kernel_rfl
  clear h hL hG ht
  go_enter Try.func63, Try.ntmps63
  go_wp2_with (first | (go_at_call 72; (with_reducible refine (HT.out).mono ?_); rintro e w1 ⟨rfl, hb⟩; have HB1 := Aside0.mk hb; clear hb) | (go_at_call 65; (with_reducible refine (HP.out _ HB1.out).mono ?_); rintro e w5 ⟨vl5, vt5, rfl, hk5, hb5⟩; have HK5 := Aside0.mk hk5; have HB5 := Aside0.mk hb5; clear hk5 hb5))
  first | go_end0 | ((try simp only [Exit.inBlock, Exit.then]); refine bodyPost_ret (results_none rfl _ _ _) rfl ?_)
  unfold WkR
  exact ⟨v, vl5, vt5, by first | rfl | simp [*], HK5.out, (below_weak HBS.out HB1.out).trans HB5.out⟩
set_option maxHeartbeats 8000000 in
set_option maxRecDepth 100000 in
theorem w_embed {w : World} {base gw g nc cc : Nat} {Ac : Option Addr} {vm v vl vt : Value} {bs a b c : Int} {l : List Ent} {L T M : List Int} (h : WkC w base gw g Ac nc cc vm bs v a b c l vl vt vl vt L T M) (hL : L.length ≤ 17592186044000 ∧ T.length ≤ 17592186044000) (hG : Good l) (right : Bool) (ov : Int) :
    Calls Try.prog 58 #[.pointer (some ⟨gw, 0, none⟩), .bool right, .int .i64 ov] w (WkR base gw g Ac nc cc vm bs a (embB a b l right) c (embL a b l right ov) (L ++ [(topE l).lv]) (T ++ [9]) M w) := by
  have hk := Try.underlying67
  have HGO := Aside0.mk (w_gone h hL hG)
  have HE := Aside0.mk (fun (W : World) (v_ : Value) (h_ : StkP W base g v_ a b c l) => p_embed h_ hG right ov)
  clear h hL hG
  go_enter Try.func58, Try.ntmps58
  go_wp2_with (first | (go_at_call 63; (with_reducible refine (HGO.out).mono ?_); rintro e w5 ⟨v5, vl5, vt5, rfl, hk5, hb5⟩; have HK5 := Aside0.mk hk5; have HB5 := Aside0.mk hb5; have hc := (blk_cell HK5.out.1 0).trans rfl; have HSS := Aside0.mk (show StkP w5 base g v5 a b c l from HK5.out.2.1); clear hk5 hb5) | (go_at_call 68; (with_reducible refine (HE.out _ _ HSS.out).mono ?_); rintro e w6 ⟨v6, rfl, hS, hM⟩; have HK6 := Aside0.mk (wk_stk HK5.out hS hM); have HB6 := Aside0.mk (HB5.out.trans (hM.below HK5.out.2.1)); clear hS hM))
  first | go_end0 | ((try simp only [Exit.inBlock, Exit.then]); refine bodyPost_ret (results_none rfl _ _ _) rfl ?_)
  unfold WkR
  exact ⟨v6, vl5, vt5, by first | rfl | simp [*], HK6.out, HB6.out⟩
set_option maxHeartbeats 8000000 in
set_option maxRecDepth 100000 in
theorem w_isolate {w : World} {base gw g nc cc : Nat} {Ac : Option Addr} {vm v vl vt : Value} {bs a b c : Int} {l : List Ent} {L T M : List Int} (h : WkC w base gw g Ac nc cc vm bs v a b c l vl vt vl vt L T M) (hL : L.length ≤ 17592186044000 ∧ T.length ≤ 17592186044000) (hG : Good l) (right : Bool) (y : Int) (hi : ∃ ad, Ac = some ad ∧ w.cell? (ad.add L.length) = some (.int .i64 y)) (hn : L.length < nc) :
    Calls Try.prog 59 #[.pointer (some ⟨gw, 0, none⟩), .bool right] w (WkR base gw g Ac nc cc vm bs (isoA a b l right) b (isoC a b c l right) (isoL a b l right) (L ++ [(topE l).lv]) (T ++ [over (topE l).ov y]) M w) := by
  have hk := Try.underlying67
  obtain ⟨ad, rfl, hi⟩ := hi
  obtain ⟨Al, cl, hvl⟩ := Kd.R_slice h.2.2.1
  have HS0 := Aside0.mk (show w.drew.cell? ⟨gw, 1, none⟩ = some (.slice (some ad) nc cc) ∧ w.drew.cell? ⟨gw, 4, none⟩ = some (.slice Al L.length cl) ∧ w.drew.cell? (ad.add L.length) = some (.int .i64 y) from ⟨(blk_cell h.1 1).trans rfl, ((blk_cell h.1 4).trans rfl).trans (congrArg some hvl), hi⟩)
  have HGV := Aside0.mk (w_given (wk_below h (below_drew (Below.refl _ _))) hL hG y)
  have HE := Aside0.mk (fun (W : World) (v_ : Value) (h_ : StkP W base g v_ a b c l) => p_isolate h_ hG right)
  have HBD := Aside0.mk (show Below base w w.drew from below_drew (Below.refl _ _))
  have p0 : ((0 : Int) ≤ (L.length : Int)) = True := eq_true (by omega)
  have p1 : ((L.length : Int) < (nc : Int)) = True := eq_true (by omega)
  have p2 : (L.length < nc) = True := eq_true hn
  clear h hL hG hi hn hvl
  generalize hLl : L.length = i at HS0 p0 p1 p2
  clear hLl
  go_enter Try.func59, Try.ntmps59
  go_wp2
  refine start_ (n := 13) (S := fun w' => w'.cell? ⟨gw, 1, none⟩ = some (.slice (some ad) nc cc) ∧ w'.cell? ⟨gw, 4, none⟩ = some (.slice Al i cl) ∧ w'.cell? (ad.add i) = some (.int .i64 y)) (ds := [12]) #[false, false, false, false, false, false, false, false, false, false, false, false, false] (by kernel_rfl) rfl rfl HS0.out (fun hHeld => ?_)
  generalize w.drew = w1 at HS0 HGV HBD hHeld ⊢
  refine pure_ (i := 0) (N := some 4) (v := ?_) (a' := ?_) #[true, false, false, false, false, false, false, false, false, false, false, false, false] rfl rfl (by kernel_rfl) (fun _ _ _ h => h) (Or.inl ⟨by rfl, ?_⟩) ?_ ?_
  rotate_left
  · intro w'
    go_simp
    with_reducible rfl
  rotate_left
  · simp only [Act.put, List.setIfInBounds_toArray, List.set_cons_zero, List.set_cons_succ, i64_w, i32_w]
    rfl
  refine pure_ (i := 1) (N := some 5) (v := ?_) (a' := ?_) #[true, true, false, false, false, false, false, false, false, false, false, false, false] rfl rfl (by kernel_rfl) (fun _ _ _ h => h) (Or.inl ⟨by rfl, ?_⟩) ?_ ?_
  rotate_left
  · intro w'
    go_simp
    with_reducible rfl
  rotate_left
  · simp only [Act.put, List.setIfInBounds_toArray, List.set_cons_zero, List.set_cons_succ, i64_w, i32_w]
    rfl
  refine pure_ (i := 2) (N := some 6) (v := ?_) (a' := ?_) #[true, true, true, false, false, false, false, false, false, false, false, false, false] rfl rfl (by kernel_rfl) (fun _ _ _ h => h) (Or.inl ⟨by rfl, ?_⟩) ?_ ?_
  rotate_left
  · intro w'
    go_simp
    with_reducible rfl
  rotate_left
  · simp only [Act.put, List.setIfInBounds_toArray, List.set_cons_zero, List.set_cons_succ, i64_w, i32_w]
    rfl
  refine pure_ (i := 3) (N := some 7) (v := ?_) (a' := ?_) #[true, true, true, true, false, false, false, false, false, false, false, false, false] rfl rfl (by kernel_rfl) (fun _ _ _ h => h) (Or.inl ⟨by rfl, ?_⟩) ?_ ?_
  rotate_left
  · intro w'
    go_simp
    with_reducible rfl
  rotate_left
  · simp only [Act.put, List.setIfInBounds_toArray, List.set_cons_zero, List.set_cons_succ, i64_w, i32_w]
    rfl
  refine take_ (i := 4) (N := some 8) (v := ?_) (a' := ?_) #[true, true, true, true, true, false, false, false, false, false, false, false, false] rfl rfl (by kernel_rfl) (fun _ _ _ h => h) (Or.inl ⟨by rfl, ?_⟩) hHeld ?_ ?_
  rotate_left
  · rintro w' ⟨s0, s1, s2⟩
    go_simp
    with_reducible rfl
  rotate_left
  · simp only [Act.put, List.setIfInBounds_toArray, List.set_cons_zero, List.set_cons_succ, i64_w, i32_w]
    rfl
  refine pure_ (i := 5) (N := some 9) (v := ?_) (a' := ?_) #[true, true, true, true, true, true, false, false, false, false, false, false, false] rfl rfl (by kernel_rfl) (fun _ _ _ h => h) (Or.inl ⟨by rfl, ?_⟩) ?_ ?_
  rotate_left
  · intro w'
    go_simp
    with_reducible rfl
  rotate_left
  · simp only [Act.put, List.setIfInBounds_toArray, List.set_cons_zero, List.set_cons_succ, i64_w, i32_w]
    rfl
  refine pure_ (i := 6) (N := some 10) (v := ?_) (a' := ?_) #[true, true, true, true, true, true, true, false, false, false, false, false, false] rfl rfl (by kernel_rfl) (fun _ _ _ h => h) (Or.inl ⟨by rfl, ?_⟩) ?_ ?_
  rotate_left
  · intro w'
    go_simp
    with_reducible rfl
  rotate_left
  · simp only [Act.put, List.setIfInBounds_toArray, List.set_cons_zero, List.set_cons_succ, i64_w, i32_w]
    rfl
  refine pure_ (i := 7) (N := some 11) (v := ?_) (a' := ?_) #[true, true, true, true, true, true, true, true, false, false, false, false, false] rfl rfl (by kernel_rfl) (fun _ _ _ h => h) (Or.inl ⟨by rfl, ?_⟩) ?_ ?_
  rotate_left
  · intro w'
    go_simp
    with_reducible rfl
  rotate_left
  · simp only [Act.put, List.setIfInBounds_toArray, List.set_cons_zero, List.set_cons_succ, i64_w, i32_w]
    rfl
  refine take_ (i := 8) (N := some 12) (v := ?_) (a' := ?_) #[true, true, true, true, true, true, true, true, true, false, false, false, false] rfl rfl (by kernel_rfl) (fun _ _ _ h => h) (Or.inl ⟨by rfl, ?_⟩) hHeld ?_ ?_
  rotate_left
  · rintro w' ⟨s0, s1, s2⟩
    go_simp
    with_reducible rfl
  rotate_left
  · simp only [Act.put, List.setIfInBounds_toArray, List.set_cons_zero, List.set_cons_succ, i64_w, i32_w]
    rfl
  refine pure_ (i := 9) (N := some 13) (v := ?_) (a' := ?_) #[true, true, true, true, true, true, true, true, true, true, false, false, false] rfl rfl (by kernel_rfl) (fun _ _ _ h => h) (Or.inl ⟨by rfl, ?_⟩) ?_ ?_
  rotate_left
  · intro w'
    go_simp
    first | with_reducible rfl | rfl
  rotate_left
  · simp only [Act.put, List.setIfInBounds_toArray, List.set_cons_zero, List.set_cons_succ, i64_w, i32_w]
    rfl
  refine pure_ (i := 10) (N := some 14) (v := ?_) (a' := ?_) #[true, true, true, true, true, true, true, true, true, true, true, false, false] rfl rfl (by kernel_rfl) (fun _ _ _ h => h) (Or.inl ⟨by rfl, ?_⟩) ?_ ?_
  rotate_left
  · intro w'
    go_simp
    first | with_reducible rfl | rfl
  rotate_left
  · simp only [Act.put, List.setIfInBounds_toArray, List.set_cons_zero, List.set_cons_succ, i64_w, i32_w]
    rfl
  refine take_ (i := 11) (N := some 15) (v := ?_) (a' := ?_) #[true, true, true, true, true, true, true, true, true, true, true, true, false] rfl rfl (by kernel_rfl) (fun _ _ _ h => h) (Or.inl ⟨by rfl, ?_⟩) hHeld ?_ ?_
  rotate_left
  · rintro w' ⟨s0, s1, s2⟩
    go_simp
    with_reducible rfl
  rotate_left
  · simp only [Act.put, List.setIfInBounds_toArray, List.set_cons_zero, List.set_cons_succ, i64_w, i32_w]
    rfl
  refine last_ (i := 12) (N := some 16) #[true, true, true, true, true, true, true, true, true, true, true, true, true] rfl rfl (by kernel_rfl) (by decide) (fun K hK => ?_)
  refine (goes_ Try.func62 (by kernel_rfl) rfl #[.pointer (some ⟨gw, 0, none⟩), .int .i64 y] (by rfl) rfl rfl (by (try simp only [List.map_toArray, List.map_cons, List.map_nil]); first | done | rfl) ?_)
  (with_reducible refine (HGV.out).mono ?_)
  rintro e w5 ⟨v5, vl5, vt5, rfl, hk5, hb5⟩
  refine ⟨_, rfl, ?_⟩
  have HK5 := Aside0.mk hk5
  have HB5 := Aside0.mk hb5
  have hc := (blk_cell HK5.out.1 0).trans rfl
  have HSS := Aside0.mk (show StkP w5 base g v5 a b c l from HK5.out.2.1)
  clear hk5 hb5 hHeld
  refine hK.out _ _ ?_
  clear hK K
  refine norm_ (a' := ?_) ?_ ?_
  rotate_left
  · show Act.put _ (some 16) _ = _
    simp only [Act.put, List.setIfInBounds_toArray, List.set_cons_zero, List.set_cons_succ, i64_w, i32_w]
    rfl
  refine done_ (by kernel_rfl) ?_
  go_wp2_with (first | (go_at_call 69; (with_reducible refine (HE.out _ _ HSS.out).mono ?_); rintro e w6 ⟨v6, rfl, hS, hM⟩; have HK6 := Aside0.mk (wk_stk HK5.out hS hM); have HB6 := Aside0.mk (HBD.out.trans (HB5.out.trans (hM.below HK5.out.2.1))); clear hS hM))
  first | go_end0 | ((try simp only [Exit.inBlock, Exit.then]); refine bodyPost_ret (results_none rfl _ _ _) rfl ?_)
  unfold WkR
  exact ⟨v6, vl5, vt5, by first | rfl | simp [*], HK6.out, HB6.out⟩
end Go.Proofs.Ytbkdaafphcfpdaa.Stk
