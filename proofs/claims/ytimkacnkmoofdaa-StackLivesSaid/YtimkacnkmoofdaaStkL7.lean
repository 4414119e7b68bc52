/- A stack does any calls in any order as the document says. No condition. -/
import Derived.Test.YtimkacnkmoofdaaStkL6
namespace Go.Proofs.Ytimkacnkmoofdaa.Stk
open Go.RowKit Go.Proofs.YtimkacnkmoofdaaW.PrintWords Go.Proofs.YtimkacnkmoofdaaW.PrintLast Go.Proofs.YtimkacnkmoofdaaW.PrintMore
attribute [local go_sem] max2_int min2_int max_two min_two max_three min_three max_four min_four   -- for this text's walks alone
set_option linter.unusedVariables false
set_option linter.unusedSimpArgs false
theorem wrap_up {a : Int} (h0 : 0 ≤ a) (h1 : a < 400) : wrap64 (a + 1) = a + 1 := by unfold wrap64; omega
theorem wrap_dn {a : Int} (h0 : 0 < a) (h1 : a < 400) : wrap64 (a - 1) = a - 1 := by unfold wrap64; omega
theorem do_any {base g gx : Nat} {a b c : Int} {l : List Ent} (hG : Good l) (ha : 0 ≤ a) (hb : 0 ≤ b) (ha2 : a < 400) (hb2 : b < 400) (d0 d1 d3 : Int) (d2 : Bool) :
    ∃ (a' b' c' : Int) (l' : List Ent), (0 ≤ a' ∧ a' ≤ a + 1 ∧ 0 ≤ b' ∧ b' ≤ b + 1) ∧ Good l' ∧ ∀ (W : World) (v vx : Value), StkP W base g v a b c l → StkX W base gx vx a b c l → Calls Try.prog 24 #[.pointer (some ⟨g, 0, none⟩), .pointer (some ⟨gx, 0, none⟩), .agg #[.int .i64 d0, .int .i64 d1, .bool d2, .int .i64 d3]] W (DoPost W base g gx a' b' c' l') := by
  have hu := wrap_up ha ha2
  have hv := wrap_up hb hb2
  have hemb : 0 ≤ embB a b l d2 ∧ embB a b l d2 ≤ b + 1 := by unfold embB; repeat' split
                                                              all_goals omega
  have hiso : 0 ≤ isoA a b l d2 ∧ isoA a b l d2 ≤ a + 1 := by unfold isoA; split <;> omega
  have hee : 0 ≤ eeB a b ∧ eeB a b ≤ b + 1 := by
    unfold eeB
    split
    · omega
    · split
      · rename_i h2; rw [wrap_dn h2 hb2]; omega
      · omega
  have hea : 0 ≤ eiA a ∧ eiA a ≤ a + 1 := by
    unfold eiA
    split
    · rename_i h2; rw [wrap_dn h2 ha2]; omega
    · omega
  have heb : 0 ≤ eiB a b c ∧ eiB a b c ≤ b + 1 := by unfold eiB; repeat' split
                                                     all_goals omega
  have hl := hG.len
  rcases op_cases d0 with rfl | rfl | rfl | rfl | rfl | rfl | rfl | rfl | rfl | hk
  · exact ⟨a, b, c, _, ⟨ha, by omega, hb, by omega⟩, (Went.push hG d1 d3 d2).1, fun W v vx h hX => do_push h hX d1 d3 d2 (fun W v_ h_ => p_push h_ hG d1 d3 d2) (fun W v_ h_ => x_push h_ hG d1 d3 d2)⟩
  · exact ⟨a, b, c, popE l, ⟨ha, by omega, hb, by omega⟩, (Went.pop hG).1, fun W v vx h hX => do_pop h hX d1 d3 d2 (fun W v_ h_ => p_pop h_ hG.1 (by omega)) (fun W v_ h_ => x_pop h_ (by omega))⟩
  · exact ⟨a, _, c, _, ⟨ha, by omega, hemb.1, hemb.2⟩, (Went.emb hG d2 d3).1, fun W v vx h hX => do_embed2 h hX d1 d3 d2 (fun W v_ h_ => p_embed h_ hG d2 d3) (fun W v_ h_ => x_embed h_ hG ha hb d2 d3)⟩
  · exact ⟨a, _, c, _, ⟨ha, by omega, hemb.1, hemb.2⟩, (Went.emb hG d2 d3).1, fun W v vx h hX => do_embed3 h hX d1 d3 d2 (fun W v_ h_ => p_embed h_ hG d2 d3) (fun W v_ h_ => x_embed h_ hG ha hb d2 d3)⟩
  · exact ⟨a, _, c, _, ⟨ha, by omega, hemb.1, hemb.2⟩, (Went.emb hG d2 d3).1, fun W v vx h hX => do_embed4 h hX d1 d3 d2 (fun W v_ h_ => p_embed h_ hG d2 d3) (fun W v_ h_ => x_embed h_ hG ha hb d2 d3)⟩
  · exact ⟨_, b, _, _, ⟨hiso.1, hiso.2, hb, by omega⟩, (Went.isol hG d2).1, fun W v vx h hX => do_isolate5 h hX d1 d3 d2 (fun W v_ h_ => p_isolate h_ hG d2) (fun W v_ h_ => x_isolate h_ hG ha hb d2)⟩
  · exact ⟨_, b, _, _, ⟨hiso.1, hiso.2, hb, by omega⟩, (Went.isol hG d2).1, fun W v vx h hX => do_isolate6 h hX d1 d3 d2 (fun W v_ h_ => p_isolate h_ hG d2) (fun W v_ h_ => x_isolate h_ hG ha hb d2)⟩
  · exact ⟨_, b, _, _, ⟨hiso.1, hiso.2, hb, by omega⟩, (Went.isol hG d2).1, fun W v vx h hX => do_isolate7 h hX d1 d3 d2 (fun W v_ h_ => p_isolate h_ hG d2) (fun W v_ h_ => x_isolate h_ hG ha hb d2)⟩
  · exact ⟨a, _, c, _, ⟨ha, by omega, hee.1, hee.2⟩, (Went.ee hG).1, fun W v vx h hX => do_ee h hX d1 d3 d2 (fun W v_ h_ => p_endembed h_ hG) (fun W v_ h_ => x_endembed h_ hG)⟩
  · exact ⟨_, _, _, _, ⟨hea.1, hea.2, heb.1, heb.2⟩, (Went.ei hG).1, fun W v vx h hX => do_ei h hX d0 d1 d3 d2 hk (fun W v_ h_ => p_endiso h_ hG) (fun W v_ h_ => x_endiso h_ hG)⟩
set_option maxHeartbeats 40000000 in
set_option maxRecDepth 100000 in
theorem lives_walk (n0 : Int) (A : Option Addr) (cap : Nat) (q : List DoE) (w : World) (hQ : Kd.C kD w A q.length q) (hcap : q.length ≤ cap) (hm : q.length ≤ maxLen) :
    Calls Try.prog 4 #[.int .i64 n0, .slice A q.length cap] w fun e w' => e = .returned (.bool true) ∧ Below w.heap.size w w' := by
  unfold maxLen at hm
  have HQ := Aside0.mk hQ
  have HLM := Aside0.mk hm
  have hud := Try.underlying26
  clear hQ hm
  go_enter Try.func4, Try.ntmps4
  go_wp2_with (first | (go_at_call 15; (with_reducible refine (p_new n0 w).mono ?_); rintro e w1 ⟨g, v, rfl, hS, hg, hb⟩; have HS0 := Aside0.mk hS; have HB0 := Aside0.mk hb; clear hS hg hb) | (go_at_call 23; (with_reducible refine (x_new n0 w1).mono ?_); rintro e w2 ⟨gx, vx, rfl, hS, hg, hb⟩; have HS1 := Aside0.mk (show StkP w2 w.heap.size g v 0 0 0 [newE n0] from stk_below HS0.out hb); have HX1 := Aside0.mk (show StkX w2 w.heap.size gx vx 0 0 0 [newE n0] from stk_lower hS HB0.out.size); have HB1 := Aside0.mk (below_step HB0.out hb); clear hS hg hb HS0 HB0))
  go_loopg [20] q.length (fun kq v20 w' => ∃ (i : Nat) (v vx : Value) (a b c : Int) (l : List Ent), v20 = .int .i64 (i : Int) ∧ Aside0 (i ≤ q.length ∧ q.length - i = kq ∧ 0 ≤ a ∧ a ≤ (i : Int) ∧ 0 ≤ b ∧ b ≤ (i : Int)) ∧ Aside0 (StkP w' w.heap.size g v a b c l) ∧ Aside0 (StkX w' w.heap.size gx vx a b c l) ∧ Aside0 (Good l) ∧ Aside0 (Below w.heap.size w w'))
  case atStart => exact ⟨0, v, vx, 0, 0, 0, _, rfl, ⟨Nat.zero_le _, rfl, by omega, by omega, by omega, by omega⟩, HS1, HX1, ⟨Good.new n0⟩, HB1⟩
  case round =>
    clear HS1 HX1 HB1
    obtain ⟨i, v, vx, a, b, c, l, rfl, HI, HS, HX, HGD, HB⟩ := hrel
    by_cases hlt : i < q.length
    · have b0 : decide ((i : Int) < (q.length : Int)) = true := decide_eq_true (by omega)
      have b1 : decide (i < q.length) = true := decide_eq_true hlt
      have hm1 : (i : Int) + 1 ≤ 9223372036854775807 := by have := HLM.out; omega
      have hw := (show wrap64 ((i : Int) + 1) = ((i + 1 : Nat) : Int) by unfold wrap64; omega)
      obtain ⟨ad, ea, hq⟩ := at_D (Kd.C_below HQ.out HB.out) i hlt
      subst ea
      generalize (q.getD i zD).op = d0 at hq
      generalize (q.getD i zD).n = d1 at hq
      generalize (q.getD i zD).right = d2 at hq
      generalize (q.getD i zD).ov = d3 at hq
      have hi0 : (0 : Int) ≤ (i : Int) := by omega
      have hi1 : (i : Int) < (q.length : Int) := by omega
      replace hi0 := eq_true hi0
      replace hi1 := eq_true hi1
      have hi2 : (i < q.length) = True := eq_true hlt
      have HLT := Aside0.mk hlt
      clear hlt hm1
      by_cases h4 : 400 ≤ i
      · have b4 : decide ((400 : Int) ≤ (i : Int)) = true := decide_eq_true (by omega)
        have b5 : decide (400 ≤ i) = true := decide_eq_true h4
        clear h4
        go_wp2_with (first | ((with_reducible refine gate_dst (N := 8) rfl ?_); refine box_event ?hg (N := 8) ?hd (cs := #[.int .i64 0, .int .i64 0, .bool false, .int .i64 0]) (t := 26) ?hr ?_; (case hd => rfl); (case hg => rfl); (case hr => first | (go_simp; done) | (go_simp; rfl)); intro g7 hg w2 hbox hb; have BX := Aside0.mk hbox; have HG7 := Aside0.mk (show wr.heap.size ≤ g7 by omega); have HBR := Aside0.mk hb; have HQ2 := Aside0.mk (show w2.cell? (ad.add (i * 4)) = some (.int .i64 d0) ∧ w2.cell? ⟨(ad.add (i * 4)).block, (ad.add (i * 4)).off + 1, none⟩ = some (.int .i64 d1) ∧ w2.cell? ⟨(ad.add (i * 4)).block, (ad.add (i * 4)).off + 2, none⟩ = some (.bool d2) ∧ w2.cell? ⟨(ad.add (i * 4)).block, (ad.add (i * 4)).off + 3, none⟩ = some (.int .i64 d3) from ⟨pw_cell_below hb hq.1, pw_cell_below hb hq.2.1, pw_cell_below hb hq.2.2.1, pw_cell_below hb hq.2.2.2⟩); have hn0 := blk_frozen BX.out 0; have hn1 := blk_frozen BX.out 1; have hn2 := blk_frozen BX.out 2; have hn3 := blk_frozen BX.out 3; have hb0 := (blk_cell BX.out 0).trans rfl; have hb1 := (blk_cell BX.out 1).trans rfl; have hb2 := (blk_cell BX.out 2).trans rfl; have hb3 := (blk_cell BX.out 3).trans rfl; have hq0 := HQ2.out.1; have hq1 := HQ2.out.2.1; have hq2 := HQ2.out.2.2.1; have hq3 := HQ2.out.2.2.2; clear hg hbox hb) | ((with_reducible refine gate_store (t := 26) (p := 8) rfl ?_); refine store_event (t := 26) (p := 8) (v := .tmp 24) (w1 := (((w2.setCell ⟨g7, 0, none⟩ (.int .i64 d0)).setCell ⟨g7, 1, none⟩ (.int .i64 d1)).setCell ⟨g7, 2, none⟩ (.bool d2)).setCell ⟨g7, 3, none⟩ (.int .i64 d3)) ?hg ?ho ?hn ?hr ?_; (case ho => rfl); (case hg => rfl); (case hn => rfl); (case hr => first | (go_simp; done) | (go_simp; rfl)); intro w3 hw; have BX3 := Aside0.mk (show w3.heap[g7]? = some (.cells #[.int .i64 d0, .int .i64 d1, .bool d2, .int .i64 d3] 26 (0, 0)) by rw [hw]; refine blk_put (cs := #[.int .i64 d0, .int .i64 d1, .bool d2, .int .i64 0]) ?_ 3 _ rfl; refine blk_put (cs := #[.int .i64 d0, .int .i64 d1, .bool false, .int .i64 0]) ?_ 2 _ rfl; refine blk_put (cs := #[.int .i64 d0, .int .i64 0, .bool false, .int .i64 0]) ?_ 1 _ rfl; exact blk_put BX.out 0 _ rfl); have HMB := Aside0.mk (show Below wr.heap.size wr w3 by rw [hw]; exact below_set (below_set (below_set (below_set HBR.out HG7.out) HG7.out) HG7.out) HG7.out); have HS3 := Aside0.mk (show StkP w3 w.heap.size g v a b (c) l from stk_below HS.out HMB.out); have HB3 := Aside0.mk (below_step HB.out HMB.out); have HX3 := Aside0.mk (show StkX w3 w.heap.size gx vx a b c l from stk_below HX.out HMB.out); clear hw hq0 hq1 hq2 hq3 hn0 hn1 hn2 hn3 hb0 hb1 hb2 hb3 HQ2 BX hq; have hx0 := (blk_cell BX3.out 0).trans rfl; have hx1 := (blk_cell BX3.out 1).trans rfl; have hx2 := (blk_cell BX3.out 2).trans rfl; have hx3 := (blk_cell BX3.out 3).trans rfl) | (go_at_call 22; (with_reducible refine (p_awake _).mono ?_); rintro e w9 ⟨rfl, hb⟩; have HB9 := Aside0.mk (below_step HB3.out hb); clear hb))
        go_ret
        exact ⟨by first | rfl | simp [*], HB9.out⟩
      · have b4 : decide ((400 : Int) ≤ (i : Int)) = false := decide_eq_false (by omega)
        have b5 : decide (400 ≤ i) = false := decide_eq_false h4
        obtain ⟨a', b', c', l', hbd, hg', hd⟩ := do_any (base := w.heap.size) (g := g) (gx := gx) (c := c) HGD.out HI.out.2.2.1 HI.out.2.2.2.2.1 (by have := HI.out; omega) (by have := HI.out; omega) d0 d1 d3 d2
        have HD := Aside0.mk hd
        have HBD := Aside0.mk hbd
        have HG' := Aside0.mk hg'
        have HLE := Aside0.mk (show 0 < l'.length ∧ l'.length ≤ 126 ∧ 0 ≤ (topE l').lv ∧ (topE l').lv ≤ 1000 from ⟨hg'.1, hg'.len, hg'.top.1, by have := hg'.top; omega⟩)
        clear h4 hbd hg' hd
        have HT := Aside0.mk (fun (W : World) (v_ : Value) (h : StkP W w.heap.size g v_ a' b' c' l') => p_top h HLE.out.1 (by have := HLE.out; omega))
        have HTX := Aside0.mk (fun (W : World) (v_ : Value) (h : StkX W w.heap.size gx v_ a' b' c' l') => x_top h HLE.out.1 (by have := HLE.out; omega))
        have HL := Aside0.mk (fun (W : World) (v_ : Value) (h : StkP W w.heap.size g v_ a' b' c' l') => p_len h HLE.out.1)
        have HN := Aside0.mk (fun (W : World) (v_ : Value) (h : StkP W w.heap.size g v_ a' b' c' l') => p_next h HLE.out.1 (by have := HLE.out; omega) HLE.out.2.2.1 HLE.out.2.2.2 d2)
        have HNX := Aside0.mk (fun (W : World) (v_ : Value) (h : StkX W w.heap.size gx v_ a' b' c' l') => x_next h HLE.out.1 (by have := HLE.out; omega) HLE.out.2.2.1 HLE.out.2.2.2 d2)
        have HO := Aside0.mk (fun (W : World) (v_ : Value) (h : StkP W w.heap.size g v_ a' b' c' l') => p_over h HLE.out.1)
        generalize hnx : nextL d2 (topE l').lv = nx at HN HNX
        clear hnx
        obtain ⟨t0, t1, t2, ht⟩ : ∃ t0 t1 t2, topE l' = ⟨t0, t1, t2⟩ := ⟨_, _, _, rfl⟩
        rw [ht] at HT HTX
        clear ht
        go_wp2_with (first | ((with_reducible refine gate_dst (N := 8) rfl ?_); refine box_event ?hg (N := 8) ?hd (cs := #[.int .i64 0, .int .i64 0, .bool false, .int .i64 0]) (t := 26) ?hr ?_; (case hd => rfl); (case hg => rfl); (case hr => first | (go_simp; done) | (go_simp; rfl)); intro g7 hg w2 hbox hb; have BX := Aside0.mk hbox; have HG7 := Aside0.mk (show wr.heap.size ≤ g7 by omega); have HBR := Aside0.mk hb; have HQ2 := Aside0.mk (show w2.cell? (ad.add (i * 4)) = some (.int .i64 d0) ∧ w2.cell? ⟨(ad.add (i * 4)).block, (ad.add (i * 4)).off + 1, none⟩ = some (.int .i64 d1) ∧ w2.cell? ⟨(ad.add (i * 4)).block, (ad.add (i * 4)).off + 2, none⟩ = some (.bool d2) ∧ w2.cell? ⟨(ad.add (i * 4)).block, (ad.add (i * 4)).off + 3, none⟩ = some (.int .i64 d3) from ⟨pw_cell_below hb hq.1, pw_cell_below hb hq.2.1, pw_cell_below hb hq.2.2.1, pw_cell_below hb hq.2.2.2⟩); have hn0 := blk_frozen BX.out 0; have hn1 := blk_frozen BX.out 1; have hn2 := blk_frozen BX.out 2; have hn3 := blk_frozen BX.out 3; have hb0 := (blk_cell BX.out 0).trans rfl; have hb1 := (blk_cell BX.out 1).trans rfl; have hb2 := (blk_cell BX.out 2).trans rfl; have hb3 := (blk_cell BX.out 3).trans rfl; have hq0 := HQ2.out.1; have hq1 := HQ2.out.2.1; have hq2 := HQ2.out.2.2.1; have hq3 := HQ2.out.2.2.2; clear hg hbox hb) | ((with_reducible refine gate_store (t := 26) (p := 8) rfl ?_); refine store_event (t := 26) (p := 8) (v := .tmp 24) (w1 := (((w2.setCell ⟨g7, 0, none⟩ (.int .i64 d0)).setCell ⟨g7, 1, none⟩ (.int .i64 d1)).setCell ⟨g7, 2, none⟩ (.bool d2)).setCell ⟨g7, 3, none⟩ (.int .i64 d3)) ?hg ?ho ?hn ?hr ?_; (case ho => rfl); (case hg => rfl); (case hn => rfl); (case hr => first | (go_simp; done) | (go_simp; rfl)); intro w3 hw; have BX3 := Aside0.mk (show w3.heap[g7]? = some (.cells #[.int .i64 d0, .int .i64 d1, .bool d2, .int .i64 d3] 26 (0, 0)) by rw [hw]; refine blk_put (cs := #[.int .i64 d0, .int .i64 d1, .bool d2, .int .i64 0]) ?_ 3 _ rfl; refine blk_put (cs := #[.int .i64 d0, .int .i64 d1, .bool false, .int .i64 0]) ?_ 2 _ rfl; refine blk_put (cs := #[.int .i64 d0, .int .i64 0, .bool false, .int .i64 0]) ?_ 1 _ rfl; exact blk_put BX.out 0 _ rfl); have HMB := Aside0.mk (show Below wr.heap.size wr w3 by rw [hw]; exact below_set (below_set (below_set (below_set HBR.out HG7.out) HG7.out) HG7.out) HG7.out); have HS3 := Aside0.mk (show StkP w3 w.heap.size g v a b (c) l from stk_below HS.out HMB.out); have HB3 := Aside0.mk (below_step HB.out HMB.out); have HX3 := Aside0.mk (show StkX w3 w.heap.size gx vx a b c l from stk_below HX.out HMB.out); clear hw hq0 hq1 hq2 hq3 hn0 hn1 hn2 hn3 hb0 hb1 hb2 hb3 HQ2 BX hq; have hx0 := (blk_cell BX3.out 0).trans rfl; have hx1 := (blk_cell BX3.out 1).trans rfl; have hx2 := (blk_cell BX3.out 2).trans rfl; have hx3 := (blk_cell BX3.out 3).trans rfl) | (go_at_call 24; (with_reducible refine (HD.out _ _ _ HS3.out HX3.out).mono ?_); rintro e w5 ⟨v5, vx5, rfl, hS, hX, hb, hF⟩; have HS5 := Aside0.mk (show StkP w5 w.heap.size g v5 a' b' c' l' from hS); have HX5 := Aside0.mk (show StkX w5 w.heap.size gx vx5 a' b' c' l' from hX); have BX5 := Aside0.mk (hF g7 _ _ BX3.out (by decide) (by decide) (by decide) (by decide)); have HB5 := Aside0.mk (HB3.out.trans hb); clear hS hX hb hF) | (go_at_call 25; (with_reducible refine (HO.out _ _ HS5.out).mono ?_); rintro e w6 ⟨rfl, hb⟩; have HS6 := Aside0.mk (show StkP w6.drew w.heap.size g v5 a' b' c' l' from stk_drew (stk_below HS5.out hb)); have HX60 := Aside0.mk (show StkX w6.drew w.heap.size gx vx5 a' b' c' l' from stk_drew (stk_below HX5.out hb)); have BX6 := Aside0.mk (blk_drew (blk_below BX5.out hb)); have HB6 := Aside0.mk (below_drew1 (below_step HB5.out hb)); clear hb))
        obtain ⟨Ax, capx, evx, _, _⟩ := stk_slice HX60.out
        subst evx
        generalize hn' : l'.length = n' at HL HX60
        clear hn'
        have HX6 := HX60
        clear HX60
        refine start_ (n := 51) (S := fun w' => w'.cell? ⟨gx, 0, none⟩ = some (.slice Ax n' capx) ∧ w'.cell? ⟨gx, 1, none⟩ = some (.int .i64 a') ∧ w'.cell? ⟨gx, 2, none⟩ = some (.int .i64 b') ∧ w'.cell? ⟨gx, 3, none⟩ = some (.int .i64 c') ∧ w'.cell? ⟨g7, 2, none⟩ = some (.bool d2)) (ds := []) #[false, false, false, false, false, false, false, false, false, false, false, false, false, false, false, false, false, false, false, false, false, false, false, false, false, false, false, false, false, false, false, false, false, false, false, false, false, false, false, false, false, false, false, false, false, false, false, false, false, false, false] (by kernel_rfl) rfl rfl ⟨(blk_cell HX6.out.1 0).trans rfl, (blk_cell HX6.out.1 1).trans rfl, (blk_cell HX6.out.1 2).trans rfl, (blk_cell HX6.out.1 3).trans rfl, (blk_cell BX6.out 2).trans rfl⟩ (fun hHeld => ?_)
        generalize w6.drew = w6_ at HS6 HX6 BX6 HB6 hHeld ⊢
        refine pure_ (i := 0) (N := some 38) (v := ?_) (a' := ?_) #[true, false, false, false, false, false, false, false, false, false, false, false, false, false, false, false, false, false, false, false, false, false, false, false, false, false, false, false, false, false, false, false, false, false, false, false, false, false, false, false, false, false, false, false, false, false, false, false, false, false, false] rfl rfl (by kernel_rfl) (fun _ _ _ h => h) (Or.inl ⟨by rfl, ?_⟩) ?_ ?_
        rotate_left
        · intro w'
          go_simp
          with_reducible rfl
        rotate_left
        · simp only [Act.put, List.setIfInBounds_toArray, List.set_cons_zero, List.set_cons_succ, i64_w, i32_w]
          rfl
        refine pure_ (i := 2) (N := some 40) (v := ?_) (a' := ?_) #[true, false, true, false, false, false, false, false, false, false, false, false, false, false, false, false, false, false, false, false, false, false, false, false, false, false, false, false, false, false, false, false, false, false, false, false, false, false, false, false, false, false, false, false, false, false, false, false, false, false, false] rfl rfl (by kernel_rfl) (fun _ _ _ h => h) (Or.inl ⟨by rfl, ?_⟩) ?_ ?_
        rotate_left
        · intro w'
          go_simp
          with_reducible rfl
        rotate_left
        · simp only [Act.put, List.setIfInBounds_toArray, List.set_cons_zero, List.set_cons_succ, i64_w, i32_w]
          rfl
        refine one_ (i := 1) (N := some 39) #[true, true, true, false, false, false, false, false, false, false, false, false, false, false, false, false, false, false, false, false, false, false, false, false, false, false, false, false, false, false, false, false, false, false, false, false, false, false, false, false, false, false, false, false, false, false, false, false, false, false, false] rfl rfl (by kernel_rfl) (by decide) (fun K hK => ?_)
        refine (goes_ Try.func16 (by kernel_rfl) rfl #[.pointer (some ⟨g, 0, none⟩)] (by rfl) rfl rfl (by (try simp only [List.map_toArray, List.map_cons, List.map_nil]); first | done | rfl) ?_)
        (with_reducible refine (HT.out _ _ HS6.out).mono ?_)
        rintro e w7 ⟨rfl, hb⟩
        refine ⟨_, rfl, ?_⟩
        have HS7 := Aside0.mk (show StkP w7 w.heap.size g v5 a' b' c' l' from stk_below HS6.out hb)
        have HX7 := Aside0.mk (show StkX w7 w.heap.size gx (.slice Ax n' capx) a' b' c' l' from stk_below HX6.out hb)
        have BX7 := Aside0.mk (blk_below BX6.out hb)
        have HB7 := Aside0.mk (below_step HB6.out hb)
        clear hb
        refine hK.out _ _ ⟨(blk_cell HX7.out.1 0).trans rfl, (blk_cell HX7.out.1 1).trans rfl, (blk_cell HX7.out.1 2).trans rfl, (blk_cell HX7.out.1 3).trans rfl, (blk_cell BX7.out 2).trans rfl⟩ (fun hHeld => ?_)
        clear hK K
        refine norm_ (a' := ?_) ?_ ?_
        rotate_left
        · show Act.put _ (some 39) _ = _
          simp only [Act.put, List.setIfInBounds_toArray, List.set_cons_zero, List.set_cons_succ, i64_w, i32_w]
          rfl
        refine one_ (i := 3) (N := some 41) #[true, true, true, true, false, false, false, false, false, false, false, false, false, false, false, false, false, false, false, false, false, false, false, false, false, false, false, false, false, false, false, false, false, false, false, false, false, false, false, false, false, false, false, false, false, false, false, false, false, false, false] rfl rfl (by kernel_rfl) (by decide) (fun K hK => ?_)
        refine (goes_ Try.func27 (by kernel_rfl) rfl #[.pointer (some ⟨gx, 0, none⟩)] (by rfl) rfl rfl (by (try simp only [List.map_toArray, List.map_cons, List.map_nil]); first | done | rfl) ?_)
        (with_reducible refine (HTX.out _ _ HX7.out).mono ?_)
        rintro e w8 ⟨rfl, hb⟩
        refine ⟨_, rfl, ?_⟩
        have HS8 := Aside0.mk (show StkP w8 w.heap.size g v5 a' b' c' l' from stk_below HS7.out hb)
        have HX8 := Aside0.mk (show StkX w8 w.heap.size gx (.slice Ax n' capx) a' b' c' l' from stk_below HX7.out hb)
        have BX8 := Aside0.mk (blk_below BX7.out hb)
        have HB8 := Aside0.mk (below_step HB7.out hb)
        clear hb
        refine hK.out _ _ ⟨(blk_cell HX8.out.1 0).trans rfl, (blk_cell HX8.out.1 1).trans rfl, (blk_cell HX8.out.1 2).trans rfl, (blk_cell HX8.out.1 3).trans rfl, (blk_cell BX8.out 2).trans rfl⟩ (fun hHeld => ?_)
        clear hK K
        refine norm_ (a' := ?_) ?_ ?_
        rotate_left
        · show Act.put _ (some 41) _ = _
          simp only [Act.put, List.setIfInBounds_toArray, List.set_cons_zero, List.set_cons_succ, i64_w, i32_w]
          rfl
        refine one_ (i := 4) (N := some 42) #[true, true, true, true, true, false, false, false, false, false, false, false, false, false, false, false, false, false, false, false, false, false, false, false, false, false, false, false, false, false, false, false, false, false, false, false, false, false, false, false, false, false, false, false, false, false, false, false, false, false, false] rfl rfl (by kernel_rfl) (by decide) (fun K hK => ?_)
        refine (goes_ Try.func26 (by kernel_rfl) rfl #[.agg #[.int .i64 t0, .int .i64 t1, .bool t2], .agg #[.int .i64 t0, .int .i64 t1, .bool t2]] (by rfl) rfl rfl (by (try simp only [List.map_toArray, List.map_cons, List.map_nil]); first | done | rfl) ?_)
        (with_reducible refine (p_same t0 t1 t2 _).mono ?_)
        rintro e w9 ⟨rfl, hb⟩
        refine ⟨_, rfl, ?_⟩
        have HS9 := Aside0.mk (show StkP w9 w.heap.size g v5 a' b' c' l' from stk_below HS8.out hb)
        have HX9 := Aside0.mk (show StkX w9 w.heap.size gx (.slice Ax n' capx) a' b' c' l' from stk_below HX8.out hb)
        have BX9 := Aside0.mk (blk_below BX8.out hb)
        have HB9 := Aside0.mk (below_step HB8.out hb)
        clear hb
        refine hK.out _ _ ⟨(blk_cell HX9.out.1 0).trans rfl, (blk_cell HX9.out.1 1).trans rfl, (blk_cell HX9.out.1 2).trans rfl, (blk_cell HX9.out.1 3).trans rfl, (blk_cell BX9.out 2).trans rfl⟩ (fun hHeld => ?_)
        clear hK K
        refine norm_ (a' := ?_) ?_ ?_
        rotate_left
        · show Act.put _ (some 42) _ = _
          simp only [Act.put, List.setIfInBounds_toArray, List.set_cons_zero, List.set_cons_succ, i64_w, i32_w]
          rfl
        refine pure_ (i := 5) (N := some 43) (v := ?_) (a' := ?_) #[true, true, true, true, true, true, false, false, false, false, false, false, false, false, false, false, false, false, false, false, false, false, false, false, false, false, false, false, false, false, false, false, false, false, false, false, false, false, false, false, false, false, false, false, false, false, false, false, false, false, false] rfl rfl (by kernel_rfl) (fun _ _ _ h => h) (Or.inl ⟨by rfl, ?_⟩) ?_ ?_
        rotate_left
        · intro w'
          go_simp
          with_reducible rfl
        rotate_left
        · simp only [Act.put, List.setIfInBounds_toArray, List.set_cons_zero, List.set_cons_succ, i64_w, i32_w]
          rfl
        refine pure_ (i := 6) (N := some 44) (v := ?_) (a' := ?_) #[true, true, true, true, true, true, true, false, false, false, false, false, false, false, false, false, false, false, false, false, false, false, false, false, false, false, false, false, false, false, false, false, false, false, false, false, false, false, false, false, false, false, false, false, false, false, false, false, false, false, false] rfl rfl (by kernel_rfl) (fun _ _ _ h => h) (Or.inl ⟨by rfl, ?_⟩) ?_ ?_
        rotate_left
        · intro w'
          go_simp
          with_reducible rfl
        rotate_left
        · simp only [Act.put, List.setIfInBounds_toArray, List.set_cons_zero, List.set_cons_succ, i64_w, i32_w]
          rfl
        refine pure_ (i := 7) (N := some 45) (v := ?_) (a' := ?_) #[true, true, true, true, true, true, true, true, false, false, false, false, false, false, false, false, false, false, false, false, false, false, false, false, false, false, false, false, false, false, false, false, false, false, false, false, false, false, false, false, false, false, false, false, false, false, false, false, false, false, false] rfl rfl (by kernel_rfl) (fun _ _ _ h => h) (Or.inl ⟨by rfl, ?_⟩) ?_ ?_
        rotate_left
        · intro w'
          go_simp
          with_reducible rfl
        rotate_left
        · simp only [Act.put, List.setIfInBounds_toArray, List.set_cons_zero, List.set_cons_succ, i64_w, i32_w]
          rfl
        refine pure_ (i := 9) (N := some 47) (v := ?_) (a' := ?_) #[true, true, true, true, true, true, true, true, false, true, false, false, false, false, false, false, false, false, false, false, false, false, false, false, false, false, false, false, false, false, false, false, false, false, false, false, false, false, false, false, false, false, false, false, false, false, false, false, false, false, false] rfl rfl (by kernel_rfl) (fun _ _ _ h => h) (Or.inl ⟨by rfl, ?_⟩) ?_ ?_
        rotate_left
        · intro w'
          go_simp
          with_reducible rfl
        rotate_left
        · simp only [Act.put, List.setIfInBounds_toArray, List.set_cons_zero, List.set_cons_succ, i64_w, i32_w]
          rfl
        refine pure_ (i := 10) (N := some 48) (v := ?_) (a' := ?_) #[true, true, true, true, true, true, true, true, false, true, true, false, false, false, false, false, false, false, false, false, false, false, false, false, false, false, false, false, false, false, false, false, false, false, false, false, false, false, false, false, false, false, false, false, false, false, false, false, false, false, false] rfl rfl (by kernel_rfl) (fun _ _ _ h => h) (Or.inl ⟨by rfl, ?_⟩) ?_ ?_
        rotate_left
        · intro w'
          go_simp
          with_reducible rfl
        rotate_left
        · simp only [Act.put, List.setIfInBounds_toArray, List.set_cons_zero, List.set_cons_succ, i64_w, i32_w]
          rfl
        refine pure_ (i := 11) (N := some 49) (v := ?_) (a' := ?_) #[true, true, true, true, true, true, true, true, false, true, true, true, false, false, false, false, false, false, false, false, false, false, false, false, false, false, false, false, false, false, false, false, false, false, false, false, false, false, false, false, false, false, false, false, false, false, false, false, false, false, false] rfl rfl (by kernel_rfl) (fun _ _ _ h => h) (Or.inl ⟨by rfl, ?_⟩) ?_ ?_
        rotate_left
        · intro w'
          go_simp
          with_reducible rfl
        rotate_left
        · simp only [Act.put, List.setIfInBounds_toArray, List.set_cons_zero, List.set_cons_succ, i64_w, i32_w]
          rfl
        refine take_ (i := 12) (N := some 50) (v := ?_) (a' := ?_) #[true, true, true, true, true, true, true, true, false, true, true, true, true, false, false, false, false, false, false, false, false, false, false, false, false, false, false, false, false, false, false, false, false, false, false, false, false, false, false, false, false, false, false, false, false, false, false, false, false, false, false] rfl rfl (by kernel_rfl) (fun _ _ _ h => h) (Or.inl ⟨by rfl, ?_⟩) hHeld ?_ ?_
        rotate_left
        · rintro w' ⟨s0, s1, s2, s3, s4⟩
          go_simp
          with_reducible rfl
        rotate_left
        · simp only [Act.put, List.setIfInBounds_toArray, List.set_cons_zero, List.set_cons_succ, i64_w, i32_w]
          rfl
        refine pure_ (i := 13) (N := some 51) (v := ?_) (a' := ?_) #[true, true, true, true, true, true, true, true, false, true, true, true, true, true, false, false, false, false, false, false, false, false, false, false, false, false, false, false, false, false, false, false, false, false, false, false, false, false, false, false, false, false, false, false, false, false, false, false, false, false, false] rfl rfl (by kernel_rfl) (fun _ _ _ h => h) (Or.inl ⟨by rfl, ?_⟩) ?_ ?_
        rotate_left
        · intro w'
          go_simp
          first | with_reducible rfl | rfl
        rotate_left
        · simp only [Act.put, List.setIfInBounds_toArray, List.set_cons_zero, List.set_cons_succ, i64_w, i32_w]
          rfl
        refine one_ (i := 8) (N := some 46) #[true, true, true, true, true, true, true, true, true, true, true, true, true, true, false, false, false, false, false, false, false, false, false, false, false, false, false, false, false, false, false, false, false, false, false, false, false, false, false, false, false, false, false, false, false, false, false, false, false, false, false] rfl rfl (by kernel_rfl) (by decide) (fun K hK => ?_)
        refine (goes_ Try.func17 (by kernel_rfl) rfl #[.pointer (some ⟨g, 0, none⟩)] (by rfl) rfl rfl (by (try simp only [List.map_toArray, List.map_cons, List.map_nil]); first | done | rfl) ?_)
        (with_reducible refine (HL.out _ _ HS9.out).mono ?_)
        rintro e w_ ⟨rfl, rfl⟩
        refine ⟨_, rfl, ?_⟩
        refine hK.out _ _ hHeld (fun hHeld => ?_)
        clear hK K
        refine norm_ (a' := ?_) ?_ ?_
        rotate_left
        · show Act.put _ (some 46) _ = _
          simp only [Act.put, List.setIfInBounds_toArray, List.set_cons_zero, List.set_cons_succ, i64_w, i32_w]
          rfl
        refine pure_ (i := 14) (N := some 52) (v := .bool false) (a' := ?_) #[true, true, true, true, true, true, true, true, true, true, true, true, true, true, true, false, false, false, false, false, false, false, false, false, false, false, false, false, false, false, false, false, false, false, false, false, false, false, false, false, false, false, false, false, false, false, false, false, false, false, false] rfl rfl (by kernel_rfl) (fun _ _ _ h => h) (Or.inl ⟨by rfl, ?_⟩) ?_ ?_
        · intro w'
          go_simp
          first | done | with_reducible rfl | rfl | (simp; done)
        rotate_left
        · simp only [Act.put, List.setIfInBounds_toArray, List.set_cons_zero, List.set_cons_succ, i64_w, i32_w]
          rfl
        refine pure_ (i := 15) (N := some 53) (v := ?_) (a' := ?_) #[true, true, true, true, true, true, true, true, true, true, true, true, true, true, true, true, false, false, false, false, false, false, false, false, false, false, false, false, false, false, false, false, false, false, false, false, false, false, false, false, false, false, false, false, false, false, false, false, false, false, false] rfl rfl (by kernel_rfl) (fun _ _ _ h => h) (Or.inl ⟨by rfl, ?_⟩) ?_ ?_
        rotate_left
        · intro w'
          go_simp
          with_reducible rfl
        rotate_left
        · simp only [Act.put, List.setIfInBounds_toArray, List.set_cons_zero, List.set_cons_succ, i64_w, i32_w]
          rfl
        refine pure_ (i := 16) (N := some 54) (v := ?_) (a' := ?_) #[true, true, true, true, true, true, true, true, true, true, true, true, true, true, true, true, true, false, false, false, false, false, false, false, false, false, false, false, false, false, false, false, false, false, false, false, false, false, false, false, false, false, false, false, false, false, false, false, false, false, false] rfl rfl (by kernel_rfl) (fun _ _ _ h => h) (Or.inl ⟨by rfl, ?_⟩) ?_ ?_
        rotate_left
        · intro w'
          go_simp
          with_reducible rfl
        rotate_left
        · simp only [Act.put, List.setIfInBounds_toArray, List.set_cons_zero, List.set_cons_succ, i64_w, i32_w]
          rfl
        refine pure_ (i := 17) (N := some 55) (v := ?_) (a' := ?_) #[true, true, true, true, true, true, true, true, true, true, true, true, true, true, true, true, true, true, false, false, false, false, false, false, false, false, false, false, false, false, false, false, false, false, false, false, false, false, false, false, false, false, false, false, false, false, false, false, false, false, false] rfl rfl (by kernel_rfl) (fun _ _ _ h => h) (Or.inl ⟨by rfl, ?_⟩) ?_ ?_
        rotate_left
        · intro w'
          go_simp
          with_reducible rfl
        rotate_left
        · simp only [Act.put, List.setIfInBounds_toArray, List.set_cons_zero, List.set_cons_succ, i64_w, i32_w]
          rfl
        refine pure_ (i := 18) (N := some 56) (v := ?_) (a' := ?_) #[true, true, true, true, true, true, true, true, true, true, true, true, true, true, true, true, true, true, true, false, false, false, false, false, false, false, false, false, false, false, false, false, false, false, false, false, false, false, false, false, false, false, false, false, false, false, false, false, false, false, false] rfl rfl (by kernel_rfl) (fun _ _ _ h => h) (Or.inl ⟨by rfl, ?_⟩) ?_ ?_
        rotate_left
        · intro w'
          go_simp
          with_reducible rfl
        rotate_left
        · simp only [Act.put, List.setIfInBounds_toArray, List.set_cons_zero, List.set_cons_succ, i64_w, i32_w]
          rfl
        refine pure_ (i := 19) (N := some 57) (v := ?_) (a' := ?_) #[true, true, true, true, true, true, true, true, true, true, true, true, true, true, true, true, true, true, true, true, false, false, false, false, false, false, false, false, false, false, false, false, false, false, false, false, false, false, false, false, false, false, false, false, false, false, false, false, false, false, false] rfl rfl (by kernel_rfl) (fun _ _ _ h => h) (Or.inl ⟨by rfl, ?_⟩) ?_ ?_
        rotate_left
        · intro w'
          go_simp
          with_reducible rfl
        rotate_left
        · simp only [Act.put, List.setIfInBounds_toArray, List.set_cons_zero, List.set_cons_succ, i64_w, i32_w]
          rfl
        refine pure_ (i := 20) (N := some 58) (v := ?_) (a' := ?_) #[true, true, true, true, true, true, true, true, true, true, true, true, true, true, true, true, true, true, true, true, true, false, false, false, false, false, false, false, false, false, false, false, false, false, false, false, false, false, false, false, false, false, false, false, false, false, false, false, false, false, false] rfl rfl (by kernel_rfl) (fun _ _ _ h => h) (Or.inl ⟨by rfl, ?_⟩) ?_ ?_
        rotate_left
        · intro w'
          go_simp
          with_reducible rfl
        rotate_left
        · simp only [Act.put, List.setIfInBounds_toArray, List.set_cons_zero, List.set_cons_succ, i64_w, i32_w]
          rfl
        refine take_ (i := 21) (N := some 59) (v := ?_) (a' := ?_) #[true, true, true, true, true, true, true, true, true, true, true, true, true, true, true, true, true, true, true, true, true, true, false, false, false, false, false, false, false, false, false, false, false, false, false, false, false, false, false, false, false, false, false, false, false, false, false, false, false, false, false] rfl rfl (by kernel_rfl) (fun _ _ _ h => h) (Or.inl ⟨by rfl, ?_⟩) hHeld ?_ ?_
        rotate_left
        · rintro w' ⟨s0, s1, s2, s3, s4⟩
          go_simp
          with_reducible rfl
        rotate_left
        · simp only [Act.put, List.setIfInBounds_toArray, List.set_cons_zero, List.set_cons_succ, i64_w, i32_w]
          rfl
        refine pure_ (i := 22) (N := some 60) (v := .bool false) (a' := ?_) #[true, true, true, true, true, true, true, true, true, true, true, true, true, true, true, true, true, true, true, true, true, true, true, false, false, false, false, false, false, false, false, false, false, false, false, false, false, false, false, false, false, false, false, false, false, false, false, false, false, false, false] rfl rfl (by kernel_rfl) (fun _ _ _ h => h) (Or.inl ⟨by rfl, ?_⟩) ?_ ?_
        · intro w'
          go_simp
          first | done | with_reducible rfl | rfl | (simp; done)
        rotate_left
        · simp only [Act.put, List.setIfInBounds_toArray, List.set_cons_zero, List.set_cons_succ, i64_w, i32_w]
          rfl
        refine pure_ (i := 23) (N := some 61) (v := ?_) (a' := ?_) #[true, true, true, true, true, true, true, true, true, true, true, true, true, true, true, true, true, true, true, true, true, true, true, true, false, false, false, false, false, false, false, false, false, false, false, false, false, false, false, false, false, false, false, false, false, false, false, false, false, false, false] rfl rfl (by kernel_rfl) (fun _ _ _ h => h) (Or.inl ⟨by rfl, ?_⟩) ?_ ?_
        rotate_left
        · intro w'
          go_simp
          with_reducible rfl
        rotate_left
        · simp only [Act.put, List.setIfInBounds_toArray, List.set_cons_zero, List.set_cons_succ, i64_w, i32_w]
          rfl
        refine pure_ (i := 24) (N := some 62) (v := ?_) (a' := ?_) #[true, true, true, true, true, true, true, true, true, true, true, true, true, true, true, true, true, true, true, true, true, true, true, true, true, false, false, false, false, false, false, false, false, false, false, false, false, false, false, false, false, false, false, false, false, false, false, false, false, false, false] rfl rfl (by kernel_rfl) (fun _ _ _ h => h) (Or.inl ⟨by rfl, ?_⟩) ?_ ?_
        rotate_left
        · intro w'
          go_simp
          with_reducible rfl
        rotate_left
        · simp only [Act.put, List.setIfInBounds_toArray, List.set_cons_zero, List.set_cons_succ, i64_w, i32_w]
          rfl
        refine pure_ (i := 25) (N := some 63) (v := ?_) (a' := ?_) #[true, true, true, true, true, true, true, true, true, true, true, true, true, true, true, true, true, true, true, true, true, true, true, true, true, true, false, false, false, false, false, false, false, false, false, false, false, false, false, false, false, false, false, false, false, false, false, false, false, false, false] rfl rfl (by kernel_rfl) (fun _ _ _ h => h) (Or.inl ⟨by rfl, ?_⟩) ?_ ?_
        rotate_left
        · intro w'
          go_simp
          with_reducible rfl
        rotate_left
        · simp only [Act.put, List.setIfInBounds_toArray, List.set_cons_zero, List.set_cons_succ, i64_w, i32_w]
          rfl
        refine pure_ (i := 26) (N := some 64) (v := ?_) (a' := ?_) #[true, true, true, true, true, true, true, true, true, true, true, true, true, true, true, true, true, true, true, true, true, true, true, true, true, true, true, false, false, false, false, false, false, false, false, false, false, false, false, false, false, false, false, false, false, false, false, false, false, false, false] rfl rfl (by kernel_rfl) (fun _ _ _ h => h) (Or.inl ⟨by rfl, ?_⟩) ?_ ?_
        rotate_left
        · intro w'
          go_simp
          with_reducible rfl
        rotate_left
        · simp only [Act.put, List.setIfInBounds_toArray, List.set_cons_zero, List.set_cons_succ, i64_w, i32_w]
          rfl
        refine pure_ (i := 27) (N := some 65) (v := ?_) (a' := ?_) #[true, true, true, true, true, true, true, true, true, true, true, true, true, true, true, true, true, true, true, true, true, true, true, true, true, true, true, true, false, false, false, false, false, false, false, false, false, false, false, false, false, false, false, false, false, false, false, false, false, false, false] rfl rfl (by kernel_rfl) (fun _ _ _ h => h) (Or.inl ⟨by rfl, ?_⟩) ?_ ?_
        rotate_left
        · intro w'
          go_simp
          with_reducible rfl
        rotate_left
        · simp only [Act.put, List.setIfInBounds_toArray, List.set_cons_zero, List.set_cons_succ, i64_w, i32_w]
          rfl
        refine pure_ (i := 28) (N := some 66) (v := ?_) (a' := ?_) #[true, true, true, true, true, true, true, true, true, true, true, true, true, true, true, true, true, true, true, true, true, true, true, true, true, true, true, true, true, false, false, false, false, false, false, false, false, false, false, false, false, false, false, false, false, false, false, false, false, false, false] rfl rfl (by kernel_rfl) (fun _ _ _ h => h) (Or.inl ⟨by rfl, ?_⟩) ?_ ?_
        rotate_left
        · intro w'
          go_simp
          with_reducible rfl
        rotate_left
        · simp only [Act.put, List.setIfInBounds_toArray, List.set_cons_zero, List.set_cons_succ, i64_w, i32_w]
          rfl
        refine take_ (i := 29) (N := some 67) (v := ?_) (a' := ?_) #[true, true, true, true, true, true, true, true, true, true, true, true, true, true, true, true, true, true, true, true, true, true, true, true, true, true, true, true, true, true, false, false, false, false, false, false, false, false, false, false, false, false, false, false, false, false, false, false, false, false, false] rfl rfl (by kernel_rfl) (fun _ _ _ h => h) (Or.inl ⟨by rfl, ?_⟩) hHeld ?_ ?_
        rotate_left
        · rintro w' ⟨s0, s1, s2, s3, s4⟩
          go_simp
          with_reducible rfl
        rotate_left
        · simp only [Act.put, List.setIfInBounds_toArray, List.set_cons_zero, List.set_cons_succ, i64_w, i32_w]
          rfl
        refine pure_ (i := 30) (N := some 68) (v := .bool false) (a' := ?_) #[true, true, true, true, true, true, true, true, true, true, true, true, true, true, true, true, true, true, true, true, true, true, true, true, true, true, true, true, true, true, true, false, false, false, false, false, false, false, false, false, false, false, false, false, false, false, false, false, false, false, false] rfl rfl (by kernel_rfl) (fun _ _ _ h => h) (Or.inl ⟨by rfl, ?_⟩) ?_ ?_
        · intro w'
          go_simp
          first | done | with_reducible rfl | rfl | (simp; done)
        rotate_left
        · simp only [Act.put, List.setIfInBounds_toArray, List.set_cons_zero, List.set_cons_succ, i64_w, i32_w]
          rfl
        refine pure_ (i := 31) (N := some 69) (v := ?_) (a' := ?_) #[true, true, true, true, true, true, true, true, true, true, true, true, true, true, true, true, true, true, true, true, true, true, true, true, true, true, true, true, true, true, true, true, false, false, false, false, false, false, false, false, false, false, false, false, false, false, false, false, false, false, false] rfl rfl (by kernel_rfl) (fun _ _ _ h => h) (Or.inl ⟨by rfl, ?_⟩) ?_ ?_
        rotate_left
        · intro w'
          go_simp
          with_reducible rfl
        rotate_left
        · simp only [Act.put, List.setIfInBounds_toArray, List.set_cons_zero, List.set_cons_succ, i64_w, i32_w]
          rfl
        refine pure_ (i := 32) (N := some 70) (v := ?_) (a' := ?_) #[true, true, true, true, true, true, true, true, true, true, true, true, true, true, true, true, true, true, true, true, true, true, true, true, true, true, true, true, true, true, true, true, true, false, false, false, false, false, false, false, false, false, false, false, false, false, false, false, false, false, false] rfl rfl (by kernel_rfl) (fun _ _ _ h => h) (Or.inl ⟨by rfl, ?_⟩) ?_ ?_
        rotate_left
        · intro w'
          go_simp
          with_reducible rfl
        rotate_left
        · simp only [Act.put, List.setIfInBounds_toArray, List.set_cons_zero, List.set_cons_succ, i64_w, i32_w]
          rfl
        refine pure_ (i := 33) (N := some 71) (v := ?_) (a' := ?_) #[true, true, true, true, true, true, true, true, true, true, true, true, true, true, true, true, true, true, true, true, true, true, true, true, true, true, true, true, true, true, true, true, true, true, false, false, false, false, false, false, false, false, false, false, false, false, false, false, false, false, false] rfl rfl (by kernel_rfl) (fun _ _ _ h => h) (Or.inl ⟨by rfl, ?_⟩) ?_ ?_
        rotate_left
        · intro w'
          go_simp
          with_reducible rfl
        rotate_left
        · simp only [Act.put, List.setIfInBounds_toArray, List.set_cons_zero, List.set_cons_succ, i64_w, i32_w]
          rfl
        refine pure_ (i := 34) (N := some 72) (v := ?_) (a' := ?_) #[true, true, true, true, true, true, true, true, true, true, true, true, true, true, true, true, true, true, true, true, true, true, true, true, true, true, true, true, true, true, true, true, true, true, true, false, false, false, false, false, false, false, false, false, false, false, false, false, false, false, false] rfl rfl (by kernel_rfl) (fun _ _ _ h => h) (Or.inl ⟨by rfl, ?_⟩) ?_ ?_
        rotate_left
        · intro w'
          go_simp
          with_reducible rfl
        rotate_left
        · simp only [Act.put, List.setIfInBounds_toArray, List.set_cons_zero, List.set_cons_succ, i64_w, i32_w]
          rfl
        refine pure_ (i := 35) (N := some 73) (v := ?_) (a' := ?_) #[true, true, true, true, true, true, true, true, true, true, true, true, true, true, true, true, true, true, true, true, true, true, true, true, true, true, true, true, true, true, true, true, true, true, true, true, false, false, false, false, false, false, false, false, false, false, false, false, false, false, false] rfl rfl (by kernel_rfl) (fun _ _ _ h => h) (Or.inl ⟨by rfl, ?_⟩) ?_ ?_
        rotate_left
        · intro w'
          go_simp
          with_reducible rfl
        rotate_left
        · simp only [Act.put, List.setIfInBounds_toArray, List.set_cons_zero, List.set_cons_succ, i64_w, i32_w]
          rfl
        refine pure_ (i := 36) (N := some 74) (v := ?_) (a' := ?_) #[true, true, true, true, true, true, true, true, true, true, true, true, true, true, true, true, true, true, true, true, true, true, true, true, true, true, true, true, true, true, true, true, true, true, true, true, true, false, false, false, false, false, false, false, false, false, false, false, false, false, false] rfl rfl (by kernel_rfl) (fun _ _ _ h => h) (Or.inl ⟨by rfl, ?_⟩) ?_ ?_
        rotate_left
        · intro w'
          go_simp
          with_reducible rfl
        rotate_left
        · simp only [Act.put, List.setIfInBounds_toArray, List.set_cons_zero, List.set_cons_succ, i64_w, i32_w]
          rfl
        refine take_ (i := 37) (N := some 75) (v := ?_) (a' := ?_) #[true, true, true, true, true, true, true, true, true, true, true, true, true, true, true, true, true, true, true, true, true, true, true, true, true, true, true, true, true, true, true, true, true, true, true, true, true, true, false, false, false, false, false, false, false, false, false, false, false, false, false] rfl rfl (by kernel_rfl) (fun _ _ _ h => h) (Or.inl ⟨by rfl, ?_⟩) hHeld ?_ ?_
        rotate_left
        · rintro w' ⟨s0, s1, s2, s3, s4⟩
          go_simp
          with_reducible rfl
        rotate_left
        · simp only [Act.put, List.setIfInBounds_toArray, List.set_cons_zero, List.set_cons_succ, i64_w, i32_w]
          rfl
        refine pure_ (i := 38) (N := some 76) (v := .bool false) (a' := ?_) #[true, true, true, true, true, true, true, true, true, true, true, true, true, true, true, true, true, true, true, true, true, true, true, true, true, true, true, true, true, true, true, true, true, true, true, true, true, true, true, false, false, false, false, false, false, false, false, false, false, false, false] rfl rfl (by kernel_rfl) (fun _ _ _ h => h) (Or.inl ⟨by rfl, ?_⟩) ?_ ?_
        · intro w'
          go_simp
          first | done | with_reducible rfl | rfl | (simp; done)
        rotate_left
        · simp only [Act.put, List.setIfInBounds_toArray, List.set_cons_zero, List.set_cons_succ, i64_w, i32_w]
          rfl
        refine pure_ (i := 39) (N := some 77) (v := ?_) (a' := ?_) #[true, true, true, true, true, true, true, true, true, true, true, true, true, true, true, true, true, true, true, true, true, true, true, true, true, true, true, true, true, true, true, true, true, true, true, true, true, true, true, true, false, false, false, false, false, false, false, false, false, false, false] rfl rfl (by kernel_rfl) (fun _ _ _ h => h) (Or.inl ⟨by rfl, ?_⟩) ?_ ?_
        rotate_left
        · intro w'
          go_simp
          with_reducible rfl
        rotate_left
        · simp only [Act.put, List.setIfInBounds_toArray, List.set_cons_zero, List.set_cons_succ, i64_w, i32_w]
          rfl
        refine pure_ (i := 40) (N := some 78) (v := ?_) (a' := ?_) #[true, true, true, true, true, true, true, true, true, true, true, true, true, true, true, true, true, true, true, true, true, true, true, true, true, true, true, true, true, true, true, true, true, true, true, true, true, true, true, true, true, false, false, false, false, false, false, false, false, false, false] rfl rfl (by kernel_rfl) (fun _ _ _ h => h) (Or.inl ⟨by rfl, ?_⟩) ?_ ?_
        rotate_left
        · intro w'
          go_simp
          with_reducible rfl
        rotate_left
        · simp only [Act.put, List.setIfInBounds_toArray, List.set_cons_zero, List.set_cons_succ, i64_w, i32_w]
          rfl
        refine pure_ (i := 41) (N := some 79) (v := ?_) (a' := ?_) #[true, true, true, true, true, true, true, true, true, true, true, true, true, true, true, true, true, true, true, true, true, true, true, true, true, true, true, true, true, true, true, true, true, true, true, true, true, true, true, true, true, true, false, false, false, false, false, false, false, false, false] rfl rfl (by kernel_rfl) (fun _ _ _ h => h) (Or.inl ⟨by rfl, ?_⟩) ?_ ?_
        rotate_left
        · intro w'
          go_simp
          with_reducible rfl
        rotate_left
        · simp only [Act.put, List.setIfInBounds_toArray, List.set_cons_zero, List.set_cons_succ, i64_w, i32_w]
          rfl
        refine pure_ (i := 42) (N := some 80) (v := ?_) (a' := ?_) #[true, true, true, true, true, true, true, true, true, true, true, true, true, true, true, true, true, true, true, true, true, true, true, true, true, true, true, true, true, true, true, true, true, true, true, true, true, true, true, true, true, true, true, false, false, false, false, false, false, false, false] rfl rfl (by kernel_rfl) (fun _ _ _ h => h) (Or.inl ⟨by rfl, ?_⟩) ?_ ?_
        rotate_left
        · intro w'
          go_simp
          with_reducible rfl
        rotate_left
        · simp only [Act.put, List.setIfInBounds_toArray, List.set_cons_zero, List.set_cons_succ, i64_w, i32_w]
          rfl
        refine take_ (i := 43) (N := some 81) (v := ?_) (a' := ?_) #[true, true, true, true, true, true, true, true, true, true, true, true, true, true, true, true, true, true, true, true, true, true, true, true, true, true, true, true, true, true, true, true, true, true, true, true, true, true, true, true, true, true, true, true, false, false, false, false, false, false, false] rfl rfl (by kernel_rfl) (fun _ _ _ h => h) (Or.inl ⟨by rfl, ?_⟩) hHeld ?_ ?_
        rotate_left
        · rintro w' ⟨s0, s1, s2, s3, s4⟩
          go_simp
          with_reducible rfl
        rotate_left
        · simp only [Act.put, List.setIfInBounds_toArray, List.set_cons_zero, List.set_cons_succ, i64_w, i32_w]
          rfl
        refine pure_ (i := 45) (N := some 83) (v := ?_) (a' := ?_) #[true, true, true, true, true, true, true, true, true, true, true, true, true, true, true, true, true, true, true, true, true, true, true, true, true, true, true, true, true, true, true, true, true, true, true, true, true, true, true, true, true, true, true, true, false, true, false, false, false, false, false] rfl rfl (by kernel_rfl) (fun _ _ _ h => h) (Or.inl ⟨by rfl, ?_⟩) ?_ ?_
        rotate_left
        · intro w'
          go_simp
          with_reducible rfl
        rotate_left
        · simp only [Act.put, List.setIfInBounds_toArray, List.set_cons_zero, List.set_cons_succ, i64_w, i32_w]
          rfl
        refine pure_ (i := 46) (N := some 84) (v := ?_) (a' := ?_) #[true, true, true, true, true, true, true, true, true, true, true, true, true, true, true, true, true, true, true, true, true, true, true, true, true, true, true, true, true, true, true, true, true, true, true, true, true, true, true, true, true, true, true, true, false, true, true, false, false, false, false] rfl rfl (by kernel_rfl) (fun _ _ _ h => h) (Or.inl ⟨by rfl, ?_⟩) ?_ ?_
        rotate_left
        · intro w'
          go_simp
          with_reducible rfl
        rotate_left
        · simp only [Act.put, List.setIfInBounds_toArray, List.set_cons_zero, List.set_cons_succ, i64_w, i32_w]
          rfl
        refine take_ (i := 47) (N := some 85) (v := ?_) (a' := ?_) #[true, true, true, true, true, true, true, true, true, true, true, true, true, true, true, true, true, true, true, true, true, true, true, true, true, true, true, true, true, true, true, true, true, true, true, true, true, true, true, true, true, true, true, true, false, true, true, true, false, false, false] rfl rfl (by kernel_rfl) (fun _ _ _ h => h) (Or.inl ⟨by rfl, ?_⟩) hHeld ?_ ?_
        rotate_left
        · rintro w' ⟨s0, s1, s2, s3, s4⟩
          go_simp
          with_reducible rfl
        rotate_left
        · simp only [Act.put, List.setIfInBounds_toArray, List.set_cons_zero, List.set_cons_succ, i64_w, i32_w]
          rfl
        refine one_ (i := 44) (N := some 82) #[true, true, true, true, true, true, true, true, true, true, true, true, true, true, true, true, true, true, true, true, true, true, true, true, true, true, true, true, true, true, true, true, true, true, true, true, true, true, true, true, true, true, true, true, true, true, true, true, false, false, false] rfl rfl (by kernel_rfl) (by decide) (fun K hK => ?_)
        refine (goes_ Try.func28 (by kernel_rfl) rfl #[.pointer (some ⟨g, 0, none⟩), .bool d2] (by rfl) rfl rfl (by (try simp only [List.map_toArray, List.map_cons, List.map_nil]); first | done | rfl) ?_)
        (with_reducible refine (HN.out _ _ HS9.out).mono ?_)
        rintro e w10 ⟨rfl, hb⟩
        refine ⟨_, rfl, ?_⟩
        have HS10 := Aside0.mk (show StkP w10 w.heap.size g v5 a' b' c' l' from stk_below HS9.out hb)
        have HX10 := Aside0.mk (show StkX w10 w.heap.size gx (.slice Ax n' capx) a' b' c' l' from stk_below HX9.out hb)
        have BX10 := Aside0.mk (blk_below BX9.out hb)
        have HB10 := Aside0.mk (below_step HB9.out hb)
        clear hb
        refine hK.out _ _ ⟨(blk_cell HX10.out.1 0).trans rfl, (blk_cell HX10.out.1 1).trans rfl, (blk_cell HX10.out.1 2).trans rfl, (blk_cell HX10.out.1 3).trans rfl, (blk_cell BX10.out 2).trans rfl⟩ (fun hHeld => ?_)
        clear hK K
        refine norm_ (a' := ?_) ?_ ?_
        rotate_left
        · show Act.put _ (some 82) _ = _
          simp only [Act.put, List.setIfInBounds_toArray, List.set_cons_zero, List.set_cons_succ, i64_w, i32_w]
          rfl
        refine one_ (i := 48) (N := some 86) #[true, true, true, true, true, true, true, true, true, true, true, true, true, true, true, true, true, true, true, true, true, true, true, true, true, true, true, true, true, true, true, true, true, true, true, true, true, true, true, true, true, true, true, true, true, true, true, true, true, false, false] rfl rfl (by kernel_rfl) (by decide) (fun K hK => ?_)
        refine (goes_ Try.func29 (by kernel_rfl) rfl #[.pointer (some ⟨gx, 0, none⟩), .bool d2] (by rfl) rfl rfl (by (try simp only [List.map_toArray, List.map_cons, List.map_nil]); first | done | rfl) ?_)
        (with_reducible refine (HNX.out _ _ HX10.out).mono ?_)
        rintro e w11 ⟨rfl, hb⟩
        refine ⟨_, rfl, ?_⟩
        have HS11 := Aside0.mk (show StkP w11 w.heap.size g v5 a' b' c' l' from stk_below HS10.out hb)
        have HX11 := Aside0.mk (show StkX w11 w.heap.size gx (.slice Ax n' capx) a' b' c' l' from stk_below HX10.out hb)
        have BX11 := Aside0.mk (blk_below BX10.out hb)
        have HB11 := Aside0.mk (below_step HB10.out hb)
        clear hb
        refine hK.out _ _ ⟨(blk_cell HX11.out.1 0).trans rfl, (blk_cell HX11.out.1 1).trans rfl, (blk_cell HX11.out.1 2).trans rfl, (blk_cell HX11.out.1 3).trans rfl, (blk_cell BX11.out 2).trans rfl⟩ (fun hHeld => ?_)
        clear hK K
        refine norm_ (a' := ?_) ?_ ?_
        rotate_left
        · show Act.put _ (some 86) _ = _
          simp only [Act.put, List.setIfInBounds_toArray, List.set_cons_zero, List.set_cons_succ, i64_w, i32_w]
          rfl
        refine pure_ (i := 49) (N := some 87) (v := .bool false) (a' := ?_) #[true, true, true, true, true, true, true, true, true, true, true, true, true, true, true, true, true, true, true, true, true, true, true, true, true, true, true, true, true, true, true, true, true, true, true, true, true, true, true, true, true, true, true, true, true, true, true, true, true, true, false] rfl rfl (by kernel_rfl) (fun _ _ _ h => h) (Or.inl ⟨by rfl, ?_⟩) ?_ ?_
        · intro w'
          go_simp
          first | done | with_reducible rfl | rfl | (simp; done)
        rotate_left
        · simp only [Act.put, List.setIfInBounds_toArray, List.set_cons_zero, List.set_cons_succ, i64_w, i32_w]
          rfl
        refine pure_ (i := 50) (N := some 88) (v := ?_) (a' := ?_) #[true, true, true, true, true, true, true, true, true, true, true, true, true, true, true, true, true, true, true, true, true, true, true, true, true, true, true, true, true, true, true, true, true, true, true, true, true, true, true, true, true, true, true, true, true, true, true, true, true, true, true] rfl rfl (by kernel_rfl) (fun _ _ _ h => h) (Or.inl ⟨by rfl, ?_⟩) ?_ ?_
        rotate_left
        · intro w'
          go_simp
          with_reducible rfl
        rotate_left
        · simp only [Act.put, List.setIfInBounds_toArray, List.set_cons_zero, List.set_cons_succ, i64_w, i32_w]
          rfl
        refine done_ (by kernel_rfl) ?_
        go_wp2
        go_roundg (q.length - (i + 1))
        case measure => have := HI.out; have := HLT.out; omega
        case rel => exact ⟨i + 1, v5, .slice Ax n' capx, a', b', c', l', by first | rfl | go_num | rw [hw], ⟨by have := HLT.out; omega, rfl, HBD.out.1, by have := HBD.out; have := HI.out; omega, HBD.out.2.2.1, by have := HBD.out; have := HI.out; omega⟩, HS11, HX11, HG', HB11⟩
    · have b0 : decide ((i : Int) < (q.length : Int)) = false := decide_eq_false (by omega)
      have b1 : decide (i < q.length) = false := decide_eq_false hlt
      clear hlt
      go_wp2_with (first | (go_at_call 22; (with_reducible refine (p_awake _).mono ?_); rintro e w9 ⟨rfl, hb⟩; have HB9 := Aside0.mk (below_step HB.out hb); clear hb))
      go_ret
      exact ⟨by first | rfl | simp [*], HB9.out⟩
end Go.Proofs.Ytimkacnkmoofdaa.Stk
