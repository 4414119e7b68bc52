/- What begins within limits, and ends, leaves the stack as it was. No condition. -/
import Derived.Test.YtimkacnkmoofdaaStkL4
namespace Go.Proofs.Ytimkacnkmoofdaa.Stk
open Go.RowKit Go.Proofs.YtimkacnkmoofdaaW.PrintWords Go.Proofs.YtimkacnkmoofdaaW.PrintLast Go.Proofs.YtimkacnkmoofdaaW.PrintMore
attribute [local go_sem] max2_int min2_int max_two min_two max_three min_three max_four min_four   -- for this text's walks alone
set_option linter.unusedVariables false
set_option linter.unusedSimpArgs false
attribute [local go_sem high] eqAE
theorem popE_snoc {l : List Ent} (h : 0 < l.length) (x : Ent) : popE (l ++ [x]) = l := by
  unfold popE
  rw [if_pos (by simp; omega)]
  simp
theorem w1 : wrap64 (0 + 1) = 1 := by unfold wrap64; omega
theorem wz : wrap64 (1 - 1) = 0 := by unfold wrap64; omega
theorem back_iso {b : Int} {l : List Ent} (hG : Good l) (h0 : 0 ≤ b) (r : Bool) : eiA (isoA 0 b l r) = 0 ∧ eiB (isoA 0 b l r) b (isoC 0 b 0 l r) = b ∧ eiC (isoA 0 b l r) (isoC 0 b 0 l r) = 0 ∧ eiL (isoA 0 b l r) (isoC 0 b 0 l r) (isoL 0 b l r) = l := by
  unfold isoA isoC isoL
  cases hok : okB 0 b l r with
  | true =>
    have hb : b = 0 := by
      unfold okB at hok
      simp at hok
      omega
    simp only [if_true, eq_self, w1]
    refine ⟨by unfold eiA; rw [if_neg (by decide)], by unfold eiB; rw [hb, if_neg (by decide), if_pos (by decide)], by unfold eiC; rw [if_neg (by decide), if_pos (by decide), wz], ?_⟩
    unfold eiL
    rw [if_neg (by decide), if_pos (by decide)]
    have hd : ∀ n, dropI (n + 1) (l ++ [⟨nextL r (topE l).lv, 13, true⟩]) = l ++ [⟨nextL r (topE l).lv, 13, true⟩] := fun n => by rw [dropI, if_pos (by rw [topE_snoc])]
    rw [List.length_append, List.length_singleton, hd]
    exact popE_snoc hG.1 _
  | false =>
    simp only [Bool.false_eq_true, if_false, w1]
    exact ⟨by unfold eiA; rw [if_pos (by decide), wz], by unfold eiB; rw [if_pos (by decide)], by unfold eiC; rw [if_pos (by decide)], by unfold eiL; rw [if_pos (by decide)]⟩
theorem back_emb {b : Int} {l : List Ent} (hG : Good l) (h0 : 0 ≤ b) (h1 : b ≤ 200) (r : Bool) (ov : Int) : eeB 0 (embB 0 b l r) = b ∧ eeL 0 (embB 0 b l r) (embL 0 b l r ov) = l := by
  unfold embB embL
  cases hok : okB 0 b l r with
  | true =>
    have hb : b = 0 := by
      unfold okB at hok
      simp at hok
      omega
    simp only [if_true, eq_self]
    refine ⟨by unfold eeB; rw [hb, if_neg (by decide), if_neg (by decide)], ?_⟩
    unfold eeL
    rw [if_neg (by decide), if_neg (by omega), if_neg (by rw [topE_snoc]; simp)]
    exact popE_snoc hG.1 _
  | false =>
    simp only [Bool.false_eq_true, if_false, if_true, eq_self]
    have e : wrap64 (b + 1) = b + 1 := by unfold wrap64; omega
    rw [e]
    refine ⟨?_, by unfold eeL; rw [if_neg (by decide), if_pos (by omega)]⟩
    unfold eeB
    rw [if_neg (by decide), if_pos (by omega), show b + 1 - 1 = b by omega]
    unfold wrap64
    omega
theorem embB_bd {b : Int} {l : List Ent} (h0 : 0 ≤ b) (h1 : b < 200) (r : Bool) : 0 ≤ embB 0 b l r ∧ embB 0 b l r ≤ b + 1 := by
  unfold embB
  split
  · omega
  · rw [if_pos rfl]
    have e : wrap64 (b + 1) = b + 1 := by unfold wrap64; omega
    rw [e]; omega
set_option maxHeartbeats 40000000 in
set_option maxRecDepth 100000 in
theorem back_walk (n0 : Int) (A : Option Addr) (cap : Nat) (q : List DoE) (right isolate : Bool) (w : World) (hQ : Kd.C kD w A q.length q) (hcap : q.length ≤ cap) (hm : q.length ≤ maxLen) :
    Calls Try.prog 5 #[.int .i64 n0, .slice A q.length cap, .bool right, .bool isolate] w fun e w' => e = .returned (.bool true) ∧ Below w.heap.size w w' := by
  unfold maxLen at hm
  have HQ := Aside0.mk hQ
  have HLM := Aside0.mk hm
  have hud := Try.underlying26
  have hue := Try.underlying28
  clear hQ hm
  go_enter Try.func5, Try.ntmps5
  go_wp2_with (first | (go_at_call 15; (with_reducible refine (p_new n0 w).mono ?_); rintro e w1 ⟨g, v, rfl, hS, hg, hb⟩; have HS1 := Aside0.mk hS; have HB1 := Aside0.mk hb; clear hS hg hb))
  go_loopg [26] q.length (fun kq v26 w' => ∃ (i : Nat) (v : Value) (b : Int) (l : List Ent), v26 = .int .i64 (i : Int) ∧ Aside0 (i ≤ q.length ∧ q.length - i = kq ∧ 0 ≤ b ∧ b ≤ (i : Int) ∧ b ≤ 200) ∧ Aside0 (StkP w' w.heap.size g v 0 b 0 l) ∧ Aside0 (Good l) ∧ Aside0 (Below w.heap.size w w'))
  case atStart => exact ⟨0, v, 0, _, rfl, ⟨Nat.zero_le _, rfl, by omega, by omega, by omega⟩, HS1, ⟨Good.new n0⟩, HB1⟩
  case round =>
    clear HS1 HB1
    obtain ⟨i, v, b, l, rfl, HI, HS, HGD, HB⟩ := hrel
    by_cases hlt : i < q.length
    · have b0 : decide ((i : Int) < (q.length : Int)) = true := decide_eq_true (by omega)
      have b1 : decide (i < q.length) = true := decide_eq_true hlt
      have hm1 : (i : Int) + 1 ≤ 9223372036854775807 := by have := HLM.out; omega
      have hw := (show wrap64 ((i : Int) + 1) = ((i + 1 : Nat) : Int) by unfold wrap64; omega)
      obtain ⟨ad, ea, hq⟩ := at_D (Kd.C_below HQ.out HB.out) i hlt
      subst ea
      generalize (q.getD i zD).op = d0 at hq
      generalize (q.getD i zD).n = d1 at hq
      generalize (q.getD i zD).right = d2 at hq
      generalize (q.getD i zD).ov = d3 at hq
      have hi0 : (0 : Int) ≤ (i : Int) := by omega
      have hi1 : (i : Int) < (q.length : Int) := by omega
      replace hi0 := eq_true hi0
      replace hi1 := eq_true hi1
      have hi2 : (i < q.length) = True := eq_true hlt
      have HLT := Aside0.mk hlt
      clear hlt hm1
      by_cases h4 : i < 200
      · have b4 : decide ((i : Int) < 200) = true := decide_eq_true (by omega)
        have b5 : decide (i < 200) = true := decide_eq_true h4
        have H4 := Aside0.mk h4
        clear h4
        by_cases h8 : d0 < 8
        · have b6 : decide (d0 < 8) = true := decide_eq_true h8
          clear h8
          go_wp2_with (first | ((with_reducible refine gate_dst (N := 11) rfl ?_); refine box_event ?hg (N := 11) ?hd (cs := #[.int .i64 0, .int .i64 0, .bool false, .int .i64 0]) (t := 26) ?hr ?_; (case hd => rfl); (case hg => rfl); (case hr => first | (go_simp; done) | (go_simp; rfl)); intro g7 hg w2 hbox hb; have BX := Aside0.mk hbox; have HG7 := Aside0.mk (show wr.heap.size ≤ g7 by omega); have HBR := Aside0.mk hb; have HQ2 := Aside0.mk (show w2.cell? (ad.add (i * 4)) = some (.int .i64 d0) ∧ w2.cell? ⟨(ad.add (i * 4)).block, (ad.add (i * 4)).off + 1, none⟩ = some (.int .i64 d1) ∧ w2.cell? ⟨(ad.add (i * 4)).block, (ad.add (i * 4)).off + 2, none⟩ = some (.bool d2) ∧ w2.cell? ⟨(ad.add (i * 4)).block, (ad.add (i * 4)).off + 3, none⟩ = some (.int .i64 d3) from ⟨pw_cell_below hb hq.1, pw_cell_below hb hq.2.1, pw_cell_below hb hq.2.2.1, pw_cell_below hb hq.2.2.2⟩); have hn0 := blk_frozen BX.out 0; have hn1 := blk_frozen BX.out 1; have hn2 := blk_frozen BX.out 2; have hn3 := blk_frozen BX.out 3; have hb0 := (blk_cell BX.out 0).trans rfl; have hb1 := (blk_cell BX.out 1).trans rfl; have hb2 := (blk_cell BX.out 2).trans rfl; have hb3 := (blk_cell BX.out 3).trans rfl; have hq0 := HQ2.out.1; have hq1 := HQ2.out.2.1; have hq2 := HQ2.out.2.2.1; have hq3 := HQ2.out.2.2.2; clear hg hbox hb) | ((with_reducible refine gate_store (t := 26) (p := 11) rfl ?_); refine store_event (t := 26) (p := 11) (v := .tmp 30) (w1 := (((w2.setCell ⟨g7, 0, none⟩ (.int .i64 d0)).setCell ⟨g7, 1, none⟩ (.int .i64 d1)).setCell ⟨g7, 2, none⟩ (.bool d2)).setCell ⟨g7, 3, none⟩ (.int .i64 d3)) ?hg ?ho ?hn ?hr ?_; (case ho => rfl); (case hg => rfl); (case hn => rfl); (case hr => first | (go_simp; done) | (go_simp; rfl)); intro w3 hw; have BX3 := Aside0.mk (show w3.heap[g7]? = some (.cells #[.int .i64 d0, .int .i64 d1, .bool d2, .int .i64 d3] 26 (0, 0)) by rw [hw]; refine blk_put (cs := #[.int .i64 d0, .int .i64 d1, .bool d2, .int .i64 0]) ?_ 3 _ rfl; refine blk_put (cs := #[.int .i64 d0, .int .i64 d1, .bool false, .int .i64 0]) ?_ 2 _ rfl; refine blk_put (cs := #[.int .i64 d0, .int .i64 0, .bool false, .int .i64 0]) ?_ 1 _ rfl; exact blk_put BX.out 0 _ rfl); have HMB := Aside0.mk (show Below wr.heap.size wr w3 by rw [hw]; exact below_set (below_set (below_set (below_set HBR.out HG7.out) HG7.out) HG7.out) HG7.out); have HS3 := Aside0.mk (show StkP w3 w.heap.size g v 0 b 0 l from stk_below HS.out HMB.out); have HB3 := Aside0.mk (below_step HB.out HMB.out); clear hw hq0 hq1 hq2 hq3 hn0 hn1 hn2 hn3 hb0 hb1 hb2 hb3 HQ2 BX hq; have hx0 := (blk_cell BX3.out 0).trans rfl; have hx1 := (blk_cell BX3.out 1).trans rfl; have hx2 := (blk_cell BX3.out 2).trans rfl; have hx3 := (blk_cell BX3.out 3).trans rfl) | (go_at_call 18; (with_reducible refine (p_embed HS3.out HGD.out d2 13).mono ?_); rintro e w5 ⟨v5, rfl, hS, hM⟩; have HS5 := Aside0.mk hS; have HB5 := Aside0.mk (HB3.out.trans (hM.below HS3.out)); clear hS hM))
          go_roundg (q.length - (i + 1))
          case measure => have := HI.out; have := HLT.out; omega
          case rel => exact ⟨i + 1, v5, _, _, by first | rfl | go_num | rw [hw], ⟨by have := HLT.out; omega, rfl, by have := embB_bd (l := l) HI.out.2.2.1 (by have := HI.out; have := H4.out; omega) d2; omega, by have := embB_bd (l := l) HI.out.2.2.1 (by have := HI.out; have := H4.out; omega) d2; have := HI.out; omega, by have := embB_bd (l := l) HI.out.2.2.1 (by have := HI.out; have := H4.out; omega) d2; have := HI.out; have := H4.out; omega⟩, HS5, ⟨(Went.emb HGD.out d2 13).1⟩, HB5⟩
        · have b6 : decide (d0 < 8) = false := decide_eq_false h8
          clear h8
          go_wp2_with (first | ((with_reducible refine gate_dst (N := 11) rfl ?_); refine box_event ?hg (N := 11) ?hd (cs := #[.int .i64 0, .int .i64 0, .bool false, .int .i64 0]) (t := 26) ?hr ?_; (case hd => rfl); (case hg => rfl); (case hr => first | (go_simp; done) | (go_simp; rfl)); intro g7 hg w2 hbox hb; have BX := Aside0.mk hbox; have HG7 := Aside0.mk (show wr.heap.size ≤ g7 by omega); have HBR := Aside0.mk hb; have HQ2 := Aside0.mk (show w2.cell? (ad.add (i * 4)) = some (.int .i64 d0) ∧ w2.cell? ⟨(ad.add (i * 4)).block, (ad.add (i * 4)).off + 1, none⟩ = some (.int .i64 d1) ∧ w2.cell? ⟨(ad.add (i * 4)).block, (ad.add (i * 4)).off + 2, none⟩ = some (.bool d2) ∧ w2.cell? ⟨(ad.add (i * 4)).block, (ad.add (i * 4)).off + 3, none⟩ = some (.int .i64 d3) from ⟨pw_cell_below hb hq.1, pw_cell_below hb hq.2.1, pw_cell_below hb hq.2.2.1, pw_cell_below hb hq.2.2.2⟩); have hn0 := blk_frozen BX.out 0; have hn1 := blk_frozen BX.out 1; have hn2 := blk_frozen BX.out 2; have hn3 := blk_frozen BX.out 3; have hb0 := (blk_cell BX.out 0).trans rfl; have hb1 := (blk_cell BX.out 1).trans rfl; have hb2 := (blk_cell BX.out 2).trans rfl; have hb3 := (blk_cell BX.out 3).trans rfl; have hq0 := HQ2.out.1; have hq1 := HQ2.out.2.1; have hq2 := HQ2.out.2.2.1; have hq3 := HQ2.out.2.2.2; clear hg hbox hb) | ((with_reducible refine gate_store (t := 26) (p := 11) rfl ?_); refine store_event (t := 26) (p := 11) (v := .tmp 30) (w1 := (((w2.setCell ⟨g7, 0, none⟩ (.int .i64 d0)).setCell ⟨g7, 1, none⟩ (.int .i64 d1)).setCell ⟨g7, 2, none⟩ (.bool d2)).setCell ⟨g7, 3, none⟩ (.int .i64 d3)) ?hg ?ho ?hn ?hr ?_; (case ho => rfl); (case hg => rfl); (case hn => rfl); (case hr => first | (go_simp; done) | (go_simp; rfl)); intro w3 hw; have BX3 := Aside0.mk (show w3.heap[g7]? = some (.cells #[.int .i64 d0, .int .i64 d1, .bool d2, .int .i64 d3] 26 (0, 0)) by rw [hw]; refine blk_put (cs := #[.int .i64 d0, .int .i64 d1, .bool d2, .int .i64 0]) ?_ 3 _ rfl; refine blk_put (cs := #[.int .i64 d0, .int .i64 d1, .bool false, .int .i64 0]) ?_ 2 _ rfl; refine blk_put (cs := #[.int .i64 d0, .int .i64 0, .bool false, .int .i64 0]) ?_ 1 _ rfl; exact blk_put BX.out 0 _ rfl); have HMB := Aside0.mk (show Below wr.heap.size wr w3 by rw [hw]; exact below_set (below_set (below_set (below_set HBR.out HG7.out) HG7.out) HG7.out) HG7.out); have HS3 := Aside0.mk (show StkP w3 w.heap.size g v 0 b 0 l from stk_below HS.out HMB.out); have HB3 := Aside0.mk (below_step HB.out HMB.out); clear hw hq0 hq1 hq2 hq3 hn0 hn1 hn2 hn3 hb0 hb1 hb2 hb3 HQ2 BX hq; have hx0 := (blk_cell BX3.out 0).trans rfl; have hx1 := (blk_cell BX3.out 1).trans rfl; have hx2 := (blk_cell BX3.out 2).trans rfl; have hx3 := (blk_cell BX3.out 3).trans rfl))
          go_roundg (q.length - (i + 1))
          case measure => have := HI.out; have := HLT.out; omega
          case rel => exact ⟨i + 1, v, b, l, by first | rfl | go_num | rw [hw], ⟨by have := HLT.out; omega, rfl, HI.out.2.2.1, by have := HI.out; omega, HI.out.2.2.2.2⟩, HS3, HGD, HB3⟩
      · have b4 : decide ((i : Int) < 200) = false := decide_eq_false (by omega)
        have b5 : decide (i < 200) = false := decide_eq_false h4
        clear h4
        go_wp2_with (first | ((with_reducible refine gate_dst (N := 11) rfl ?_); refine box_event ?hg (N := 11) ?hd (cs := #[.int .i64 0, .int .i64 0, .bool false, .int .i64 0]) (t := 26) ?hr ?_; (case hd => rfl); (case hg => rfl); (case hr => first | (go_simp; done) | (go_simp; rfl)); intro g7 hg w2 hbox hb; have BX := Aside0.mk hbox; have HG7 := Aside0.mk (show wr.heap.size ≤ g7 by omega); have HBR := Aside0.mk hb; have HQ2 := Aside0.mk (show w2.cell? (ad.add (i * 4)) = some (.int .i64 d0) ∧ w2.cell? ⟨(ad.add (i * 4)).block, (ad.add (i * 4)).off + 1, none⟩ = some (.int .i64 d1) ∧ w2.cell? ⟨(ad.add (i * 4)).block, (ad.add (i * 4)).off + 2, none⟩ = some (.bool d2) ∧ w2.cell? ⟨(ad.add (i * 4)).block, (ad.add (i * 4)).off + 3, none⟩ = some (.int .i64 d3) from ⟨pw_cell_below hb hq.1, pw_cell_below hb hq.2.1, pw_cell_below hb hq.2.2.1, pw_cell_below hb hq.2.2.2⟩); have hn0 := blk_frozen BX.out 0; have hn1 := blk_frozen BX.out 1; have hn2 := blk_frozen BX.out 2; have hn3 := blk_frozen BX.out 3; have hb0 := (blk_cell BX.out 0).trans rfl; have hb1 := (blk_cell BX.out 1).trans rfl; have hb2 := (blk_cell BX.out 2).trans rfl; have hb3 := (blk_cell BX.out 3).trans rfl; have hq0 := HQ2.out.1; have hq1 := HQ2.out.2.1; have hq2 := HQ2.out.2.2.1; have hq3 := HQ2.out.2.2.2; clear hg hbox hb) | ((with_reducible refine gate_store (t := 26) (p := 11) rfl ?_); refine store_event (t := 26) (p := 11) (v := .tmp 30) (w1 := (((w2.setCell ⟨g7, 0, none⟩ (.int .i64 d0)).setCell ⟨g7, 1, none⟩ (.int .i64 d1)).setCell ⟨g7, 2, none⟩ (.bool d2)).setCell ⟨g7, 3, none⟩ (.int .i64 d3)) ?hg ?ho ?hn ?hr ?_; (case ho => rfl); (case hg => rfl); (case hn => rfl); (case hr => first | (go_simp; done) | (go_simp; rfl)); intro w3 hw; have BX3 := Aside0.mk (show w3.heap[g7]? = some (.cells #[.int .i64 d0, .int .i64 d1, .bool d2, .int .i64 d3] 26 (0, 0)) by rw [hw]; refine blk_put (cs := #[.int .i64 d0, .int .i64 d1, .bool d2, .int .i64 0]) ?_ 3 _ rfl; refine blk_put (cs := #[.int .i64 d0, .int .i64 d1, .bool false, .int .i64 0]) ?_ 2 _ rfl; refine blk_put (cs := #[.int .i64 d0, .int .i64 0, .bool false, .int .i64 0]) ?_ 1 _ rfl; exact blk_put BX.out 0 _ rfl); have HMB := Aside0.mk (show Below wr.heap.size wr w3 by rw [hw]; exact below_set (below_set (below_set (below_set HBR.out HG7.out) HG7.out) HG7.out) HG7.out); have HS3 := Aside0.mk (show StkP w3 w.heap.size g v 0 b 0 l from stk_below HS.out HMB.out); have HB3 := Aside0.mk (below_step HB.out HMB.out); clear hw hq0 hq1 hq2 hq3 hn0 hn1 hn2 hn3 hb0 hb1 hb2 hb3 HQ2 BX hq; have hx0 := (blk_cell BX3.out 0).trans rfl; have hx1 := (blk_cell BX3.out 1).trans rfl; have hx2 := (blk_cell BX3.out 2).trans rfl; have hx3 := (blk_cell BX3.out 3).trans rfl))
        go_roundg (q.length - (i + 1))
        case measure => have := HI.out; have := HLT.out; omega
        case rel => exact ⟨i + 1, v, b, l, by first | rfl | go_num | rw [hw], ⟨by have := HLT.out; omega, rfl, HI.out.2.2.1, by have := HI.out; omega, HI.out.2.2.2.2⟩, HS3, HGD, HB3⟩
    · have b0 : decide ((i : Int) < (q.length : Int)) = false := decide_eq_false (by omega)
      have b1 : decide (i < q.length) = false := decide_eq_false hlt
      clear hlt
      have HPOS := Aside0.mk (show 0 < l.length from HGD.out.1)
      have HT := Aside0.mk (fun (W : World) (v : Value) (h : StkP W w.heap.size g v 0 b 0 l) => p_top h HPOS.out (by have := HGD.out.len; omega))
      obtain ⟨t0, t1, t2, ht⟩ : ∃ t0 t1 t2, topE l = ⟨t0, t1, t2⟩ := ⟨_, _, _, rfl⟩
      rw [ht] at HT
      clear ht
      cases isolate with
      | true =>
        have HEND := Aside0.mk (fun (W : World) (v_ : Value) (h : StkP W w.heap.size g v_ (isoA 0 b l right) b (isoC 0 b 0 l right) (isoL 0 b l right)) => (by
          have h1 := p_endiso h (Went.isol HGD.out right).1
          obtain ⟨e1, e2, e3, e4⟩ := back_iso HGD.out HI.out.2.2.1 right
          rw [e1, e2, e3, e4] at h1
          exact h1 : Calls Try.prog 21 #[.pointer (some ⟨g, 0, none⟩)] W (Upd W w.heap.size g v_ (.returned (.tuple #[])) 0 b 0 l)))
        go_wp2_with (first | ((with_reducible refine gate_dst (N := 12) rfl ?_); refine box_event ?hg (N := 12) ?hd (cs := #[.int .i64 0, .int .i64 0, .bool false]) (t := 28) ?hr ?_; (case hd => rfl); (case hg => rfl); (case hr => first | (go_simp; done) | (go_simp; rfl)); intro g12 hg w3 hbox hb; have BX := Aside0.mk hbox; have HB3 := Aside0.mk (below_step HB2.out hb); have HG12 := Aside0.mk (show w2.heap.size ≤ g12 by omega); have HBR := Aside0.mk hb; have hc0 := (blk_cell BX.out 0).trans rfl; have hc1 := (blk_cell BX.out 1).trans rfl; have hc2 := (blk_cell BX.out 2).trans rfl; have hf0 := blk_frozen BX.out 0; have hf1 := blk_frozen BX.out 1; have hf2 := blk_frozen BX.out 2; clear hg hbox hb) | ((with_reducible refine gate_store (t := 28) (p := 12) rfl ?_); refine store_event (t := 28) (p := 12) (v := .tmp 44) (w1 := ((w3.setCell ⟨g12, 0, none⟩ (.int .i64 t0)).setCell ⟨g12, 1, none⟩ (.int .i64 t1)).setCell ⟨g12, 2, none⟩ (.bool t2)) ?hg ?ho ?hn ?hr ?_; (case ho => rfl); (case hg => rfl); (case hn => rfl); (case hr => first | (go_simp; done) | (go_simp; rfl)); intro w4 hw; have BX4 := Aside0.mk (show w4.heap[g12]? = some (.cells #[.int .i64 t0, .int .i64 t1, .bool t2] 28 (0, 0)) by rw [hw]; refine blk_put (cs := #[.int .i64 t0, .int .i64 t1, .bool false]) ?_ 2 _ rfl; refine blk_put (cs := #[.int .i64 t0, .int .i64 0, .bool false]) ?_ 1 _ rfl; exact blk_put BX.out 0 _ rfl); have HM4 := Aside0.mk (show Below w2.heap.size w2 w4 by rw [hw]; exact below_set (below_set (below_set HBR.out HG12.out) HG12.out) HG12.out); have HS4 := Aside0.mk (show StkP w4 w.heap.size g v 0 b 0 l from stk_below HS2.out HM4.out); have HB4 := Aside0.mk (below_step HB2.out HM4.out); clear hw hc0 hc1 hc2 hf0 hf1 hf2 BX) | (go_at_call 16; (with_reducible refine (HT.out _ _ HS.out).mono ?_); rintro e w2 ⟨rfl, hb⟩; have HS2 := Aside0.mk (show StkP w2 w.heap.size g v 0 b 0 l from stk_below HS.out hb); have HB2 := Aside0.mk (below_step HB.out hb); clear hb) | (go_at_call 17; (with_reducible refine (p_len HS2.out HPOS.out).mono ?_); rintro e w_ ⟨rfl, rfl⟩) | (go_at_call 25; (with_reducible refine (p_over HSB.out HPOS.out).mono ?_); rintro e w6 ⟨rfl, hb⟩; have HS6 := Aside0.mk (show StkP w6.drew w.heap.size g vb 0 b 0 l from stk_drew (stk_below HSB.out hb)); have BX6 := Aside0.mk (blk_drew (blk_below BXB.out hb)); have HB6 := Aside0.mk (below_drew1 (below_step HBB.out hb)); clear hb) | (go_at_call 25; (with_reducible refine (p_over HS4.out HPOS.out).mono ?_); rintro e w5 ⟨rfl, hb⟩; have HS5 := Aside0.mk (show StkP w5 w.heap.size g v 0 b 0 l from stk_below HS4.out hb); have BX5 := Aside0.mk (blk_below BX4.out hb); have HB5 := Aside0.mk (below_step HB4.out hb); clear hb) | (go_at_call 19; (with_reducible refine (p_isolate HS5.out HGD.out right).mono ?_); rintro e wa ⟨va, rfl, hS, hM⟩; have HSA := Aside0.mk (show StkP wa w.heap.size g va (isoA 0 b l right) b (isoC 0 b 0 l right) (isoL 0 b l right) from hS); have HMA := Aside0.mk hM; clear hS hM) | (go_at_call 21; (with_reducible refine (HEND.out _ _ HSA.out).mono ?_); rintro e wb ⟨vb, rfl, hS, hM⟩; have HSB := Aside0.mk (show StkP wb w.heap.size g vb 0 b 0 l from hS); have HMB := Aside0.mk (HMA.out.trans hM); have BXB := Aside0.mk (HMB.out.1.blk BX5.out (by have := stk_lt HS2.out; have := HG12.out; omega) (fun e => by have := Kd.R_lt HS2.out.2.1 _ e.symm; have := HG12.out; omega)); have HBB := Aside0.mk (HB5.out.trans (HMB.out.below HS5.out)); clear hS hM))
        refine start_ (n := 29) (S := fun w' => w'.cell? ⟨g12, 0, none⟩ = some (.int .i64 t0) ∧ w'.cell? ⟨g12, 1, none⟩ = some (.int .i64 t1) ∧ w'.cell? ⟨g12, 2, none⟩ = some (.bool t2)) (ds := []) #[false, false, false, false, false, false, false, false, false, false, false, false, false, false, false, false, false, false, false, false, false, false, false, false, false, false, false, false, false] (by kernel_rfl) rfl rfl ⟨(blk_cell BX6.out 0).trans rfl, (blk_cell BX6.out 1).trans rfl, (blk_cell BX6.out 2).trans rfl⟩ (fun hHeld => ?_)
        generalize w6.drew = w6_ at HS6 BX6 HB6 hHeld ⊢
        refine pure_ (i := 0) (N := some 70) (v := ?_) (a' := ?_) #[true, false, false, false, false, false, false, false, false, false, false, false, false, false, false, false, false, false, false, false, false, false, false, false, false, false, false, false, false] rfl rfl (by kernel_rfl) (fun _ _ _ h => h) (Or.inl ⟨by rfl, ?_⟩) ?_ ?_
        rotate_left
        · intro w'
          go_simp
          with_reducible rfl
        rotate_left
        · simp only [Act.put, List.setIfInBounds_toArray, List.set_cons_zero, List.set_cons_succ, i64_w, i32_w]
          rfl
        refine take_ (i := 2) (N := some 72) (v := ?_) (a' := ?_) #[true, false, true, false, false, false, false, false, false, false, false, false, false, false, false, false, false, false, false, false, false, false, false, false, false, false, false, false, false] rfl rfl (by kernel_rfl) (fun _ _ _ h => h) (Or.inl ⟨by rfl, ?_⟩) hHeld ?_ ?_
        rotate_left
        · rintro w' ⟨s0, s1, s2⟩
          go_simp
          with_reducible rfl
        rotate_left
        · simp only [Act.put, List.setIfInBounds_toArray, List.set_cons_zero, List.set_cons_succ, i64_w, i32_w]
          rfl
        refine one_ (i := 1) (N := some 71) #[true, true, true, false, false, false, false, false, false, false, false, false, false, false, false, false, false, false, false, false, false, false, false, false, false, false, false, false, false] rfl rfl (by kernel_rfl) (by decide) (fun K hK => ?_)
        refine (goes_ Try.func16 (by kernel_rfl) rfl #[.pointer (some ⟨g, 0, none⟩)] (by rfl) rfl rfl (by (try simp only [List.map_toArray, List.map_cons, List.map_nil]); first | done | rfl) ?_)
        (with_reducible refine (HT.out _ _ HS6.out).mono ?_)
        rintro e w7 ⟨rfl, hb⟩
        refine ⟨_, rfl, ?_⟩
        have HS7 := Aside0.mk (show StkP w7 w.heap.size g vb 0 b 0 l from stk_below HS6.out hb)
        have BX7 := Aside0.mk (blk_below BX6.out hb)
        have HB7 := Aside0.mk (below_step HB6.out hb)
        refine hK.out _ _ ⟨(blk_cell (blk_below BX6.out hb) 0).trans rfl, (blk_cell (blk_below BX6.out hb) 1).trans rfl, (blk_cell (blk_below BX6.out hb) 2).trans rfl⟩ (fun hHeld => ?_)
        clear hK K hb
        refine norm_ (a' := ?_) ?_ ?_
        rotate_left
        · show Act.put _ (some 71) _ = _
          simp only [Act.put, List.setIfInBounds_toArray, List.set_cons_zero, List.set_cons_succ, i64_w, i32_w]
          rfl
        refine pure_ (i := 3) (N := some 73) (v := .bool true) (a' := ?_) #[true, true, true, true, false, false, false, false, false, false, false, false, false, false, false, false, false, false, false, false, false, false, false, false, false, false, false, false, false] rfl rfl (by kernel_rfl) (fun _ _ _ h => h) (Or.inl ⟨by rfl, ?_⟩) ?_ ?_
        · intro w'
          go_simp
          first | done | with_reducible rfl | rfl | (simp; done)
        rotate_left
        · simp only [Act.put, List.setIfInBounds_toArray, List.set_cons_zero, List.set_cons_succ, i64_w, i32_w]
          rfl
        refine pure_ (i := 4) (N := some 74) (v := ?_) (a' := ?_) #[true, true, true, true, true, false, false, false, false, false, false, false, false, false, false, false, false, false, false, false, false, false, false, false, false, false, false, false, false] rfl rfl (by kernel_rfl) (fun _ _ _ h => h) (Or.inl ⟨by rfl, ?_⟩) ?_ ?_
        rotate_left
        · intro w'
          go_simp
          with_reducible rfl
        rotate_left
        · simp only [Act.put, List.setIfInBounds_toArray, List.set_cons_zero, List.set_cons_succ, i64_w, i32_w]
          rfl
        refine pure_ (i := 5) (N := some 75) (v := ?_) (a' := ?_) #[true, true, true, true, true, true, false, false, false, false, false, false, false, false, false, false, false, false, false, false, false, false, false, false, false, false, false, false, false] rfl rfl (by kernel_rfl) (fun _ _ _ h => h) (Or.inl ⟨by rfl, ?_⟩) ?_ ?_
        rotate_left
        · intro w'
          go_simp
          with_reducible rfl
        rotate_left
        · simp only [Act.put, List.setIfInBounds_toArray, List.set_cons_zero, List.set_cons_succ, i64_w, i32_w]
          rfl
        refine pure_ (i := 7) (N := some 77) (v := ?_) (a' := ?_) #[true, true, true, true, true, true, false, true, false, false, false, false, false, false, false, false, false, false, false, false, false, false, false, false, false, false, false, false, false] rfl rfl (by kernel_rfl) (fun _ _ _ h => h) (Or.inl ⟨by rfl, ?_⟩) ?_ ?_
        rotate_left
        · intro w'
          go_simp
          with_reducible rfl
        rotate_left
        · simp only [Act.put, List.setIfInBounds_toArray, List.set_cons_zero, List.set_cons_succ, i64_w, i32_w]
          rfl
        refine one_ (i := 6) (N := some 76) #[true, true, true, true, true, true, true, true, false, false, false, false, false, false, false, false, false, false, false, false, false, false, false, false, false, false, false, false, false] rfl rfl (by kernel_rfl) (by decide) (fun K hK => ?_)
        refine (goes_ Try.func17 (by kernel_rfl) rfl #[.pointer (some ⟨g, 0, none⟩)] (by rfl) rfl rfl (by (try simp only [List.map_toArray, List.map_cons, List.map_nil]); first | done | rfl) ?_)
        (with_reducible refine (p_len HS7.out HPOS.out).mono ?_)
        rintro e w_ ⟨rfl, rfl⟩
        refine ⟨_, rfl, ?_⟩
        refine hK.out _ _ hHeld (fun hHeld => ?_)
        clear hK K
        refine norm_ (a' := ?_) ?_ ?_
        rotate_left
        · show Act.put _ (some 76) _ = _
          simp only [Act.put, List.setIfInBounds_toArray, List.set_cons_zero, List.set_cons_succ, i64_w, i32_w]
          rfl
        refine pure_ (i := 8) (N := some 78) (v := .bool true) (a' := ?_) #[true, true, true, true, true, true, true, true, true, false, false, false, false, false, false, false, false, false, false, false, false, false, false, false, false, false, false, false, false] rfl rfl (by kernel_rfl) (fun _ _ _ h => h) (Or.inl ⟨by rfl, ?_⟩) ?_ ?_
        · intro w'
          go_simp
          first | done | with_reducible rfl | rfl | (simp; done) | (go_simp; simp; done)
        rotate_left
        · simp only [Act.put, List.setIfInBounds_toArray, List.set_cons_zero, List.set_cons_succ, i64_w, i32_w]
          rfl
        refine pure_ (i := 9) (N := some 79) (v := ?_) (a' := ?_) #[true, true, true, true, true, true, true, true, true, true, false, false, false, false, false, false, false, false, false, false, false, false, false, false, false, false, false, false, false] rfl rfl (by kernel_rfl) (fun _ _ _ h => h) (Or.inl ⟨by rfl, ?_⟩) ?_ ?_
        rotate_left
        · intro w'
          go_simp
          with_reducible rfl
        rotate_left
        · simp only [Act.put, List.setIfInBounds_toArray, List.set_cons_zero, List.set_cons_succ, i64_w, i32_w]
          rfl
        refine pure_ (i := 10) (N := some 80) (v := ?_) (a' := ?_) #[true, true, true, true, true, true, true, true, true, true, true, false, false, false, false, false, false, false, false, false, false, false, false, false, false, false, false, false, false] rfl rfl (by kernel_rfl) (fun _ _ _ h => h) (Or.inl ⟨by rfl, ?_⟩) ?_ ?_
        rotate_left
        · intro w'
          go_simp
          with_reducible rfl
        rotate_left
        · simp only [Act.put, List.setIfInBounds_toArray, List.set_cons_zero, List.set_cons_succ, i64_w, i32_w]
          rfl
        refine pure_ (i := 11) (N := some 81) (v := ?_) (a' := ?_) #[true, true, true, true, true, true, true, true, true, true, true, true, false, false, false, false, false, false, false, false, false, false, false, false, false, false, false, false, false] rfl rfl (by kernel_rfl) (fun _ _ _ h => h) (Or.inl ⟨by rfl, ?_⟩) ?_ ?_
        rotate_left
        · intro w'
          go_simp
          with_reducible rfl
        rotate_left
        · simp only [Act.put, List.setIfInBounds_toArray, List.set_cons_zero, List.set_cons_succ, i64_w, i32_w]
          rfl
        refine pure_ (i := 12) (N := some 82) (v := ?_) (a' := ?_) #[true, true, true, true, true, true, true, true, true, true, true, true, true, false, false, false, false, false, false, false, false, false, false, false, false, false, false, false, false] rfl rfl (by kernel_rfl) (fun _ _ _ h => h) (Or.inl ⟨by rfl, ?_⟩) ?_ ?_
        rotate_left
        · intro w'
          go_simp
          with_reducible rfl
        rotate_left
        · simp only [Act.put, List.setIfInBounds_toArray, List.set_cons_zero, List.set_cons_succ, i64_w, i32_w]
          rfl
        refine pure_ (i := 13) (N := some 83) (v := .bool true) (a' := ?_) #[true, true, true, true, true, true, true, true, true, true, true, true, true, true, false, false, false, false, false, false, false, false, false, false, false, false, false, false, false] rfl rfl (by kernel_rfl) (fun _ _ _ h => h) (Or.inl ⟨by rfl, ?_⟩) ?_ ?_
        · intro w'
          go_simp
          first | done | with_reducible rfl | rfl | (simp; done) | (go_simp; simp; done)
        rotate_left
        · simp only [Act.put, List.setIfInBounds_toArray, List.set_cons_zero, List.set_cons_succ, i64_w, i32_w]
          rfl
        refine pure_ (i := 14) (N := some 84) (v := ?_) (a' := ?_) #[true, true, true, true, true, true, true, true, true, true, true, true, true, true, true, false, false, false, false, false, false, false, false, false, false, false, false, false, false] rfl rfl (by kernel_rfl) (fun _ _ _ h => h) (Or.inl ⟨by rfl, ?_⟩) ?_ ?_
        rotate_left
        · intro w'
          go_simp
          with_reducible rfl
        rotate_left
        · simp only [Act.put, List.setIfInBounds_toArray, List.set_cons_zero, List.set_cons_succ, i64_w, i32_w]
          rfl
        refine pure_ (i := 15) (N := some 85) (v := ?_) (a' := ?_) #[true, true, true, true, true, true, true, true, true, true, true, true, true, true, true, true, false, false, false, false, false, false, false, false, false, false, false, false, false] rfl rfl (by kernel_rfl) (fun _ _ _ h => h) (Or.inl ⟨by rfl, ?_⟩) ?_ ?_
        rotate_left
        · intro w'
          go_simp
          with_reducible rfl
        rotate_left
        · simp only [Act.put, List.setIfInBounds_toArray, List.set_cons_zero, List.set_cons_succ, i64_w, i32_w]
          rfl
        refine pure_ (i := 16) (N := some 86) (v := ?_) (a' := ?_) #[true, true, true, true, true, true, true, true, true, true, true, true, true, true, true, true, true, false, false, false, false, false, false, false, false, false, false, false, false] rfl rfl (by kernel_rfl) (fun _ _ _ h => h) (Or.inl ⟨by rfl, ?_⟩) ?_ ?_
        rotate_left
        · intro w'
          go_simp
          with_reducible rfl
        rotate_left
        · simp only [Act.put, List.setIfInBounds_toArray, List.set_cons_zero, List.set_cons_succ, i64_w, i32_w]
          rfl
        refine pure_ (i := 17) (N := some 87) (v := ?_) (a' := ?_) #[true, true, true, true, true, true, true, true, true, true, true, true, true, true, true, true, true, true, false, false, false, false, false, false, false, false, false, false, false] rfl rfl (by kernel_rfl) (fun _ _ _ h => h) (Or.inl ⟨by rfl, ?_⟩) ?_ ?_
        rotate_left
        · intro w'
          go_simp
          with_reducible rfl
        rotate_left
        · simp only [Act.put, List.setIfInBounds_toArray, List.set_cons_zero, List.set_cons_succ, i64_w, i32_w]
          rfl
        refine pure_ (i := 18) (N := some 88) (v := .bool true) (a' := ?_) #[true, true, true, true, true, true, true, true, true, true, true, true, true, true, true, true, true, true, true, false, false, false, false, false, false, false, false, false, false] rfl rfl (by kernel_rfl) (fun _ _ _ h => h) (Or.inl ⟨by rfl, ?_⟩) ?_ ?_
        · intro w'
          go_simp
          first | done | with_reducible rfl | rfl | (simp; done) | (go_simp; simp; done)
        rotate_left
        · simp only [Act.put, List.setIfInBounds_toArray, List.set_cons_zero, List.set_cons_succ, i64_w, i32_w]
          rfl
        refine pure_ (i := 19) (N := some 89) (v := ?_) (a' := ?_) #[true, true, true, true, true, true, true, true, true, true, true, true, true, true, true, true, true, true, true, true, false, false, false, false, false, false, false, false, false] rfl rfl (by kernel_rfl) (fun _ _ _ h => h) (Or.inl ⟨by rfl, ?_⟩) ?_ ?_
        rotate_left
        · intro w'
          go_simp
          with_reducible rfl
        rotate_left
        · simp only [Act.put, List.setIfInBounds_toArray, List.set_cons_zero, List.set_cons_succ, i64_w, i32_w]
          rfl
        refine pure_ (i := 20) (N := some 90) (v := ?_) (a' := ?_) #[true, true, true, true, true, true, true, true, true, true, true, true, true, true, true, true, true, true, true, true, true, false, false, false, false, false, false, false, false] rfl rfl (by kernel_rfl) (fun _ _ _ h => h) (Or.inl ⟨by rfl, ?_⟩) ?_ ?_
        rotate_left
        · intro w'
          go_simp
          with_reducible rfl
        rotate_left
        · simp only [Act.put, List.setIfInBounds_toArray, List.set_cons_zero, List.set_cons_succ, i64_w, i32_w]
          rfl
        refine pure_ (i := 21) (N := some 91) (v := ?_) (a' := ?_) #[true, true, true, true, true, true, true, true, true, true, true, true, true, true, true, true, true, true, true, true, true, true, false, false, false, false, false, false, false] rfl rfl (by kernel_rfl) (fun _ _ _ h => h) (Or.inl ⟨by rfl, ?_⟩) ?_ ?_
        rotate_left
        · intro w'
          go_simp
          with_reducible rfl
        rotate_left
        · simp only [Act.put, List.setIfInBounds_toArray, List.set_cons_zero, List.set_cons_succ, i64_w, i32_w]
          rfl
        refine pure_ (i := 22) (N := some 92) (v := ?_) (a' := ?_) #[true, true, true, true, true, true, true, true, true, true, true, true, true, true, true, true, true, true, true, true, true, true, true, false, false, false, false, false, false] rfl rfl (by kernel_rfl) (fun _ _ _ h => h) (Or.inl ⟨by rfl, ?_⟩) ?_ ?_
        rotate_left
        · intro w'
          go_simp
          with_reducible rfl
        rotate_left
        · simp only [Act.put, List.setIfInBounds_toArray, List.set_cons_zero, List.set_cons_succ, i64_w, i32_w]
          rfl
        refine pure_ (i := 23) (N := some 93) (v := .bool true) (a' := ?_) #[true, true, true, true, true, true, true, true, true, true, true, true, true, true, true, true, true, true, true, true, true, true, true, true, false, false, false, false, false] rfl rfl (by kernel_rfl) (fun _ _ _ h => h) (Or.inl ⟨by rfl, ?_⟩) ?_ ?_
        · intro w'
          go_simp
          first | done | with_reducible rfl | rfl | (simp; done) | (go_simp; simp; done)
        rotate_left
        · simp only [Act.put, List.setIfInBounds_toArray, List.set_cons_zero, List.set_cons_succ, i64_w, i32_w]
          rfl
        refine pure_ (i := 24) (N := some 94) (v := ?_) (a' := ?_) #[true, true, true, true, true, true, true, true, true, true, true, true, true, true, true, true, true, true, true, true, true, true, true, true, true, false, false, false, false] rfl rfl (by kernel_rfl) (fun _ _ _ h => h) (Or.inl ⟨by rfl, ?_⟩) ?_ ?_
        rotate_left
        · intro w'
          go_simp
          with_reducible rfl
        rotate_left
        · simp only [Act.put, List.setIfInBounds_toArray, List.set_cons_zero, List.set_cons_succ, i64_w, i32_w]
          rfl
        refine pure_ (i := 25) (N := some 95) (v := ?_) (a' := ?_) #[true, true, true, true, true, true, true, true, true, true, true, true, true, true, true, true, true, true, true, true, true, true, true, true, true, true, false, false, false] rfl rfl (by kernel_rfl) (fun _ _ _ h => h) (Or.inl ⟨by rfl, ?_⟩) ?_ ?_
        rotate_left
        · intro w'
          go_simp
          with_reducible rfl
        rotate_left
        · simp only [Act.put, List.setIfInBounds_toArray, List.set_cons_zero, List.set_cons_succ, i64_w, i32_w]
          rfl
        refine one_ (i := 26) (N := some 96) #[true, true, true, true, true, true, true, true, true, true, true, true, true, true, true, true, true, true, true, true, true, true, true, true, true, true, true, false, false] rfl rfl (by kernel_rfl) (by decide) (fun K hK => ?_)
        refine (goes_ Try.func22 (by kernel_rfl) rfl #[] (by rfl) rfl rfl (by (try simp only [List.map_toArray, List.map_cons, List.map_nil]); first | done | rfl) ?_)
        (with_reducible refine (p_awake _).mono ?_)
        rintro e w8 ⟨rfl, hb⟩
        refine ⟨_, rfl, ?_⟩
        have HB8 := Aside0.mk (below_step HB7.out hb)
        refine hK.out _ _ ⟨(blk_cell (blk_below BX7.out hb) 0).trans rfl, (blk_cell (blk_below BX7.out hb) 1).trans rfl, (blk_cell (blk_below BX7.out hb) 2).trans rfl⟩ (fun hHeld => ?_)
        clear hK K
        refine norm_ (a' := ?_) ?_ ?_
        rotate_left
        · show Act.put _ (some 96) _ = _
          simp only [Act.put, List.setIfInBounds_toArray, List.set_cons_zero, List.set_cons_succ, i64_w, i32_w]
          rfl
        refine pure_ (i := 27) (N := some 97) (v := ?_) (a' := ?_) #[true, true, true, true, true, true, true, true, true, true, true, true, true, true, true, true, true, true, true, true, true, true, true, true, true, true, true, true, false] rfl rfl (by kernel_rfl) (fun _ _ _ h => h) (Or.inl ⟨by rfl, ?_⟩) ?_ ?_
        rotate_left
        · intro w'
          go_simp
          with_reducible rfl
        rotate_left
        · simp only [Act.put, List.setIfInBounds_toArray, List.set_cons_zero, List.set_cons_succ, i64_w, i32_w]
          rfl
        refine pure_ (i := 28) (N := some 8) (v := ?_) (a' := ?_) #[true, true, true, true, true, true, true, true, true, true, true, true, true, true, true, true, true, true, true, true, true, true, true, true, true, true, true, true, true] rfl rfl (by kernel_rfl) (fun _ _ _ h => h) (Or.inl ⟨by rfl, ?_⟩) ?_ ?_
        rotate_left
        · intro w'
          go_simp
          with_reducible rfl
        rotate_left
        · simp only [Act.put, List.setIfInBounds_toArray, List.set_cons_zero, List.set_cons_succ, i64_w, i32_w]
          rfl
        refine done_ (by kernel_rfl) ?_
        go_wp2
        go_ret
        exact ⟨by first | rfl | simp [*], HB8.out⟩
      | false =>
        have HEND := Aside0.mk (fun (W : World) (v_ : Value) (h : StkP W w.heap.size g v_ 0 (embB 0 b l right) 0 (embL 0 b l right 1)) => (by
          have h1 := p_endembed h (Went.emb HGD.out right 1).1
          obtain ⟨e1, e2⟩ := back_emb HGD.out HI.out.2.2.1 HI.out.2.2.2.2 right 1
          rw [e1, e2] at h1
          exact h1 : Calls Try.prog 20 #[.pointer (some ⟨g, 0, none⟩)] W (Upd W w.heap.size g v_ (.returned (.tuple #[])) 0 b 0 l)))
        go_wp2_with (first | ((with_reducible refine gate_dst (N := 12) rfl ?_); refine box_event ?hg (N := 12) ?hd (cs := #[.int .i64 0, .int .i64 0, .bool false]) (t := 28) ?hr ?_; (case hd => rfl); (case hg => rfl); (case hr => first | (go_simp; done) | (go_simp; rfl)); intro g12 hg w3 hbox hb; have BX := Aside0.mk hbox; have HB3 := Aside0.mk (below_step HB2.out hb); have HG12 := Aside0.mk (show w2.heap.size ≤ g12 by omega); have HBR := Aside0.mk hb; have hc0 := (blk_cell BX.out 0).trans rfl; have hc1 := (blk_cell BX.out 1).trans rfl; have hc2 := (blk_cell BX.out 2).trans rfl; have hf0 := blk_frozen BX.out 0; have hf1 := blk_frozen BX.out 1; have hf2 := blk_frozen BX.out 2; clear hg hbox hb) | ((with_reducible refine gate_store (t := 28) (p := 12) rfl ?_); refine store_event (t := 28) (p := 12) (v := .tmp 44) (w1 := ((w3.setCell ⟨g12, 0, none⟩ (.int .i64 t0)).setCell ⟨g12, 1, none⟩ (.int .i64 t1)).setCell ⟨g12, 2, none⟩ (.bool t2)) ?hg ?ho ?hn ?hr ?_; (case ho => rfl); (case hg => rfl); (case hn => rfl); (case hr => first | (go_simp; done) | (go_simp; rfl)); intro w4 hw; have BX4 := Aside0.mk (show w4.heap[g12]? = some (.cells #[.int .i64 t0, .int .i64 t1, .bool t2] 28 (0, 0)) by rw [hw]; refine blk_put (cs := #[.int .i64 t0, .int .i64 t1, .bool false]) ?_ 2 _ rfl; refine blk_put (cs := #[.int .i64 t0, .int .i64 0, .bool false]) ?_ 1 _ rfl; exact blk_put BX.out 0 _ rfl); have HM4 := Aside0.mk (show Below w2.heap.size w2 w4 by rw [hw]; exact below_set (below_set (below_set HBR.out HG12.out) HG12.out) HG12.out); have HS4 := Aside0.mk (show StkP w4 w.heap.size g v 0 b 0 l from stk_below HS2.out HM4.out); have HB4 := Aside0.mk (below_step HB2.out HM4.out); clear hw hc0 hc1 hc2 hf0 hf1 hf2 BX) | (go_at_call 16; (with_reducible refine (HT.out _ _ HS.out).mono ?_); rintro e w2 ⟨rfl, hb⟩; have HS2 := Aside0.mk (show StkP w2 w.heap.size g v 0 b 0 l from stk_below HS.out hb); have HB2 := Aside0.mk (below_step HB.out hb); clear hb) | (go_at_call 17; (with_reducible refine (p_len HS2.out HPOS.out).mono ?_); rintro e w_ ⟨rfl, rfl⟩) | (go_at_call 25; (with_reducible refine (p_over HSB.out HPOS.out).mono ?_); rintro e w6 ⟨rfl, hb⟩; have HS6 := Aside0.mk (show StkP w6.drew w.heap.size g vb 0 b 0 l from stk_drew (stk_below HSB.out hb)); have BX6 := Aside0.mk (blk_drew (blk_below BXB.out hb)); have HB6 := Aside0.mk (below_drew1 (below_step HBB.out hb)); clear hb) | (go_at_call 25; (with_reducible refine (p_over HS4.out HPOS.out).mono ?_); rintro e w5 ⟨rfl, hb⟩; have HS5 := Aside0.mk (show StkP w5 w.heap.size g v 0 b 0 l from stk_below HS4.out hb); have BX5 := Aside0.mk (blk_below BX4.out hb); have HB5 := Aside0.mk (below_step HB4.out hb); clear hb) | (go_at_call 18; (with_reducible refine (p_embed HS5.out HGD.out right 1).mono ?_); rintro e wa ⟨va, rfl, hS, hM⟩; have HSA := Aside0.mk (show StkP wa w.heap.size g va 0 (embB 0 b l right) 0 (embL 0 b l right 1) from hS); have HMA := Aside0.mk hM; clear hS hM) | (go_at_call 20; (with_reducible refine (HEND.out _ _ HSA.out).mono ?_); rintro e wb ⟨vb, rfl, hS, hM⟩; have HSB := Aside0.mk (show StkP wb w.heap.size g vb 0 b 0 l from hS); have HMB := Aside0.mk (HMA.out.trans hM); have BXB := Aside0.mk (HMB.out.1.blk BX5.out (by have := stk_lt HS2.out; have := HG12.out; omega) (fun e => by have := Kd.R_lt HS2.out.2.1 _ e.symm; have := HG12.out; omega)); have HBB := Aside0.mk (HB5.out.trans (HMB.out.below HS5.out)); clear hS hM))
        refine start_ (n := 29) (S := fun w' => w'.cell? ⟨g12, 0, none⟩ = some (.int .i64 t0) ∧ w'.cell? ⟨g12, 1, none⟩ = some (.int .i64 t1) ∧ w'.cell? ⟨g12, 2, none⟩ = some (.bool t2)) (ds := []) #[false, false, false, false, false, false, false, false, false, false, false, false, false, false, false, false, false, false, false, false, false, false, false, false, false, false, false, false, false] (by kernel_rfl) rfl rfl ⟨(blk_cell BX6.out 0).trans rfl, (blk_cell BX6.out 1).trans rfl, (blk_cell BX6.out 2).trans rfl⟩ (fun hHeld => ?_)
        generalize w6.drew = w6_ at HS6 BX6 HB6 hHeld ⊢
        refine pure_ (i := 0) (N := some 70) (v := ?_) (a' := ?_) #[true, false, false, false, false, false, false, false, false, false, false, false, false, false, false, false, false, false, false, false, false, false, false, false, false, false, false, false, false] rfl rfl (by kernel_rfl) (fun _ _ _ h => h) (Or.inl ⟨by rfl, ?_⟩) ?_ ?_
        rotate_left
        · intro w'
          go_simp
          with_reducible rfl
        rotate_left
        · simp only [Act.put, List.setIfInBounds_toArray, List.set_cons_zero, List.set_cons_succ, i64_w, i32_w]
          rfl
        refine take_ (i := 2) (N := some 72) (v := ?_) (a' := ?_) #[true, false, true, false, false, false, false, false, false, false, false, false, false, false, false, false, false, false, false, false, false, false, false, false, false, false, false, false, false] rfl rfl (by kernel_rfl) (fun _ _ _ h => h) (Or.inl ⟨by rfl, ?_⟩) hHeld ?_ ?_
        rotate_left
        · rintro w' ⟨s0, s1, s2⟩
          go_simp
          with_reducible rfl
        rotate_left
        · simp only [Act.put, List.setIfInBounds_toArray, List.set_cons_zero, List.set_cons_succ, i64_w, i32_w]
          rfl
        refine one_ (i := 1) (N := some 71) #[true, true, true, false, false, false, false, false, false, false, false, false, false, false, false, false, false, false, false, false, false, false, false, false, false, false, false, false, false] rfl rfl (by kernel_rfl) (by decide) (fun K hK => ?_)
        refine (goes_ Try.func16 (by kernel_rfl) rfl #[.pointer (some ⟨g, 0, none⟩)] (by rfl) rfl rfl (by (try simp only [List.map_toArray, List.map_cons, List.map_nil]); first | done | rfl) ?_)
        (with_reducible refine (HT.out _ _ HS6.out).mono ?_)
        rintro e w7 ⟨rfl, hb⟩
        refine ⟨_, rfl, ?_⟩
        have HS7 := Aside0.mk (show StkP w7 w.heap.size g vb 0 b 0 l from stk_below HS6.out hb)
        have BX7 := Aside0.mk (blk_below BX6.out hb)
        have HB7 := Aside0.mk (below_step HB6.out hb)
        refine hK.out _ _ ⟨(blk_cell (blk_below BX6.out hb) 0).trans rfl, (blk_cell (blk_below BX6.out hb) 1).trans rfl, (blk_cell (blk_below BX6.out hb) 2).trans rfl⟩ (fun hHeld => ?_)
        clear hK K hb
        refine norm_ (a' := ?_) ?_ ?_
        rotate_left
        · show Act.put _ (some 71) _ = _
          simp only [Act.put, List.setIfInBounds_toArray, List.set_cons_zero, List.set_cons_succ, i64_w, i32_w]
          rfl
        refine pure_ (i := 3) (N := some 73) (v := .bool true) (a' := ?_) #[true, true, true, true, false, false, false, false, false, false, false, false, false, false, false, false, false, false, false, false, false, false, false, false, false, false, false, false, false] rfl rfl (by kernel_rfl) (fun _ _ _ h => h) (Or.inl ⟨by rfl, ?_⟩) ?_ ?_
        · intro w'
          go_simp
          first | done | with_reducible rfl | rfl | (simp; done)
        rotate_left
        · simp only [Act.put, List.setIfInBounds_toArray, List.set_cons_zero, List.set_cons_succ, i64_w, i32_w]
          rfl
        refine pure_ (i := 4) (N := some 74) (v := ?_) (a' := ?_) #[true, true, true, true, true, false, false, false, false, false, false, false, false, false, false, false, false, false, false, false, false, false, false, false, false, false, false, false, false] rfl rfl (by kernel_rfl) (fun _ _ _ h => h) (Or.inl ⟨by rfl, ?_⟩) ?_ ?_
        rotate_left
        · intro w'
          go_simp
          with_reducible rfl
        rotate_left
        · simp only [Act.put, List.setIfInBounds_toArray, List.set_cons_zero, List.set_cons_succ, i64_w, i32_w]
          rfl
        refine pure_ (i := 5) (N := some 75) (v := ?_) (a' := ?_) #[true, true, true, true, true, true, false, false, false, false, false, false, false, false, false, false, false, false, false, false, false, false, false, false, false, false, false, false, false] rfl rfl (by kernel_rfl) (fun _ _ _ h => h) (Or.inl ⟨by rfl, ?_⟩) ?_ ?_
        rotate_left
        · intro w'
          go_simp
          with_reducible rfl
        rotate_left
        · simp only [Act.put, List.setIfInBounds_toArray, List.set_cons_zero, List.set_cons_succ, i64_w, i32_w]
          rfl
        refine pure_ (i := 7) (N := some 77) (v := ?_) (a' := ?_) #[true, true, true, true, true, true, false, true, false, false, false, false, false, false, false, false, false, false, false, false, false, false, false, false, false, false, false, false, false] rfl rfl (by kernel_rfl) (fun _ _ _ h => h) (Or.inl ⟨by rfl, ?_⟩) ?_ ?_
        rotate_left
        · intro w'
          go_simp
          with_reducible rfl
        rotate_left
        · simp only [Act.put, List.setIfInBounds_toArray, List.set_cons_zero, List.set_cons_succ, i64_w, i32_w]
          rfl
        refine one_ (i := 6) (N := some 76) #[true, true, true, true, true, true, true, true, false, false, false, false, false, false, false, false, false, false, false, false, false, false, false, false, false, false, false, false, false] rfl rfl (by kernel_rfl) (by decide) (fun K hK => ?_)
        refine (goes_ Try.func17 (by kernel_rfl) rfl #[.pointer (some ⟨g, 0, none⟩)] (by rfl) rfl rfl (by (try simp only [List.map_toArray, List.map_cons, List.map_nil]); first | done | rfl) ?_)
        (with_reducible refine (p_len HS7.out HPOS.out).mono ?_)
        rintro e w_ ⟨rfl, rfl⟩
        refine ⟨_, rfl, ?_⟩
        refine hK.out _ _ hHeld (fun hHeld => ?_)
        clear hK K
        refine norm_ (a' := ?_) ?_ ?_
        rotate_left
        · show Act.put _ (some 76) _ = _
          simp only [Act.put, List.setIfInBounds_toArray, List.set_cons_zero, List.set_cons_succ, i64_w, i32_w]
          rfl
        refine pure_ (i := 8) (N := some 78) (v := .bool true) (a' := ?_) #[true, true, true, true, true, true, true, true, true, false, false, false, false, false, false, false, false, false, false, false, false, false, false, false, false, false, false, false, false] rfl rfl (by kernel_rfl) (fun _ _ _ h => h) (Or.inl ⟨by rfl, ?_⟩) ?_ ?_
        · intro w'
          go_simp
          first | done | with_reducible rfl | rfl | (simp; done) | (go_simp; simp; done)
        rotate_left
        · simp only [Act.put, List.setIfInBounds_toArray, List.set_cons_zero, List.set_cons_succ, i64_w, i32_w]
          rfl
        refine pure_ (i := 9) (N := some 79) (v := ?_) (a' := ?_) #[true, true, true, true, true, true, true, true, true, true, false, false, false, false, false, false, false, false, false, false, false, false, false, false, false, false, false, false, false] rfl rfl (by kernel_rfl) (fun _ _ _ h => h) (Or.inl ⟨by rfl, ?_⟩) ?_ ?_
        rotate_left
        · intro w'
          go_simp
          with_reducible rfl
        rotate_left
        · simp only [Act.put, List.setIfInBounds_toArray, List.set_cons_zero, List.set_cons_succ, i64_w, i32_w]
          rfl
        refine pure_ (i := 10) (N := some 80) (v := ?_) (a' := ?_) #[true, true, true, true, true, true, true, true, true, true, true, false, false, false, false, false, false, false, false, false, false, false, false, false, false, false, false, false, false] rfl rfl (by kernel_rfl) (fun _ _ _ h => h) (Or.inl ⟨by rfl, ?_⟩) ?_ ?_
        rotate_left
        · intro w'
          go_simp
          with_reducible rfl
        rotate_left
        · simp only [Act.put, List.setIfInBounds_toArray, List.set_cons_zero, List.set_cons_succ, i64_w, i32_w]
          rfl
        refine pure_ (i := 11) (N := some 81) (v := ?_) (a' := ?_) #[true, true, true, true, true, true, true, true, true, true, true, true, false, false, false, false, false, false, false, false, false, false, false, false, false, false, false, false, false] rfl rfl (by kernel_rfl) (fun _ _ _ h => h) (Or.inl ⟨by rfl, ?_⟩) ?_ ?_
        rotate_left
        · intro w'
          go_simp
          with_reducible rfl
        rotate_left
        · simp only [Act.put, List.setIfInBounds_toArray, List.set_cons_zero, List.set_cons_succ, i64_w, i32_w]
          rfl
        refine pure_ (i := 12) (N := some 82) (v := ?_) (a' := ?_) #[true, true, true, true, true, true, true, true, true, true, true, true, true, false, false, false, false, false, false, false, false, false, false, false, false, false, false, false, false] rfl rfl (by kernel_rfl) (fun _ _ _ h => h) (Or.inl ⟨by rfl, ?_⟩) ?_ ?_
        rotate_left
        · intro w'
          go_simp
          with_reducible rfl
        rotate_left
        · simp only [Act.put, List.setIfInBounds_toArray, List.set_cons_zero, List.set_cons_succ, i64_w, i32_w]
          rfl
        refine pure_ (i := 13) (N := some 83) (v := .bool true) (a' := ?_) #[true, true, true, true, true, true, true, true, true, true, true, true, true, true, false, false, false, false, false, false, false, false, false, false, false, false, false, false, false] rfl rfl (by kernel_rfl) (fun _ _ _ h => h) (Or.inl ⟨by rfl, ?_⟩) ?_ ?_
        · intro w'
          go_simp
          first | done | with_reducible rfl | rfl | (simp; done) | (go_simp; simp; done)
        rotate_left
        · simp only [Act.put, List.setIfInBounds_toArray, List.set_cons_zero, List.set_cons_succ, i64_w, i32_w]
          rfl
        refine pure_ (i := 14) (N := some 84) (v := ?_) (a' := ?_) #[true, true, true, true, true, true, true, true, true, true, true, true, true, true, true, false, false, false, false, false, false, false, false, false, false, false, false, false, false] rfl rfl (by kernel_rfl) (fun _ _ _ h => h) (Or.inl ⟨by rfl, ?_⟩) ?_ ?_
        rotate_left
        · intro w'
          go_simp
          with_reducible rfl
        rotate_left
        · simp only [Act.put, List.setIfInBounds_toArray, List.set_cons_zero, List.set_cons_succ, i64_w, i32_w]
          rfl
        refine pure_ (i := 15) (N := some 85) (v := ?_) (a' := ?_) #[true, true, true, true, true, true, true, true, true, true, true, true, true, true, true, true, false, false, false, false, false, false, false, false, false, false, false, false, false] rfl rfl (by kernel_rfl) (fun _ _ _ h => h) (Or.inl ⟨by rfl, ?_⟩) ?_ ?_
        rotate_left
        · intro w'
          go_simp
          with_reducible rfl
        rotate_left
        · simp only [Act.put, List.setIfInBounds_toArray, List.set_cons_zero, List.set_cons_succ, i64_w, i32_w]
          rfl
        refine pure_ (i := 16) (N := some 86) (v := ?_) (a' := ?_) #[true, true, true, true, true, true, true, true, true, true, true, true, true, true, true, true, true, false, false, false, false, false, false, false, false, false, false, false, false] rfl rfl (by kernel_rfl) (fun _ _ _ h => h) (Or.inl ⟨by rfl, ?_⟩) ?_ ?_
        rotate_left
        · intro w'
          go_simp
          with_reducible rfl
        rotate_left
        · simp only [Act.put, List.setIfInBounds_toArray, List.set_cons_zero, List.set_cons_succ, i64_w, i32_w]
          rfl
        refine pure_ (i := 17) (N := some 87) (v := ?_) (a' := ?_) #[true, true, true, true, true, true, true, true, true, true, true, true, true, true, true, true, true, true, false, false, false, false, false, false, false, false, false, false, false] rfl rfl (by kernel_rfl) (fun _ _ _ h => h) (Or.inl ⟨by rfl, ?_⟩) ?_ ?_
        rotate_left
        · intro w'
          go_simp
          with_reducible rfl
        rotate_left
        · simp only [Act.put, List.setIfInBounds_toArray, List.set_cons_zero, List.set_cons_succ, i64_w, i32_w]
          rfl
        refine pure_ (i := 18) (N := some 88) (v := .bool true) (a' := ?_) #[true, true, true, true, true, true, true, true, true, true, true, true, true, true, true, true, true, true, true, false, false, false, false, false, false, false, false, false, false] rfl rfl (by kernel_rfl) (fun _ _ _ h => h) (Or.inl ⟨by rfl, ?_⟩) ?_ ?_
        · intro w'
          go_simp
          first | done | with_reducible rfl | rfl | (simp; done) | (go_simp; simp; done)
        rotate_left
        · simp only [Act.put, List.setIfInBounds_toArray, List.set_cons_zero, List.set_cons_succ, i64_w, i32_w]
          rfl
        refine pure_ (i := 19) (N := some 89) (v := ?_) (a' := ?_) #[true, true, true, true, true, true, true, true, true, true, true, true, true, true, true, true, true, true, true, true, false, false, false, false, false, false, false, false, false] rfl rfl (by kernel_rfl) (fun _ _ _ h => h) (Or.inl ⟨by rfl, ?_⟩) ?_ ?_
        rotate_left
        · intro w'
          go_simp
          with_reducible rfl
        rotate_left
        · simp only [Act.put, List.setIfInBounds_toArray, List.set_cons_zero, List.set_cons_succ, i64_w, i32_w]
          rfl
        refine pure_ (i := 20) (N := some 90) (v := ?_) (a' := ?_) #[true, true, true, true, true, true, true, true, true, true, true, true, true, true, true, true, true, true, true, true, true, false, false, false, false, false, false, false, false] rfl rfl (by kernel_rfl) (fun _ _ _ h => h) (Or.inl ⟨by rfl, ?_⟩) ?_ ?_
        rotate_left
        · intro w'
          go_simp
          with_reducible rfl
        rotate_left
        · simp only [Act.put, List.setIfInBounds_toArray, List.set_cons_zero, List.set_cons_succ, i64_w, i32_w]
          rfl
        refine pure_ (i := 21) (N := some 91) (v := ?_) (a' := ?_) #[true, true, true, true, true, true, true, true, true, true, true, true, true, true, true, true, true, true, true, true, true, true, false, false, false, false, false, false, false] rfl rfl (by kernel_rfl) (fun _ _ _ h => h) (Or.inl ⟨by rfl, ?_⟩) ?_ ?_
        rotate_left
        · intro w'
          go_simp
          with_reducible rfl
        rotate_left
        · simp only [Act.put, List.setIfInBounds_toArray, List.set_cons_zero, List.set_cons_succ, i64_w, i32_w]
          rfl
        refine pure_ (i := 22) (N := some 92) (v := ?_) (a' := ?_) #[true, true, true, true, true, true, true, true, true, true, true, true, true, true, true, true, true, true, true, true, true, true, true, false, false, false, false, false, false] rfl rfl (by kernel_rfl) (fun _ _ _ h => h) (Or.inl ⟨by rfl, ?_⟩) ?_ ?_
        rotate_left
        · intro w'
          go_simp
          with_reducible rfl
        rotate_left
        · simp only [Act.put, List.setIfInBounds_toArray, List.set_cons_zero, List.set_cons_succ, i64_w, i32_w]
          rfl
        refine pure_ (i := 23) (N := some 93) (v := .bool true) (a' := ?_) #[true, true, true, true, true, true, true, true, true, true, true, true, true, true, true, true, true, true, true, true, true, true, true, true, false, false, false, false, false] rfl rfl (by kernel_rfl) (fun _ _ _ h => h) (Or.inl ⟨by rfl, ?_⟩) ?_ ?_
        · intro w'
          go_simp
          first | done | with_reducible rfl | rfl | (simp; done) | (go_simp; simp; done)
        rotate_left
        · simp only [Act.put, List.setIfInBounds_toArray, List.set_cons_zero, List.set_cons_succ, i64_w, i32_w]
          rfl
        refine pure_ (i := 24) (N := some 94) (v := ?_) (a' := ?_) #[true, true, true, true, true, true, true, true, true, true, true, true, true, true, true, true, true, true, true, true, true, true, true, true, true, false, false, false, false] rfl rfl (by kernel_rfl) (fun _ _ _ h => h) (Or.inl ⟨by rfl, ?_⟩) ?_ ?_
        rotate_left
        · intro w'
          go_simp
          with_reducible rfl
        rotate_left
        · simp only [Act.put, List.setIfInBounds_toArray, List.set_cons_zero, List.set_cons_succ, i64_w, i32_w]
          rfl
        refine pure_ (i := 25) (N := some 95) (v := ?_) (a' := ?_) #[true, true, true, true, true, true, true, true, true, true, true, true, true, true, true, true, true, true, true, true, true, true, true, true, true, true, false, false, false] rfl rfl (by kernel_rfl) (fun _ _ _ h => h) (Or.inl ⟨by rfl, ?_⟩) ?_ ?_
        rotate_left
        · intro w'
          go_simp
          with_reducible rfl
        rotate_left
        · simp only [Act.put, List.setIfInBounds_toArray, List.set_cons_zero, List.set_cons_succ, i64_w, i32_w]
          rfl
        refine one_ (i := 26) (N := some 96) #[true, true, true, true, true, true, true, true, true, true, true, true, true, true, true, true, true, true, true, true, true, true, true, true, true, true, true, false, false] rfl rfl (by kernel_rfl) (by decide) (fun K hK => ?_)
        refine (goes_ Try.func22 (by kernel_rfl) rfl #[] (by rfl) rfl rfl (by (try simp only [List.map_toArray, List.map_cons, List.map_nil]); first | done | rfl) ?_)
        (with_reducible refine (p_awake _).mono ?_)
        rintro e w8 ⟨rfl, hb⟩
        refine ⟨_, rfl, ?_⟩
        have HB8 := Aside0.mk (below_step HB7.out hb)
        refine hK.out _ _ ⟨(blk_cell (blk_below BX7.out hb) 0).trans rfl, (blk_cell (blk_below BX7.out hb) 1).trans rfl, (blk_cell (blk_below BX7.out hb) 2).trans rfl⟩ (fun hHeld => ?_)
        clear hK K
        refine norm_ (a' := ?_) ?_ ?_
        rotate_left
        · show Act.put _ (some 96) _ = _
          simp only [Act.put, List.setIfInBounds_toArray, List.set_cons_zero, List.set_cons_succ, i64_w, i32_w]
          rfl
        refine pure_ (i := 27) (N := some 97) (v := ?_) (a' := ?_) #[true, true, true, true, true, true, true, true, true, true, true, true, true, true, true, true, true, true, true, true, true, true, true, true, true, true, true, true, false] rfl rfl (by kernel_rfl) (fun _ _ _ h => h) (Or.inl ⟨by rfl, ?_⟩) ?_ ?_
        rotate_left
        · intro w'
          go_simp
          with_reducible rfl
        rotate_left
        · simp only [Act.put, List.setIfInBounds_toArray, List.set_cons_zero, List.set_cons_succ, i64_w, i32_w]
          rfl
        refine pure_ (i := 28) (N := some 8) (v := ?_) (a' := ?_) #[true, true, true, true, true, true, true, true, true, true, true, true, true, true, true, true, true, true, true, true, true, true, true, true, true, true, true, true, true] rfl rfl (by kernel_rfl) (fun _ _ _ h => h) (Or.inl ⟨by rfl, ?_⟩) ?_ ?_
        rotate_left
        · intro w'
          go_simp
          with_reducible rfl
        rotate_left
        · simp only [Act.put, List.setIfInBounds_toArray, List.set_cons_zero, List.set_cons_succ, i64_w, i32_w]
          rfl
        refine done_ (by kernel_rfl) ?_
        go_wp2
        go_ret
        exact ⟨by first | rfl | simp [*], HB8.out⟩
end Go.Proofs.Ytimkacnkmoofdaa.Stk
