/- Levels rise as entries are put on, and are never above the limit, nor are there ever more entries than levels. No condition. -/
import Derived.Test.YtimkacnkmoofdaaStkD
namespace Go.Proofs.Ytimkacnkmoofdaa.Stk
open Go.RowKit Go.Proofs.YtimkacnkmoofdaaW.PrintWords Go.Proofs.YtimkacnkmoofdaaW.PrintLast Go.Proofs.YtimkacnkmoofdaaW.PrintMore
attribute [local go_sem] max2_int min2_int max_two min_two max_three min_three max_four min_four   -- for this text's walks alone
set_option linter.unusedVariables false
set_option linter.unusedSimpArgs false
set_option maxHeartbeats 40000000 in
set_option maxRecDepth 100000 in
theorem rises_walk (n0 : Int) (A : Option Addr) (cap : Nat) (q : List DoE) (w : World) (hQ : Kd.C kD w A q.length q) (hcap : q.length ≤ cap) (hm : q.length ≤ maxLen) :
    Calls Try.prog 3 #[.int .i64 n0, .slice A q.length cap] w fun e w' => e = .returned (.bool true) ∧ Below w.heap.size w w' := by
  unfold maxLen at hm
  have HQ := Aside0.mk hQ
  have HLM := Aside0.mk hm
  have hfl : ∀ (W : World) (x y : Int) (z : Bool), (Instr.field 28 (.agg #[.int .i64 x, .int .i64 y, .bool z]) 0).run Try.prog W = .ok (.int .i64 x) W := fun W x y z => by kernel_rfl
  have hud := Try.underlying26
  clear hQ hm
  go_enter Try.func3, Try.ntmps3
  go_wp2_with (first | (go_at_call 15; (with_reducible refine (p_new n0 w).mono ?_); rintro e w1 ⟨g, v, rfl, hS, hg, hb⟩; have HS1 := Aside0.mk hS; have HB1 := Aside0.mk hb; have HGG := Aside0.mk hg; clear hS hg hb))
  go_loopg [17] q.length (fun kq v17 w' => ∃ (i : Nat) (v : Value) (a b c : Int) (l : List Ent), v17 = .int .i64 (i : Int) ∧ Aside0 (i ≤ q.length ∧ q.length - i = kq) ∧ Aside0 (StkP w' w.heap.size g v a b c l) ∧ Aside0 (Good l) ∧ Aside0 (Below w.heap.size w w'))
  case atStart => exact ⟨0, v, 0, 0, 0, _, rfl, ⟨Nat.zero_le _, rfl⟩, HS1, ⟨Good.new n0⟩, HB1⟩
  case round =>
    clear HS1 HB1
    obtain ⟨i, v, a, b, c, l, rfl, HI, HS, HGD, HB⟩ := hrel
    by_cases hlt : i < q.length
    · have b0 : decide ((i : Int) < (q.length : Int)) = true := decide_eq_true (by omega)
      have b1 : decide (i < q.length) = true := decide_eq_true hlt
      have hm1 : (i : Int) + 1 ≤ 9223372036854775807 := by have := HLM.out; omega
      have hwr := Aside0.mk (show wrap64 ((i : Int) + 1) = ((i + 1 : Nat) : Int) by unfold wrap64; omega)
      obtain ⟨ad, ea, hq⟩ := at_D (Kd.C_below HQ.out HB.out) i hlt
      subst ea
      generalize (q.getD i zD).op = d0 at hq
      generalize (q.getD i zD).n = d1 at hq
      generalize (q.getD i zD).right = d2 at hq
      generalize (q.getD i zD).ov = d3 at hq
      have hi0 : (0 : Int) ≤ (i : Int) := by omega
      have hi1 : (i : Int) < (q.length : Int) := by omega
      replace hi0 := eq_true hi0
      replace hi1 := eq_true hi1
      have hi2 : (i < q.length) = True := eq_true hlt
      have HLT := Aside0.mk hlt
      clear hlt hm1
      by_cases h4 : 400 ≤ i
      · have b4 : decide ((400 : Int) ≤ (i : Int)) = true := decide_eq_true (by omega)
        have b5 : decide (400 ≤ i) = true := decide_eq_true h4
        clear h4
        go_wp2_with (first | ((with_reducible refine gate_dst (N := 7) rfl ?_); refine box_event ?hg (N := 7) ?hd (cs := #[.int .i64 0, .int .i64 0, .bool false, .int .i64 0]) (t := 26) ?hr ?_; (case hd => rfl); (case hg => rfl); (case hr => first | (go_simp; done) | (go_simp; rfl)); intro g7 hg w2 hbox hb; have BX := Aside0.mk hbox; have HB2 := Aside0.mk (below_then HB.out HB.out.size hb); have HS2 := Aside0.mk (stk_below HS.out hb); have HG7 := Aside0.mk (show wr.heap.size ≤ g7 by omega); have HBR := Aside0.mk hb; have HQ2 := Aside0.mk (show w2.cell? (ad.add (i * 4)) = some (.int .i64 d0) ∧ w2.cell? ⟨(ad.add (i * 4)).block, (ad.add (i * 4)).off + 1, none⟩ = some (.int .i64 d1) ∧ w2.cell? ⟨(ad.add (i * 4)).block, (ad.add (i * 4)).off + 2, none⟩ = some (.bool d2) ∧ w2.cell? ⟨(ad.add (i * 4)).block, (ad.add (i * 4)).off + 3, none⟩ = some (.int .i64 d3) from ⟨pw_cell_below hb hq.1, pw_cell_below hb hq.2.1, pw_cell_below hb hq.2.2.1, pw_cell_below hb hq.2.2.2⟩); have hn0 := blk_frozen BX.out 0; have hn1 := blk_frozen BX.out 1; have hn2 := blk_frozen BX.out 2; have hn3 := blk_frozen BX.out 3; have hb0 := (blk_cell BX.out 0).trans rfl; have hb1 := (blk_cell BX.out 1).trans rfl; have hb2 := (blk_cell BX.out 2).trans rfl; have hb3 := (blk_cell BX.out 3).trans rfl; have hq0 := HQ2.out.1; have hq1 := HQ2.out.2.1; have hq2 := HQ2.out.2.2.1; have hq3 := HQ2.out.2.2.2; clear hg hbox hb) | ((with_reducible refine gate_store (t := 26) (p := 7) rfl ?_); refine store_event (t := 26) (p := 7) (v := .tmp 21) (w1 := (((w2.setCell ⟨g7, 0, none⟩ (.int .i64 d0)).setCell ⟨g7, 1, none⟩ (.int .i64 d1)).setCell ⟨g7, 2, none⟩ (.bool d2)).setCell ⟨g7, 3, none⟩ (.int .i64 d3)) ?hg ?ho ?hn ?hr ?_; (case ho => rfl); (case hg => rfl); (case hn => rfl); (case hr => first | (go_simp; done) | (go_simp; rfl)); intro w3 hw; have BX3 := Aside0.mk (show w3.heap[g7]? = some (.cells #[.int .i64 d0, .int .i64 d1, .bool d2, .int .i64 d3] 26 (0, 0)) by rw [hw]; refine blk_put (cs := #[.int .i64 d0, .int .i64 d1, .bool d2, .int .i64 0]) ?_ 3 _ rfl; refine blk_put (cs := #[.int .i64 d0, .int .i64 d1, .bool false, .int .i64 0]) ?_ 2 _ rfl; refine blk_put (cs := #[.int .i64 d0, .int .i64 0, .bool false, .int .i64 0]) ?_ 1 _ rfl; exact blk_put BX.out 0 _ rfl); have HMB := Aside0.mk (show Below wr.heap.size wr w3 by rw [hw]; exact below_set (below_set (below_set (below_set HBR.out HG7.out) HG7.out) HG7.out) HG7.out); have HS3 := Aside0.mk (show StkP w3 w.heap.size g v a b c l from stk_below HS.out HMB.out); have HB3 := Aside0.mk (below_then HB.out HB.out.size HMB.out); clear hw hq0 hq1 hq2 hq3 hn0 hn1 hn2 hn3 hb0 hb1 hb2 hb3 HQ2 HS2 HB2 BX hq; have hx0 := (blk_cell BX3.out 0).trans rfl; have hx2 := (blk_cell BX3.out 2).trans rfl; have hx3 := (blk_cell BX3.out 3).trans rfl) | (go_at_call 22; (with_reducible refine (p_awake _).mono ?_); rintro e w9 ⟨rfl, hb⟩; have HB9 := Aside0.mk (below_then HB3.out HB3.out.size hb); clear hb))
        go_ret
        exact ⟨by first | rfl | simp [*], HB9.out⟩
      · have b4 : decide ((400 : Int) ≤ (i : Int)) = false := decide_eq_false (by omega)
        have b5 : decide (400 ≤ i) = false := decide_eq_false h4
        clear h4
        have HT := Aside0.mk (fun (W : World) (v : Value) (h : StkP W w.heap.size g v a b c l) => p_top h HGD.out.1 (by have := HGD.out.len; omega))
        have HGT := Aside0.mk HGD.out.top
        have HLE := Aside0.mk HGD.out.len
        have HPOS := Aside0.mk (show 0 < l.length from HGD.out.1)
        have HTN : ∃ t0 t1 t2, topE l = ⟨t0, t1, t2⟩ := ⟨_, _, _, rfl⟩
        obtain ⟨t0, t1, t2, ht⟩ := HTN
        have HTT := Aside0.mk ht
        rw [ht] at HT
        clear ht
        go_upto_block 2 with (first | ((with_reducible refine gate_dst (N := 7) rfl ?_); refine box_event ?hg (N := 7) ?hd (cs := #[.int .i64 0, .int .i64 0, .bool false, .int .i64 0]) (t := 26) ?hr ?_; (case hd => rfl); (case hg => rfl); (case hr => first | (go_simp; done) | (go_simp; rfl)); intro g7 hg w2 hbox hb; have BX := Aside0.mk hbox; have HB2 := Aside0.mk (below_then HB.out HB.out.size hb); have HS2 := Aside0.mk (stk_below HS.out hb); have HG7 := Aside0.mk (show wr.heap.size ≤ g7 by omega); have HBR := Aside0.mk hb; have HQ2 := Aside0.mk (show w2.cell? (ad.add (i * 4)) = some (.int .i64 d0) ∧ w2.cell? ⟨(ad.add (i * 4)).block, (ad.add (i * 4)).off + 1, none⟩ = some (.int .i64 d1) ∧ w2.cell? ⟨(ad.add (i * 4)).block, (ad.add (i * 4)).off + 2, none⟩ = some (.bool d2) ∧ w2.cell? ⟨(ad.add (i * 4)).block, (ad.add (i * 4)).off + 3, none⟩ = some (.int .i64 d3) from ⟨pw_cell_below hb hq.1, pw_cell_below hb hq.2.1, pw_cell_below hb hq.2.2.1, pw_cell_below hb hq.2.2.2⟩); have hn0 := blk_frozen BX.out 0; have hn1 := blk_frozen BX.out 1; have hn2 := blk_frozen BX.out 2; have hn3 := blk_frozen BX.out 3; have hb0 := (blk_cell BX.out 0).trans rfl; have hb1 := (blk_cell BX.out 1).trans rfl; have hb2 := (blk_cell BX.out 2).trans rfl; have hb3 := (blk_cell BX.out 3).trans rfl; have hq0 := HQ2.out.1; have hq1 := HQ2.out.2.1; have hq2 := HQ2.out.2.2.1; have hq3 := HQ2.out.2.2.2; clear hg hbox hb) | ((with_reducible refine gate_store (t := 26) (p := 7) rfl ?_); refine store_event (t := 26) (p := 7) (v := .tmp 21) (w1 := (((w2.setCell ⟨g7, 0, none⟩ (.int .i64 d0)).setCell ⟨g7, 1, none⟩ (.int .i64 d1)).setCell ⟨g7, 2, none⟩ (.bool d2)).setCell ⟨g7, 3, none⟩ (.int .i64 d3)) ?hg ?ho ?hn ?hr ?_; (case ho => rfl); (case hg => rfl); (case hn => rfl); (case hr => first | (go_simp; done) | (go_simp; rfl)); intro w3 hw; have BX3 := Aside0.mk (show w3.heap[g7]? = some (.cells #[.int .i64 d0, .int .i64 d1, .bool d2, .int .i64 d3] 26 (0, 0)) by rw [hw]; refine blk_put (cs := #[.int .i64 d0, .int .i64 d1, .bool d2, .int .i64 0]) ?_ 3 _ rfl; refine blk_put (cs := #[.int .i64 d0, .int .i64 d1, .bool false, .int .i64 0]) ?_ 2 _ rfl; refine blk_put (cs := #[.int .i64 d0, .int .i64 0, .bool false, .int .i64 0]) ?_ 1 _ rfl; exact blk_put BX.out 0 _ rfl); have HMB := Aside0.mk (show Below wr.heap.size wr w3 by rw [hw]; exact below_set (below_set (below_set (below_set HBR.out HG7.out) HG7.out) HG7.out) HG7.out); have HS3 := Aside0.mk (show StkP w3 w.heap.size g v a b c l from stk_below HS.out HMB.out); have HB3 := Aside0.mk (below_then HB.out HB.out.size HMB.out); clear hw hq0 hq1 hq2 hq3 hn0 hn1 hn2 hn3 hb0 hb1 hb2 hb3 HQ2 HS2 HB2 BX hq; have hx0 := (blk_cell BX3.out 0).trans rfl; have hx2 := (blk_cell BX3.out 2).trans rfl; have hx3 := (blk_cell BX3.out 3).trans rfl) | (go_at_call 16; (with_reducible refine (HT.out _ _ HS3.out).mono ?_); rintro e w4 ⟨rfl, hb⟩; have BX4 := Aside0.mk (blk_below BX3.out hb); have HS4 := Aside0.mk (show StkP w4 w.heap.size g v a b c l from stk_below HS3.out hb); have HB4 := Aside0.mk (below_then HB3.out HB3.out.size hb); clear hb hx0 hx2 hx3) | (go_at_call 17; (with_reducible refine (p_len HS4.out HPOS.out).mono ?_); rintro e w_ ⟨rfl, rfl⟩; have hx0 := (blk_cell BX4.out 0).trans rfl; have hx2 := (blk_cell BX4.out 2).trans rfl; have hx3 := (blk_cell BX4.out 3).trans rfl))
        go_cut [33] (fun _ wx => ∃ (v5 : Value) (a' b' c' : Int) (l' : List Ent), Aside0 (StkP wx w.heap.size g v5 a' b' c' l') ∧ Aside0 (Went l l') ∧ Aside0 (Below w.heap.size w wx))
        case first =>
          rcases op_cases d0 with rfl | rfl | rfl | rfl | rfl | rfl | rfl | rfl | rfl | hk
          · clear HT
            go_wp2_with (first | (go_at_call 18; (with_reducible refine (p_embed HS4.out HGD.out d2 d3).mono ?_); rintro e w5 ⟨v5, rfl, hS, hM⟩; have HS5 := Aside0.mk hS; have HB5 := Aside0.mk (HB4.out.trans (hM.below HS4.out)); clear hS hM))
            go_meet
            exact ⟨v5, _, _, _, _, HS5, ⟨Went.emb HGD.out d2 d3⟩, HB5⟩
          · clear HT
            go_wp2_with (first | (go_at_call 18; (with_reducible refine (p_embed HS4.out HGD.out d2 d3).mono ?_); rintro e w5 ⟨v5, rfl, hS, hM⟩; have HS5 := Aside0.mk hS; have HB5 := Aside0.mk (HB4.out.trans (hM.below HS4.out)); clear hS hM))
            go_meet
            exact ⟨v5, _, _, _, _, HS5, ⟨Went.emb HGD.out d2 d3⟩, HB5⟩
          · clear HT
            go_wp2_with (first | (go_at_call 18; (with_reducible refine (p_embed HS4.out HGD.out d2 d3).mono ?_); rintro e w5 ⟨v5, rfl, hS, hM⟩; have HS5 := Aside0.mk hS; have HB5 := Aside0.mk (HB4.out.trans (hM.below HS4.out)); clear hS hM))
            go_meet
            exact ⟨v5, _, _, _, _, HS5, ⟨Went.emb HGD.out d2 d3⟩, HB5⟩
          · clear HT
            go_wp2_with (first | (go_at_call 18; (with_reducible refine (p_embed HS4.out HGD.out d2 d3).mono ?_); rintro e w5 ⟨v5, rfl, hS, hM⟩; have HS5 := Aside0.mk hS; have HB5 := Aside0.mk (HB4.out.trans (hM.below HS4.out)); clear hS hM))
            go_meet
            exact ⟨v5, _, _, _, _, HS5, ⟨Went.emb HGD.out d2 d3⟩, HB5⟩
          · clear HT
            go_wp2_with (first | (go_at_call 19; (with_reducible refine (p_isolate HS4.out HGD.out d2).mono ?_); rintro e w5 ⟨v5, rfl, hS, hM⟩; have HS5 := Aside0.mk hS; have HB5 := Aside0.mk (HB4.out.trans (hM.below HS4.out)); clear hS hM))
            go_meet
            exact ⟨v5, _, _, _, _, HS5, ⟨Went.isol HGD.out d2⟩, HB5⟩
          · clear HT
            go_wp2_with (first | (go_at_call 19; (with_reducible refine (p_isolate HS4.out HGD.out d2).mono ?_); rintro e w5 ⟨v5, rfl, hS, hM⟩; have HS5 := Aside0.mk hS; have HB5 := Aside0.mk (HB4.out.trans (hM.below HS4.out)); clear hS hM))
            go_meet
            exact ⟨v5, _, _, _, _, HS5, ⟨Went.isol HGD.out d2⟩, HB5⟩
          · clear HT
            go_wp2_with (first | (go_at_call 19; (with_reducible refine (p_isolate HS4.out HGD.out d2).mono ?_); rintro e w5 ⟨v5, rfl, hS, hM⟩; have HS5 := Aside0.mk hS; have HB5 := Aside0.mk (HB4.out.trans (hM.below HS4.out)); clear hS hM))
            go_meet
            exact ⟨v5, _, _, _, _, HS5, ⟨Went.isol HGD.out d2⟩, HB5⟩
          · clear HT
            go_wp2_with (first | (go_at_call 19; (with_reducible refine (p_isolate HS4.out HGD.out d2).mono ?_); rintro e w5 ⟨v5, rfl, hS, hM⟩; have HS5 := Aside0.mk hS; have HB5 := Aside0.mk (HB4.out.trans (hM.below HS4.out)); clear hS hM))
            go_meet
            exact ⟨v5, _, _, _, _, HS5, ⟨Went.isol HGD.out d2⟩, HB5⟩
          · clear HT
            go_wp2_with (first | (go_at_call 20; (with_reducible refine (p_endembed HS4.out HGD.out).mono ?_); rintro e w5 ⟨v5, rfl, hS, hM⟩; have HS5 := Aside0.mk hS; have HB5 := Aside0.mk (HB4.out.trans (hM.below HS4.out)); clear hS hM))
            go_meet
            exact ⟨v5, _, _, _, _, HS5, ⟨Went.ee HGD.out⟩, HB5⟩
          · clear HT
            obtain ⟨n0_, n1_, n2_, n3_, n4_, n5_, n6_, n7_, n8_⟩ := hk
            have e0 := beq_eq_false_iff_ne.mpr n0_
            have e1 := beq_eq_false_iff_ne.mpr n1_
            have e2 := beq_eq_false_iff_ne.mpr n2_
            have e3 := beq_eq_false_iff_ne.mpr n3_
            have e4 := beq_eq_false_iff_ne.mpr n4_
            have e5 := beq_eq_false_iff_ne.mpr n5_
            have e6 := beq_eq_false_iff_ne.mpr n6_
            have e7 := beq_eq_false_iff_ne.mpr n7_
            have e8 := beq_eq_false_iff_ne.mpr n8_
            clear n0_ n1_ n2_ n3_ n4_ n5_ n6_ n7_ n8_
            go_wp2_with (first | (go_at_call 21; (with_reducible refine (p_endiso HS4.out HGD.out).mono ?_); rintro e w5 ⟨v5, rfl, hS, hM⟩; have HS5 := Aside0.mk hS; have HB5 := Aside0.mk (HB4.out.trans (hM.below HS4.out)); clear hS hM))
            go_meet
            exact ⟨v5, _, _, _, _, HS5, ⟨Went.ei HGD.out⟩, HB5⟩
        case rest =>
          obtain ⟨v5, a', b', c', l', HS5, HW, HB5⟩ := hcut
          have hw := hwr.out
          have HT5 := Aside0.mk (p_top HS5.out HW.out.1.1 (by have := HW.out.1.len; omega))
          have HL5 := Aside0.mk (fun (W : World) (h : StkP W w.heap.size g v5 a' b' c' l') => p_len h HW.out.1.1)
          obtain ⟨u0, u1, u2, ht⟩ : ∃ u0 u1 u2, topE l' = ⟨u0, u1, u2⟩ := ⟨_, _, _, rfl⟩
          have hu := HW.out.1.top
          have hup := HW.out.2.1
          have hdn := HW.out.2.2
          have hlen := HW.out.1.len
          have hpos := HW.out.1.1
          rw [ht] at hu hup hdn HT5
          rw [HTT.out] at hup hdn
          dsimp only at hu hup hdn
          have HG5 := Aside0.mk HW.out.1
          have e0 : decide ((125 : Int) < u0) = false := decide_eq_false (by omega)
          generalize hn1 : l.length = n1 at *
          generalize hn2 : l'.length = n2 at *
          have HN1 := Aside0.mk hn1
          clear hn1 hn2
          have e1 : decide ((126 : Int) < (n2 : Int)) = false := decide_eq_false (by omega)
          have e1' : decide (126 < n2) = false := decide_eq_false (by omega)
          have e2 : decide ((n2 : Int) < 1) = false := decide_eq_false (by omega)
          have e2' : decide (n2 < 1) = false := decide_eq_false (by omega)
          have e2'' : decide (n2 = 0) = false := decide_eq_false (by omega)
          rcases Nat.lt_trichotomy n1 n2 with h | h | h
          · have c0 : decide ((n1 : Int) < (n2 : Int)) = true := decide_eq_true (by omega)
            have c0' : decide (n1 < n2) = true := decide_eq_true h
            have c1 : decide (u0 ≤ t0) = false := decide_eq_false (by have := hup h; omega)
            have c2 : decide ((n2 : Int) < (n1 : Int)) = false := decide_eq_false (by omega)
            have c2' : decide (n2 < n1) = false := decide_eq_false (by omega)
            clear h hup hdn hlen hpos hu ht
            go_wp2_with (first | (go_at_call 16; (with_reducible refine (HT5.out).mono ?_); rintro e w6 ⟨rfl, hb⟩; have HS6 := Aside0.mk (show StkP w6 w.heap.size g v5 a' b' c' l' from stk_below HS5.out hb); have HB6 := Aside0.mk (below_then HB5.out HB5.out.size hb); clear hb) | (go_at_call 17; (with_reducible refine (HL5.out _ HS6.out).mono ?_); rintro e w_ ⟨rfl, rfl⟩))
            go_roundg (q.length - (i + 1))
            case measure => have := HI.out; have := HLT.out; omega
            case rel => exact ⟨i + 1, v5, a', b', c', l', by first | rfl | go_num, ⟨by have := HLT.out; omega, rfl⟩, HS6, HG5, HB6⟩
          · have c0 : decide ((n1 : Int) < (n2 : Int)) = false := decide_eq_false (by omega)
            have c0' : decide (n1 < n2) = false := decide_eq_false (by omega)
            have c2 : decide ((n2 : Int) < (n1 : Int)) = false := decide_eq_false (by omega)
            have c2' : decide (n2 < n1) = false := decide_eq_false (by omega)
            clear h hup hdn hlen hpos hu ht
            go_wp2_with (first | (go_at_call 16; (with_reducible refine (HT5.out).mono ?_); rintro e w6 ⟨rfl, hb⟩; have HS6 := Aside0.mk (show StkP w6 w.heap.size g v5 a' b' c' l' from stk_below HS5.out hb); have HB6 := Aside0.mk (below_then HB5.out HB5.out.size hb); clear hb) | (go_at_call 17; (with_reducible refine (HL5.out _ HS6.out).mono ?_); rintro e w_ ⟨rfl, rfl⟩))
            go_roundg (q.length - (i + 1))
            case measure => have := HI.out; have := HLT.out; omega
            case rel => exact ⟨i + 1, v5, a', b', c', l', by first | rfl | go_num, ⟨by have := HLT.out; omega, rfl⟩, HS6, HG5, HB6⟩
          · have c0 : decide ((n1 : Int) < (n2 : Int)) = false := decide_eq_false (by omega)
            have c0' : decide (n1 < n2) = false := decide_eq_false (by omega)
            have c1 : decide (t0 ≤ u0) = false := decide_eq_false (by have := hdn h; omega)
            have c2 : decide ((n2 : Int) < (n1 : Int)) = true := decide_eq_true (by omega)
            have c2' : decide (n2 < n1) = true := decide_eq_true h
            clear h hup hdn hlen hpos hu ht
            go_wp2_with (first | (go_at_call 16; (with_reducible refine (HT5.out).mono ?_); rintro e w6 ⟨rfl, hb⟩; have HS6 := Aside0.mk (show StkP w6 w.heap.size g v5 a' b' c' l' from stk_below HS5.out hb); have HB6 := Aside0.mk (below_then HB5.out HB5.out.size hb); clear hb) | (go_at_call 17; (with_reducible refine (HL5.out _ HS6.out).mono ?_); rintro e w_ ⟨rfl, rfl⟩))
            go_roundg (q.length - (i + 1))
            case measure => have := HI.out; have := HLT.out; omega
            case rel => exact ⟨i + 1, v5, a', b', c', l', by first | rfl | go_num, ⟨by have := HLT.out; omega, rfl⟩, HS6, HG5, HB6⟩
    · have b0 : decide ((i : Int) < (q.length : Int)) = false := decide_eq_false (by omega)
      have b1 : decide (i < q.length) = false := decide_eq_false hlt
      clear hlt
      go_wp2_with (first | (go_at_call 22; (with_reducible refine (p_awake _).mono ?_); rintro e w9 ⟨rfl, hb⟩; have HB9 := Aside0.mk (below_then HB.out HB.out.size hb); clear hb))
      go_ret
      exact ⟨by first | rfl | simp [*], HB9.out⟩
end Go.Proofs.Ytimkacnkmoofdaa.Stk
