import Derived.Test.YtknghhlielhleaaDoorSpP9
namespace Go.Proofs.YtknghhlielhleaaDoor.Stk
open Go.RowKit Go.Proofs.YtknghhlielhleaaDoorW.PrintWords Go.Proofs.YtknghhlielhleaaDoorW.PrintLast Go.Proofs.YtknghhlielhleaaDoorW.PrintMore
attribute [local go_sem] max2_int min2_int max_two min_two max_three min_three max_four min_four   -- for this text's walks alone
set_option linter.unusedVariables false
set_option linter.unusedSimpArgs false
set_option maxHeartbeats 8000000 in
set_option maxRecDepth 100000 in
theorem p_said_f {w : World} {r o j : Nat} {ws : List ByteArray} {cells : Array Value} {f : Int} {b0 : Bool} (hr : w.heap[r]? = some (.cells (ws.map Value.string).toArray 9 (0, 0))) (hl : 0 < ws.length) (ho : w.heap[o]? = some (.cells cells 24 (0, 0))) (hc : cells[j]? = some (.bool b0)) :
    Calls Tryd.prog 27 #[.agg #[.slice (some ⟨r, 0, none⟩) ws.length ws.length, .pointer none, .pointer (some ⟨o, j, none⟩), .int .i64 f]] w fun e w' => e = .returned (.tuple #[.string (ws.getD 0 ⟨#[]⟩), .bool b0]) ∧ Below w.heap.size w w' := by
  have hu := Tryd.underlying49
  have HR := Aside0.mk hr
  have HO := Aside0.mk ho
  have HC := Aside0.mk hc
  have q0 := decide_eq_true (show (0 : Int) < (ws.length : Int) by omega)
  have q1 := decide_eq_true hl
  have r0 := eq_true (show (0 : Int) < (ws.length : Int) by omega)
  have r1 := eq_true hl
  have HL := Aside0.mk hl
  obtain ⟨x, hx⟩ : ∃ x, ws.getD 0 ⟨#[]⟩ = x := ⟨_, rfl⟩
  rw [hx]
  have HX := Aside0.mk hx
  clear hr ho hl hc hx
  go_enter Tryd.func27, Tryd.ntmps27
  go_wp2_with (first | ((with_reducible refine gate_dst (N := 1) rfl ?_); refine box_event ?hg (N := 1) ?hd (cs := #[.slice (some ⟨r, 0, none⟩) ws.length ws.length, .pointer none, .pointer (some ⟨o, j, none⟩), .int .i64 f]) (t := 49) ?hr ?_; (case hd => rfl); (case hg => rfl); (case hr => first | (go_simp; done) | (go_simp; rfl)); intro g hg w1 hbox hb; have HB := Aside0.mk hb; have HRW := blk_below HR.out hb; have c_ := row_str HRW 0 HL.out; rw [HX.out] at c_; have k0 := (blk_cell hbox 0).trans rfl; have k1 := (blk_cell hbox 1).trans rfl; have k2 := (blk_cell hbox 2).trans rfl; have k3 := (blk_cell hbox 3).trans rfl; have kc := (blk_cell (blk_below HO.out hb) j).trans HC.out; clear hg hbox hb HRW))
  repeat (go_quiet (fail); try go_wp2)
  go_ret2
  exact ⟨by first | rfl | (simp; done), (by (with_reducible repeat (first | apply pw_below_drewN | apply below_drew1)); exact HB.out)⟩
set_option maxHeartbeats 8000000 in
set_option maxRecDepth 100000 in
theorem p_said_n {w : World} {r o j : Nat} {ws : List ByteArray} {cells : Array Value} {f n0 : Int} (hr : w.heap[r]? = some (.cells (ws.map Value.string).toArray 9 (0, 0))) (hl : ws.length ≤ 100) (ho : w.heap[o]? = some (.cells cells 24 (0, 0))) (hc : cells[j]? = some (.int .i64 n0)) (hn : -1 ≤ n0 - f ∧ n0 - f < (ws.length : Int)) :
    Calls Tryd.prog 27 #[.agg #[.slice (some ⟨r, 0, none⟩) ws.length ws.length, .pointer (some ⟨o, j, none⟩), .pointer none, .int .i64 f]] w fun e w' => e = .returned (.tuple (if 0 ≤ n0 - f then #[.string (ws.getD (n0 - f).toNat ⟨#[]⟩), .bool true] else #[.string ⟨#[]⟩, .bool false])) ∧ Below w.heap.size w w' := by
  have hu := Tryd.underlying49
  have HR := Aside0.mk hr
  have HO := Aside0.mk ho
  have HC := Aside0.mk hc
  have hw : wrap64 (n0 - f) = n0 - f := by unfold wrap64; omega
  have HL := Aside0.mk hl
  clear hr ho hl hc
  by_cases h0 : 0 ≤ n0 - f
  · rw [if_pos h0]
    obtain ⟨k, hk⟩ : ∃ k : Nat, n0 - f = (k : Int) := ⟨(n0 - f).toNat, by omega⟩
    have HW := Aside0.mk (hw.trans hk)
    rw [hk] at hn ⊢
    rw [Int.toNat_natCast]
    have HK := Aside0.mk (show k < ws.length by omega)
    have q0 := decide_eq_true (show (k : Int) < (ws.length : Int) by omega)
    have q1 := decide_eq_true HK.out
    have q2 := decide_eq_false (show ¬ (k : Int) < 0 by omega)
    have q3 := decide_eq_false (show ¬ (k : Int) ≥ (ws.length : Int) by omega)
    have q4 := decide_eq_false (show ¬ (ws.length : Int) ≤ (k : Int) by omega)
    have q5 := decide_eq_false (show ¬ ws.length ≤ k by omega)
    have r0 := eq_true (show (k : Int) < (ws.length : Int) by omega)
    have r1 := eq_true HK.out
    have r2 := eq_true (show (0 : Int) ≤ (k : Int) by omega)
    obtain ⟨x, hx⟩ : ∃ x, ws.getD k ⟨#[]⟩ = x := ⟨_, rfl⟩
    rw [hx]
    have HX := Aside0.mk hx
    clear h0 hn hk hx hw
    go_enter Tryd.func27, Tryd.ntmps27
    go_wp2_with (first | ((with_reducible refine gate_dst (N := 1) rfl ?_); refine box_event ?hg (N := 1) ?hd (cs := #[.slice (some ⟨r, 0, none⟩) ws.length ws.length, .pointer (some ⟨o, j, none⟩), .pointer none, .int .i64 f]) (t := 49) ?hr ?_; (case hd => rfl); (case hg => rfl); (case hr => first | (go_simp; done) | (go_simp; rfl)); intro g hg w1 hbox hb; have HB := Aside0.mk hb; have HRW := blk_below HR.out hb; have c_ := row_str HRW k HK.out; rw [HX.out] at c_; have k0 := (blk_cell hbox 0).trans rfl; have k1 := (blk_cell hbox 1).trans rfl; have k2 := (blk_cell hbox 2).trans rfl; have k3 := (blk_cell hbox 3).trans rfl; have kc := (blk_cell (blk_below HO.out hb) j).trans HC.out; clear hg hbox hb HRW))
    go_quiet (fail)
    rw [HW.out]
    go_wp2
    repeat (go_quiet (fail); try go_wp2)
    go_ret2
    exact ⟨by first | rfl | (simp; done), (by (with_reducible repeat (first | apply pw_below_drewN | apply below_drew1)); exact HB.out)⟩
  · rw [if_neg h0]
    have q2 := decide_eq_true (show n0 - f < 0 by omega)
    have q3 := decide_eq_false h0
    have HW := Aside0.mk hw
    clear h0 hn hw
    go_enter Tryd.func27, Tryd.ntmps27
    go_wp2_with (first | ((with_reducible refine gate_dst (N := 1) rfl ?_); refine box_event ?hg (N := 1) ?hd (cs := #[.slice (some ⟨r, 0, none⟩) ws.length ws.length, .pointer (some ⟨o, j, none⟩), .pointer none, .int .i64 f]) (t := 49) ?hr ?_; (case hd => rfl); (case hg => rfl); (case hr => first | (go_simp; done) | (go_simp; rfl)); intro g hg w1 hbox hb; have HB := Aside0.mk hb; have HRW := blk_below HR.out hb;  have k0 := (blk_cell hbox 0).trans rfl; have k1 := (blk_cell hbox 1).trans rfl; have k2 := (blk_cell hbox 2).trans rfl; have k3 := (blk_cell hbox 3).trans rfl; have kc := (blk_cell (blk_below HO.out hb) j).trans HC.out; clear hg hbox hb HRW))
    go_quiet (fail)
    rw [HW.out]
    go_wp2
    repeat (go_quiet (fail); try go_wp2)
    go_ret2
    exact ⟨by first | rfl | (simp; done), (by (with_reducible repeat (first | apply pw_below_drewN | apply below_drew1)); exact HB.out)⟩
def sayB (v : Nat → Int) (i : Nat) : Bool := if i < 4 then decide (0 ≤ v i - cFr i) else v i == 1
def sayS (v : Nat → Int) (i : Nat) : ByteArray := if i < 4 then (if 0 ≤ v i - cFr i then (W i).getD (v i - cFr i).toNat ⟨#[]⟩ else ⟨#[]⟩) else (W i).getD 0 ⟨#[]⟩
def okN (v : Nat → Int) : Prop := (0 ≤ v 0 ∧ v 0 < 4) ∧ (0 ≤ v 1 ∧ v 1 < 5) ∧ (0 ≤ v 2 ∧ v 2 < 5) ∧ (0 ≤ v 3 ∧ v 3 < 5)
theorem okN_chk {v : Nat → Int} (h : chkF v = 0) : okN v := by
  unfold chkF at h
  by_cases h1 : (0 ≤ v 0 ∧ v 0 < 4) ∧ (0 ≤ v 1 ∧ v 1 < 5) ∧ (0 ≤ v 2 ∧ v 2 < 5) ∧ (0 ≤ v 3 ∧ v 3 < 5)
  · exact h1
  · rw [if_neg h1] at h; exact absurd h (by decide)
theorem okN_at {v : Nat → Int} (h : okN v) (i : Nat) (hi : i < 4) : -1 ≤ v i - cFr i ∧ v i - cFr i < ((W i).length : Int) := by
  obtain ⟨h0, h1, h2, h3⟩ := h
  obtain rfl | rfl | rfl | rfl : i = 0 ∨ i = 1 ∨ i = 2 ∨ i = 3 := by omega
  all_goals (first | (show -1 ≤ v 0 - 0 ∧ v 0 - 0 < 4; omega) | (show -1 ≤ v 1 - 1 ∧ v 1 - 1 < 4; omega) | (show -1 ≤ v 2 - 1 ∧ v 2 - 1 < 4; omega) | (show -1 ≤ v 3 - 1 ∧ v 3 - 1 < 4; omega))
theorem W_pos (i : Nat) (hi : i < 14) : 0 < (W i).length := by
  obtain rfl | rfl | rfl | rfl | rfl | rfl | rfl | rfl | rfl | rfl | rfl | rfl | rfl | rfl : i = 0 ∨ i = 1 ∨ i = 2 ∨ i = 3 ∨ i = 4 ∨ i = 5 ∨ i = 6 ∨ i = 7 ∨ i = 8 ∨ i = 9 ∨ i = 10 ∨ i = 11 ∨ i = 12 ∨ i = 13 := by omega
  all_goals decide
theorem W_len' (i : Nat) (hi : i < 14) : (W i).length ≤ 100 := by
  obtain rfl | rfl | rfl | rfl | rfl | rfl | rfl | rfl | rfl | rfl | rfl | rfl | rfl | rfl : i = 0 ∨ i = 1 ∨ i = 2 ∨ i = 3 ∨ i = 4 ∨ i = 5 ∨ i = 6 ∨ i = 7 ∨ i = 8 ∨ i = 9 ∨ i = 10 ∨ i = 11 ∨ i = 12 ∨ i = 13 := by omega
  all_goals decide
theorem p_said {w : World} {o gA : Nat} {r : Nat → Nat} {v : Nat → Int} (h : FAt w o gA r) (ho : w.heap[o]? = some (.cells (ovc v) 24 (0, 0))) (hn : okN v) (i : Nat) (hi : i < 14) :
    Calls Tryd.prog 27 #[.agg #[cS (r i) i, cN o i, cF o i, .int .i64 (cFr i)]] w (fun e w' => e = .returned (.tuple #[.string (sayS v i), .bool (sayB v i)]) ∧ Below w.heap.size w w') := by
  by_cases h4 : i < 4
  · have hc : (ovc v)[i]? = some (.int .i64 (v i)) := by
      obtain rfl | rfl | rfl | rfl : i = 0 ∨ i = 1 ∨ i = 2 ∨ i = 3 := by omega
      all_goals rfl
    have c := p_said_n (h.2.1 i hi) (W_len' i hi) ho hc (okN_at hn i h4)
    rw [show cN o i = .pointer (some ⟨o, i, none⟩) by unfold cN; rw [if_pos h4], show cF o i = .pointer none by unfold cF; rw [if_pos h4]]
    refine c.mono ?_
    rintro e w' ⟨rfl, hb⟩
    refine ⟨?_, hb⟩
    unfold sayS sayB
    rw [if_pos h4, if_pos h4]
    by_cases h0 : 0 ≤ v i - cFr i
    · rw [if_pos h0, if_pos h0, decide_eq_true h0]
    · rw [if_neg h0, if_neg h0, decide_eq_false h0]
  · have hc : (ovc v)[i]? = some (.bool (v i == 1)) := by
      obtain rfl | rfl | rfl | rfl | rfl | rfl | rfl | rfl | rfl | rfl : i = 4 ∨ i = 5 ∨ i = 6 ∨ i = 7 ∨ i = 8 ∨ i = 9 ∨ i = 10 ∨ i = 11 ∨ i = 12 ∨ i = 13 := by omega
      all_goals rfl
    have c := p_said_f (f := cFr i) (h.2.1 i hi) (W_pos i hi) ho hc
    rw [show cN o i = .pointer none by unfold cN; rw [if_neg h4], show cF o i = .pointer (some ⟨o, i, none⟩) by unfold cF; rw [if_neg h4]]
    refine c.mono ?_
    rintro e w' ⟨rfl, hb⟩
    refine ⟨?_, hb⟩
    unfold sayS sayB
    rw [if_neg h4, if_neg h4]
end Go.Proofs.YtknghhlielhleaaDoor.Stk
