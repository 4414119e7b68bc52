/- The trie: whether ranges may be. -/
import Derived.Test.YtmkgihmchkphaaaTrP5
namespace Go.Proofs.Ytmkgihmchkphaaa.Stk
open Go.RowKit Go.Proofs.YtmkgihmchkphaaaW.PrintWords Go.Proofs.YtmkgihmchkphaaaW.PrintLast Go.Proofs.YtmkgihmchkphaaaW.PrintMore
attribute [local go_sem] max2_int min2_int max_two min_two max_three min_three max_four min_four   -- for this text's walks alone
set_option linter.unusedVariables false
set_option linter.unusedSimpArgs false
def chkL : List Rg → Int → Int
  | [], _ => 0
  | r :: l, last => if r.lo ≤ last ∨ r.hi < r.lo ∨ 1114111 < r.hi then 10 else chkL l r.hi
/-- What may answers. -/
def chk (l : List Rg) : Int := if 4096 < l.length then 6 else chkL l (-1)
theorem chk_step {l : List Rg} {i : Nat} (h : i < l.length) (last : Int) : chkL (l.drop i) last = if (rgAt l i).lo ≤ last ∨ (rgAt l i).hi < (rgAt l i).lo ∨ 1114111 < (rgAt l i).hi then 10 else chkL (l.drop (i + 1)) (rgAt l i).hi := by
  rw [List.drop_eq_getElem_cons h]
  have e : rgAt l i = l[i] := by simp [rgAt, List.getD, h]
  rw [e]
  rfl
theorem chk_end {l : List Rg} {i : Nat} (h : ¬ i < l.length) (last : Int) : chkL (l.drop i) last = 0 := by
  rw [List.drop_eq_nil_of_le (by omega)]
  rfl
theorem chkL_ok : ∀ {l : List Rg} {last : Int}, chkL l last = 0 → (∀ i, i < l.length → last < (rgAt l i).lo ∧ (rgAt l i).lo ≤ (rgAt l i).hi ∧ (rgAt l i).hi ≤ 1114111) ∧ ∀ i j, i < j → j < l.length → (rgAt l i).hi < (rgAt l j).lo
  | [], _, _ => ⟨fun i hi => absurd hi (by simp), fun i j _ hj => absurd hj (by simp)⟩
  | r :: l, last, h => by
    unfold chkL at h
    split at h
    · exact absurd h (by decide)
    · rename_i hn
      obtain ⟨h1, h2⟩ := chkL_ok h
      refine ⟨fun i hi => ?_, fun i j hij hj => ?_⟩
      · cases i with
        | zero => show last < r.lo ∧ r.lo ≤ r.hi ∧ r.hi ≤ 1114111; omega
        | succ i =>
          have h3 := h1 i (by simpa using hi)
          show last < (rgAt l i).lo ∧ (rgAt l i).lo ≤ (rgAt l i).hi ∧ (rgAt l i).hi ≤ 1114111
          omega
      · cases j with
        | zero => omega
        | succ j =>
          have h3 := h1 j (by simpa using hj)
          cases i with
          | zero => exact h3.1
          | succ i => exact h2 i j (by omega) (by simpa using hj)
theorem chk_ok {l : List Rg} (h : chk l = 0) : l.length ≤ 4096 ∧ OkL l := by
  unfold chk at h
  split at h
  · exact absurd h (by decide)
  · obtain ⟨h1, h2⟩ := chkL_ok h
    exact ⟨by omega, fun i hi => by have := h1 i hi; omega, h2⟩
theorem chkL_is : ∀ (l : List Rg) (last : Int), chkL l last = 0 ∨ chkL l last = 10
  | [], _ => .inl rfl
  | r :: l, last => by unfold chkL; split; exact .inr rfl; exact chkL_is l _
theorem chk_is (l : List Rg) : chk l = 0 ∨ chk l = 6 ∨ chk l = 10 := by
  unfold chk; split
  · exact .inr (.inl rfl)
  · rcases chkL_is l (-1) with h | h
    · exact .inl h
    · exact .inr (.inr h)
set_option maxHeartbeats 8000000 in
set_option maxRecDepth 100000 in
theorem p_may {w : World} {A : Option Addr} {cc : Nat} {l : List Rg} (hC : Kd.C kR w A l.length l) :
    Calls Try.prog 80 #[.slice A l.length cc] w (fun e w' => e = .returned (.int .i64 (chk l)) ∧ Below w.heap.size w w') := by
  have HC := Aside0.mk hC
  have hk39 := Try.underlying66
  by_cases hl : 4096 < l.length
  · have e1 : chk l = 6 := by unfold chk; rw [if_pos hl]
    have b0 : decide ((l.length : Int) > 4096) = true := decide_eq_true (by omega)
    have b1 : decide (4096 < l.length) = true := decide_eq_true (by omega)
    have b2 : decide ((4096 : Int) < (l.length : Int)) = true := decide_eq_true (by omega)
    rw [e1]
    clear hC hl e1
    go_enter Try.func80, Try.ntmps80
    go_wp2
    go_ret
    exact ⟨by first | rfl | (simp; done), by first | exact Below.refl _ _ | exact (Below.refl _ _).drew⟩
  · have e1 : chk l = chkL l (-1) := by unfold chk; rw [if_neg hl]
    have b0 : decide ((l.length : Int) > 4096) = false := decide_eq_false (by omega)
    have b1 : decide (4096 < l.length) = false := decide_eq_false (by omega)
    have b2 : decide ((4096 : Int) < (l.length : Int)) = false := decide_eq_false (by omega)
    have HL := Aside0.mk (show l.length ≤ 4096 by omega)
    rw [e1]
    clear hC hl e1
    go_enter Try.func80, Try.ntmps80
    go_wp2
    go_loopg [3, 11] (l.length + 1) (fun kq v3 v11 w' => ∃ (i : Nat) (last : Int), v3 = .int .i64 last ∧ v11 = .int .i64 (i : Int) ∧ Aside0 (l.length + 1 - i ≤ kq ∧ chkL (l.drop i) last = chkL l (-1)) ∧ Aside0 (Below w.heap.size w w'))
    case atStart => exact ⟨0, -1, rfl, rfl, ⟨Nat.sub_le _ _, rfl⟩, ⟨by first | exact Below.refl _ _ | exact (Below.refl _ _).drew⟩⟩
    case round =>
      obtain ⟨i, last, rfl, rfl, HI, HB⟩ := hrel
      by_cases hlt : i < l.length
      · have q0 := decide_eq_true (show (i : Int) < (l.length : Int) by omega)
        have q1 := decide_eq_true hlt
        have r0 := eq_true (show (i : Int) < (l.length : Int) by omega)
        have r1 := eq_true hlt
        have r2 := eq_true (show (0 : Int) ≤ (i : Int) by omega)
        obtain ⟨ad, e, x0_, x1_, x2_⟩ := at_Rg (Kd.C_below HC.out HB.out) i hlt
        cases e
        have HST := Aside0.mk (chk_step hlt last)
        obtain ⟨x0, hx0⟩ : ∃ x, (rgAt l i).lo = x := ⟨_, rfl⟩
        obtain ⟨x1, hx1⟩ : ∃ x, (rgAt l i).hi = x := ⟨_, rfl⟩
        obtain ⟨x2, hx2⟩ : ∃ x, (rgAt l i).va = x := ⟨_, rfl⟩
        rw [hx0] at x0_
        rw [hx1] at x1_
        rw [hx2] at x2_
        have HX := Aside0.mk (And.intro hx0 (And.intro hx1 hx2))
        have HLT := Aside0.mk hlt
        have hwi : IntKind.i64.wrap ((i : Int) + 1) = ((i + 1 : Nat) : Int) := (i64_w _).trans (by have := HL.out; unfold wrap64; omega)
        clear hx0 hx1 hx2
        by_cases h1 : x0 ≤ last
        · have d1 : decide (x0 ≤ last) = true := decide_eq_true h1
          have HR := Aside0.mk (HI.out.2.symm.trans (HST.out.trans (if_pos (.inl (by rw [HX.out.1]; exact h1)))))
          clear h1 hlt
          go_wp2_with (first | ((with_reducible refine gate_dst (N := 5) rfl ?_); refine wp_alloc_cells rfl 66 rfl _ zero_rng ?_; intro g5 hg w5 hb hB; have H5 := Aside0.mk hb; have HB5 := Aside0.mk (below_step HB.out hB); have HG5 := Aside0.mk (show w.heap.size ≤ g5 by have := HB.out.size; omega); have c0 := (blk_cell H5.out 0).trans rfl; have c1 := (blk_cell H5.out 1).trans rfl; have c2 := (blk_cell H5.out 2).trans rfl; have f0 := blk_frozen H5.out 0; have f1 := blk_frozen H5.out 1; have f2 := blk_frozen H5.out 2; clear hg hb hB))
          go_ret
          exact ⟨by rw [HR.out]; first | rfl | (simp; done), ((((Wrote.set w5 g5 0 (.int .i64 x0)).trans (Wrote.set _ g5 1 (.int .i64 x1))).trans (Wrote.set _ g5 2 (.int .i64 x2))).below HB5.out HG5.out)⟩
        · by_cases h2 : x1 < x0
          · have d1 : decide (x0 ≤ last) = false := decide_eq_false h1
            have d2 : decide (x1 < x0) = true := decide_eq_true h2
            have HR := Aside0.mk (HI.out.2.symm.trans (HST.out.trans (if_pos (.inr (.inl (by rw [HX.out.1, HX.out.2.1]; exact h2))))))
            clear h1 h2 hlt
            go_wp2_with (first | ((with_reducible refine gate_dst (N := 5) rfl ?_); refine wp_alloc_cells rfl 66 rfl _ zero_rng ?_; intro g5 hg w5 hb hB; have H5 := Aside0.mk hb; have HB5 := Aside0.mk (below_step HB.out hB); have HG5 := Aside0.mk (show w.heap.size ≤ g5 by have := HB.out.size; omega); have c0 := (blk_cell H5.out 0).trans rfl; have c1 := (blk_cell H5.out 1).trans rfl; have c2 := (blk_cell H5.out 2).trans rfl; have f0 := blk_frozen H5.out 0; have f1 := blk_frozen H5.out 1; have f2 := blk_frozen H5.out 2; clear hg hb hB))
            go_ret
            exact ⟨by rw [HR.out]; first | rfl | (simp; done), ((((Wrote.set w5 g5 0 (.int .i64 x0)).trans (Wrote.set _ g5 1 (.int .i64 x1))).trans (Wrote.set _ g5 2 (.int .i64 x2))).below HB5.out HG5.out)⟩
          · by_cases h3 : 1114111 < x1
            · have d1 : decide (x0 ≤ last) = false := decide_eq_false h1
              have d2 : decide (x1 < x0) = false := decide_eq_false h2
              have d3 : decide (x1 > 1114111) = true := decide_eq_true h3
              have d4 : decide (1114111 < x1) = true := decide_eq_true h3
              have HR := Aside0.mk (HI.out.2.symm.trans (HST.out.trans (if_pos (.inr (.inr (by rw [HX.out.2.1]; exact h3))))))
              clear h1 h2 h3 hlt
              go_wp2_with (first | ((with_reducible refine gate_dst (N := 5) rfl ?_); refine wp_alloc_cells rfl 66 rfl _ zero_rng ?_; intro g5 hg w5 hb hB; have H5 := Aside0.mk hb; have HB5 := Aside0.mk (below_step HB.out hB); have HG5 := Aside0.mk (show w.heap.size ≤ g5 by have := HB.out.size; omega); have c0 := (blk_cell H5.out 0).trans rfl; have c1 := (blk_cell H5.out 1).trans rfl; have c2 := (blk_cell H5.out 2).trans rfl; have f0 := blk_frozen H5.out 0; have f1 := blk_frozen H5.out 1; have f2 := blk_frozen H5.out 2; clear hg hb hB))
              go_ret
              exact ⟨by rw [HR.out]; first | rfl | (simp; done), ((((Wrote.set w5 g5 0 (.int .i64 x0)).trans (Wrote.set _ g5 1 (.int .i64 x1))).trans (Wrote.set _ g5 2 (.int .i64 x2))).below HB5.out HG5.out)⟩
            · have d1 : decide (x0 ≤ last) = false := decide_eq_false h1
              have d2 : decide (x1 < x0) = false := decide_eq_false h2
              have d3 : decide (x1 > 1114111) = false := decide_eq_false h3
              have d4 : decide (1114111 < x1) = false := decide_eq_false h3
              have HR := Aside0.mk ((HST.out.trans (if_neg (by rw [HX.out.1, HX.out.2.1]; omega))).symm.trans HI.out.2)
              rw [HX.out.2.1] at HR
              clear h1 h2 h3 hlt
              go_wp2_with (first | ((with_reducible refine gate_dst (N := 5) rfl ?_); refine wp_alloc_cells rfl 66 rfl _ zero_rng ?_; intro g5 hg w5 hb hB; have H5 := Aside0.mk hb; have HB5 := Aside0.mk (below_step HB.out hB); have HG5 := Aside0.mk (show w.heap.size ≤ g5 by have := HB.out.size; omega); have c0 := (blk_cell H5.out 0).trans rfl; have c1 := (blk_cell H5.out 1).trans rfl; have c2 := (blk_cell H5.out 2).trans rfl; have f0 := blk_frozen H5.out 0; have f1 := blk_frozen H5.out 1; have f2 := blk_frozen H5.out 2; clear hg hb hB))
              go_roundg (l.length + 1 - (i + 1))
              case measure => have h1_ := HI.out.1; have h2_ := HLT.out; omega
              case rel => exact ⟨i + 1, x1, rfl, by first | rfl | go_num | rw [hwi], ⟨Nat.le_refl _, HR.out⟩, ⟨((((Wrote.set w5 g5 0 (.int .i64 x0)).trans (Wrote.set _ g5 1 (.int .i64 x1))).trans (Wrote.set _ g5 2 (.int .i64 x2))).below HB5.out HG5.out)⟩⟩
      · have q0 := decide_eq_false (show ¬ (i : Int) < (l.length : Int) by omega)
        have q1 := decide_eq_false hlt
        have HR := Aside0.mk (HI.out.2.symm.trans (chk_end hlt last))
        clear hlt
        go_wp2
        go_ret
        exact ⟨by rw [HR.out]; first | rfl | (simp; done), HB.out⟩
end Go.Proofs.Ytmkgihmchkphaaa.Stk
