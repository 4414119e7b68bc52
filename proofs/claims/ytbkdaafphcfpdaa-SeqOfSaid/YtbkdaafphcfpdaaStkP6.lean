import Derived.Test.YtbkdaafphcfpdaaStkP5
namespace Go.Proofs.Ytbkdaafphcfpdaa.Stk
open Go.RowKit Go.Proofs.YtbkdaafphcfpdaaW.PrintWords Go.Proofs.YtbkdaafphcfpdaaW.PrintLast Go.Proofs.YtbkdaafphcfpdaaW.PrintMore
attribute [local go_sem] max2_int min2_int max_two min_two max_three min_three max_four min_four   -- for this text's walks alone
set_option linter.unusedVariables false
set_option linter.unusedSimpArgs false
def popE (l : List Ent) : List Ent := if 2 ≤ l.length then l.take (l.length - 1) else l
def dropI : Nat → List Ent → List Ent
  | 0, l => l
  | n + 1, l => if (topE l).iso = true then l else if 2 ≤ l.length then dropI n (l.take (l.length - 1)) else l
theorem popE_len (l : List Ent) : (popE l).length ≤ l.length := by unfold popE; split <;> simp <;> omega
theorem popE_pos {l : List Ent} (h : 0 < l.length) : 0 < (popE l).length := by
  unfold popE
  split
  · simp; omega
  · exact h
theorem dropI_pos : ∀ (n : Nat) (l : List Ent), 0 < l.length → 0 < (dropI n l).length ∧ (dropI n l).length ≤ l.length
  | 0, l, h => ⟨h, Nat.le_refl _⟩
  | n + 1, l, h => by
    unfold dropI
    split
    · exact ⟨h, Nat.le_refl _⟩
    · split
      · have := dropI_pos n (l.take (l.length - 1)) (by simp; omega)
        simp at this ⊢
        omega
      · exact ⟨h, Nat.le_refl _⟩
set_option maxHeartbeats 8000000 in
set_option maxRecDepth 100000 in
theorem p_endembed_over {w : World} {base g : Nat} {v : Value} {a b c : Int} {l : List Ent} (h : StkP w base g v a b c l) (hl : 0 < l.length) (hm : l.length ≤ 35184372088) (ha : 0 < a) :
    Calls Try.prog 64 #[.pointer (some ⟨g, 0, none⟩)] w (Upd w base g v (.returned (.tuple #[])) a b c l) := by
  unfold Upd
  have hk := Try.underlying87
  have hkc := Try.underlying85
  have HS := Aside0.mk h
  have HM := Aside0.mk (p_made h true (decide_eq_true hl))
  have hc0 := (blk_cell h.1 0).trans rfl
  have hc1 := (blk_cell h.1 1).trans rfl
  have hc2 := (blk_cell h.1 2).trans rfl
  have hf0 := blk_frozen h.1 0
  have hf1 := blk_frozen h.1 1
  have hf2 := blk_frozen h.1 2
  have da : decide (0 < a) = true := decide_eq_true ha
  clear h hl hm ha
  go_enter Try.func64, Try.ntmps64
  go_wp2_with (first | (go_at_call 71; (with_reducible refine (HM.out).mono ?_); rintro e w1 ⟨rfl, rfl⟩))
  first | go_end0 | ((try simp only [Exit.inBlock, Exit.then]); refine bodyPost_ret (results_none rfl _ _ _) rfl ?_)
  exact ⟨v, by first | rfl | simp [*], HS.out, Mv.refl _ _ _⟩
set_option maxHeartbeats 8000000 in
set_option maxRecDepth 100000 in
theorem p_endembed_count {w : World} {base g : Nat} {v : Value} {a b c : Int} {l : List Ent} (h : StkP w base g v a b c l) (hl : 0 < l.length) (hm : l.length ≤ 35184372088) (ha : ¬ 0 < a) (hb : 0 < b) :
    Calls Try.prog 64 #[.pointer (some ⟨g, 0, none⟩)] w (Upd w base g v (.returned (.tuple #[])) a (wrap64 (b - 1)) c l) := by
  unfold Upd
  have hk := Try.underlying87
  have hkc := Try.underlying85
  have HS := Aside0.mk h
  have HM := Aside0.mk (p_made h true (decide_eq_true hl))
  have hc0 := (blk_cell h.1 0).trans rfl
  have hc1 := (blk_cell h.1 1).trans rfl
  have hc2 := (blk_cell h.1 2).trans rfl
  have hf0 := blk_frozen h.1 0
  have hf1 := blk_frozen h.1 1
  have hf2 := blk_frozen h.1 2
  have da : decide (0 < a) = false := decide_eq_false ha
  have db : decide (0 < b) = true := decide_eq_true hb
  clear h hl hm ha hb
  go_enter Try.func64, Try.ntmps64
  go_wp2_with (first | (go_at_call 71; (with_reducible refine (HM.out).mono ?_); rintro e w1 ⟨rfl, rfl⟩))
  first | go_end0 | ((try simp only [Exit.inBlock, Exit.then]); refine bodyPost_ret (results_none rfl _ _ _) rfl ?_)
  exact ⟨v, by first | rfl | simp [*], stk_set HS.out 1 _ rfl, (Mv.refl _ _ _).set 1 _⟩
set_option maxHeartbeats 8000000 in
set_option maxRecDepth 100000 in
theorem p_endembed_pop {w : World} {base g : Nat} {v : Value} {a b c : Int} {l : List Ent} (h : StkP w base g v a b c l) (hl : 0 < l.length) (hm : l.length ≤ 35184372088) (ha : ¬ 0 < a) (hb : ¬ 0 < b) (ht : (topE l).iso = false) :
    Calls Try.prog 64 #[.pointer (some ⟨g, 0, none⟩)] w (Upd w base g v (.returned (.tuple #[])) a b c (popE l)) := by
  unfold Upd
  have hk := Try.underlying87
  have hkc := Try.underlying85
  have HS := Aside0.mk h
  have HM := Aside0.mk (p_made h true (decide_eq_true hl))
  have hc0 := (blk_cell h.1 0).trans rfl
  have hc1 := (blk_cell h.1 1).trans rfl
  have hc2 := (blk_cell h.1 2).trans rfl
  have hf0 := blk_frozen h.1 0
  have hf1 := blk_frozen h.1 1
  have hf2 := blk_frozen h.1 2
  have da : decide (0 < a) = false := decide_eq_false ha
  have db : decide (0 < b) = false := decide_eq_false hb
  have HT := Aside0.mk (p_top h hl (by omega))
  have hfl : ∀ (W : World) (x y : Int) (z : Bool), (Instr.field 82 (.agg #[.int .i64 x, .int .i64 y, .bool z]) 2).run Try.prog W = .ok (.bool z) W := fun W x y z => by kernel_rfl
  have HP := Aside0.mk (fun (W : World) (hb : Below w.heap.size w W) => p_pop (stk_below h hb) hl (by omega))
  rw [ht] at HT
  unfold popE
  generalize (if 2 ≤ l.length then l.take (l.length - 1) else l) = l2 at HP ⊢
  clear h hl hm ha hb ht
  go_enter Try.func64, Try.ntmps64
  go_wp2_with (first | (go_at_call 71; (with_reducible refine (HM.out).mono ?_); rintro e w1 ⟨rfl, rfl⟩) | (go_at_call 72; (with_reducible refine (HT.out).mono ?_); rintro e w2 ⟨rfl, hb2⟩; have HB := Aside0.mk hb2; clear hb2) | (go_at_call 73; (with_reducible refine (HP.out _ HB.out).mono ?_); rintro e w4 ⟨v4, rfl, hS4, hM4⟩; have HS4 := Aside0.mk hS4; have HM4 := Aside0.mk hM4; clear hS4 hM4))
  first | go_end0 | ((try simp only [Exit.inBlock, Exit.then]); refine bodyPost_ret (results_none rfl _ _ _) rfl ?_)
  exact ⟨v4, by first | rfl | simp [*], HS4.out, (Mv.of_below HB.out _ _).trans HM4.out⟩
set_option maxHeartbeats 8000000 in
set_option maxRecDepth 100000 in
theorem p_endembed_stay {w : World} {base g : Nat} {v : Value} {a b c : Int} {l : List Ent} (h : StkP w base g v a b c l) (hl : 0 < l.length) (hm : l.length ≤ 35184372088) (ha : ¬ 0 < a) (hb : ¬ 0 < b) (ht : (topE l).iso = true) :
    Calls Try.prog 64 #[.pointer (some ⟨g, 0, none⟩)] w (Upd w base g v (.returned (.tuple #[])) a b c l) := by
  unfold Upd
  have hk := Try.underlying87
  have hkc := Try.underlying85
  have HS := Aside0.mk h
  have HM := Aside0.mk (p_made h true (decide_eq_true hl))
  have hc0 := (blk_cell h.1 0).trans rfl
  have hc1 := (blk_cell h.1 1).trans rfl
  have hc2 := (blk_cell h.1 2).trans rfl
  have hf0 := blk_frozen h.1 0
  have hf1 := blk_frozen h.1 1
  have hf2 := blk_frozen h.1 2
  have da : decide (0 < a) = false := decide_eq_false ha
  have db : decide (0 < b) = false := decide_eq_false hb
  have HT := Aside0.mk (p_top h hl (by omega))
  have hfl : ∀ (W : World) (x y : Int) (z : Bool), (Instr.field 82 (.agg #[.int .i64 x, .int .i64 y, .bool z]) 2).run Try.prog W = .ok (.bool z) W := fun W x y z => by kernel_rfl
  rw [ht] at HT
  clear h hl hm ha hb ht
  go_enter Try.func64, Try.ntmps64
  go_wp2_with (first | (go_at_call 71; (with_reducible refine (HM.out).mono ?_); rintro e w1 ⟨rfl, rfl⟩) | (go_at_call 72; (with_reducible refine (HT.out).mono ?_); rintro e w2 ⟨rfl, hb2⟩; have HB := Aside0.mk hb2; clear hb2))
  first | go_end0 | ((try simp only [Exit.inBlock, Exit.then]); refine bodyPost_ret (results_none rfl _ _ _) rfl ?_)
  exact ⟨v, by first | rfl | simp [*], stk_below HS.out HB.out, Mv.of_below HB.out _ _⟩
set_option maxHeartbeats 8000000 in
set_option maxRecDepth 100000 in
theorem p_endiso_count {w : World} {base g : Nat} {v : Value} {a b c : Int} {l : List Ent} (h : StkP w base g v a b c l) (hl : 0 < l.length) (hm : l.length ≤ 35184372088) (ha : 0 < a) :
    Calls Try.prog 61 #[.pointer (some ⟨g, 0, none⟩)] w (Upd w base g v (.returned (.tuple #[])) (wrap64 (a - 1)) b c l) := by
  unfold Upd
  have hk := Try.underlying87
  have hkc := Try.underlying85
  have HS := Aside0.mk h
  have HM := Aside0.mk (p_made h true (decide_eq_true hl))
  have hc0 := (blk_cell h.1 0).trans rfl
  have hc1 := (blk_cell h.1 1).trans rfl
  have hc2 := (blk_cell h.1 2).trans rfl
  have hf0 := blk_frozen h.1 0
  have hf1 := blk_frozen h.1 1
  have hf2 := blk_frozen h.1 2
  have da : decide (0 < a) = true := decide_eq_true ha
  clear h hl hm ha
  go_enter Try.func61, Try.ntmps61
  go_wp2_with (first | (go_at_call 71; (with_reducible refine (HM.out).mono ?_); rintro e w1 ⟨rfl, rfl⟩))
  first | go_end0 | ((try simp only [Exit.inBlock, Exit.then]); refine bodyPost_ret (results_none rfl _ _ _) rfl ?_)
  exact ⟨v, by first | rfl | simp [*], stk_set HS.out 0 _ rfl, (Mv.refl _ _ _).set 0 _⟩
set_option maxHeartbeats 8000000 in
set_option maxRecDepth 100000 in
theorem p_endiso_none {w : World} {base g : Nat} {v : Value} {a b c : Int} {l : List Ent} (h : StkP w base g v a b c l) (hl : 0 < l.length) (hm : l.length ≤ 35184372088) (ha : ¬ 0 < a) (hc : ¬ 0 < c) :
    Calls Try.prog 61 #[.pointer (some ⟨g, 0, none⟩)] w (Upd w base g v (.returned (.tuple #[])) a b c l) := by
  unfold Upd
  have hk := Try.underlying87
  have hkc := Try.underlying85
  have HS := Aside0.mk h
  have HM := Aside0.mk (p_made h true (decide_eq_true hl))
  have hc0 := (blk_cell h.1 0).trans rfl
  have hc1 := (blk_cell h.1 1).trans rfl
  have hc2 := (blk_cell h.1 2).trans rfl
  have hf0 := blk_frozen h.1 0
  have hf1 := blk_frozen h.1 1
  have hf2 := blk_frozen h.1 2
  have da : decide (0 < a) = false := decide_eq_false ha
  have dc : decide (0 < c) = false := decide_eq_false hc
  clear h hl hm ha hc
  go_enter Try.func61, Try.ntmps61
  go_wp2_with (first | (go_at_call 71; (with_reducible refine (HM.out).mono ?_); rintro e w1 ⟨rfl, rfl⟩))
  first | go_end0 | ((try simp only [Exit.inBlock, Exit.then]); refine bodyPost_ret (results_none rfl _ _ _) rfl ?_)
  exact ⟨v, by first | rfl | simp [*], HS.out, Mv.refl _ _ _⟩
set_option maxHeartbeats 8000000 in
set_option maxRecDepth 100000 in
theorem p_endiso_drop {w : World} {base g : Nat} {v : Value} {a b c : Int} {l : List Ent} (h : StkP w base g v a b c l) (hl : 0 < l.length) (hm : l.length ≤ 35184372088) (ha : ¬ 0 < a) (hc : 0 < c) :
    Calls Try.prog 61 #[.pointer (some ⟨g, 0, none⟩)] w (Upd w base g v (.returned (.tuple #[])) a 0 (wrap64 (c - 1)) (popE (dropI l.length l))) := by
  unfold Upd
  have hk := Try.underlying87
  have hkc := Try.underlying85
  have HS := Aside0.mk h
  have HM := Aside0.mk (p_made h true (decide_eq_true hl))
  have hc0 := (blk_cell h.1 0).trans rfl
  have hc1 := (blk_cell h.1 1).trans rfl
  have hc2 := (blk_cell h.1 2).trans rfl
  have hf0 := blk_frozen h.1 0
  have hf1 := blk_frozen h.1 1
  have hf2 := blk_frozen h.1 2
  have da : decide (0 < a) = false := decide_eq_false ha
  have dc : decide (0 < c) = true := decide_eq_true hc
  have HLM := Aside0.mk hm
  have HL0 := Aside0.mk hl
  have HS1 := Aside0.mk (stk_set (cells' := #[.int .i64 a, .int .i64 0, .int .i64 c, v]) h 1 (.int .i64 0) rfl)
  have HM1 := Aside0.mk ((Mv.refl w g v).set 1 (.int .i64 0))
  have hfl : ∀ (W : World) (x y : Int) (z : Bool), (Instr.field 82 (.agg #[.int .i64 x, .int .i64 y, .bool z]) 2).run Try.prog W = .ok (.bool z) W := fun W x y z => by kernel_rfl
  clear h hl hm ha hc
  go_enter Try.func61, Try.ntmps61
  go_wp2_with (first | (go_at_call 71; (with_reducible refine (HM.out).mono ?_); rintro e w1 ⟨rfl, rfl⟩))
  clear hc0 hc1 hc2 hf0 hf1 hf2 HS HM
  generalize w.setCell ⟨g, 1, none⟩ (.int .i64 0) = w1 at HS1 HM1 ⊢
  go_loopg [40] l.length (fun kq _ w' => ∃ (v1 : Value) (l1 : List Ent), Aside0 (StkP w' base g v1 a 0 c l1) ∧ Aside0 (Mv w w' g v v1) ∧ Aside0 (0 < l1.length ∧ l1.length = kq ∧ l1.length ≤ 35184372088 ∧ dropI l1.length l1 = dropI l.length l))
  case atStart => exact ⟨v, l, HS1, HM1, ⟨HL0.out, rfl, HLM.out, rfl⟩⟩
  case round =>
    clear HS1 HM1 HL0
    obtain ⟨v1, l1, HS1, HM1, HI⟩ := hrel
    have HT := Aside0.mk (p_top HS1.out HI.out.1 (by have := HI.out; omega))
    have HP := Aside0.mk (fun (W : World) (hb : Below wr.heap.size wr W) => p_pop (stk_below HS1.out hb) HI.out.1 (by have := HI.out; omega))
    by_cases ht : (topE l1).iso = true
    · rw [ht] at HT
      have HR := Aside0.mk (show dropI l.length l = l1 by
        have h1 := HI.out
        rw [← h1.2.2.2]
        obtain ⟨n, hn⟩ : ∃ n, l1.length = n + 1 := ⟨l1.length - 1, by omega⟩
        rw [hn, dropI, if_pos ht])
      clear ht
      go_wp2_with (first | (go_at_call 72; (with_reducible refine (HT.out).mono ?_); rintro e w2 ⟨rfl, hb2⟩; have HB := Aside0.mk hb2; clear hb2) | (go_at_call 73; (with_reducible refine (HP.out _ HB.out).mono ?_); rintro e w4 ⟨v4, rfl, hS4, hM4⟩; have HS4 := Aside0.mk hS4; have HM4 := Aside0.mk hM4; clear hS4 hM4; have hc2 := (blk_cell HS4.out.1 2).trans rfl; have hf2 := blk_frozen HS4.out.1 2))
      first | go_end0 | ((try simp only [Exit.inBlock, Exit.then]); refine bodyPost_ret (results_none rfl _ _ _) rfl ?_)
      rw [HR.out]
      unfold popE
      exact ⟨v4, by first | rfl | simp [*], stk_set HS4.out 2 _ rfl, (HM1.out.trans ((Mv.of_below HB.out _ _).trans HM4.out)).set 2 _⟩
    · have ht0 : (topE l1).iso = false := Bool.eq_false_iff.mpr ht
      rw [ht0] at HT
      by_cases h2 : 2 ≤ l1.length
      · have HR := Aside0.mk (show dropI (l1.take (l1.length - 1)).length (l1.take (l1.length - 1)) = dropI l.length l by
          have h1 := HI.out
          rw [← h1.2.2.2]
          have h3 : (l1.take (l1.length - 1)).length = l1.length - 1 := by simp
          obtain ⟨n, hn⟩ : ∃ n, l1.length = n + 1 := ⟨l1.length - 1, by omega⟩
          rw [h3, hn, Nat.add_sub_cancel, dropI, if_neg ht, if_pos (by omega), hn, Nat.add_sub_cancel])
        rw [decide_eq_true h2, if_pos h2] at HP
        have HX := Aside0.mk (show 0 < (l1.take (l1.length - 1)).length ∧ (l1.take (l1.length - 1)).length ≤ 35184372088 ∧ (l1.take (l1.length - 1)).length < gk by have := HI.out; simp; omega)
        clear ht ht0 h2 HI
        generalize l1.take (l1.length - 1) = l2 at HP HR HX
        go_wp2_with (first | (go_at_call 72; (with_reducible refine (HT.out).mono ?_); rintro e w2 ⟨rfl, hb2⟩; have HB := Aside0.mk hb2; clear hb2) | (go_at_call 73; (with_reducible refine (HP.out _ HB.out).mono ?_); rintro e w4 ⟨v4, rfl, hS4, hM4⟩; have HS4 := Aside0.mk hS4; have HM4 := Aside0.mk hM4; clear hS4 hM4))
        go_roundg l2.length
        case measure => exact HX.out.2.2
        case rel => exact ⟨v4, l2, HS4, ⟨HM1.out.trans ((Mv.of_below HB.out _ _).trans HM4.out)⟩, ⟨HX.out.1, rfl, HX.out.2.1, HR.out⟩⟩
      · have HR := Aside0.mk (show dropI l.length l = l1 by
          have h1 := HI.out
          rw [← h1.2.2.2]
          obtain ⟨n, hn⟩ : ∃ n, l1.length = n + 1 := ⟨l1.length - 1, by omega⟩
          rw [hn, dropI, if_neg ht, if_neg (by omega)])
        have HP0 := HP
        rw [decide_eq_false h2, if_neg h2] at HP
        have HI2 := Aside0.mk (show popE l1 = l1 by unfold popE; rw [if_neg h2])
        have HPP := Aside0.mk (fun (W W1 : World) (v4 : Value) (hS : StkP W base g v4 a 0 c l1) (_ : Calls Try.prog 73 #[.pointer (some ⟨g, 0, none⟩)] W (Upd W base g v4 (.returned (.bool false)) a 0 c l1)) => hS)
        have HQ := Aside0.mk (fun (W : World) (v4 : Value) (hS : StkP W base g v4 a 0 c l1) => (by have h3 := p_pop hS HI.out.1 (by have := HI.out; omega); rw [decide_eq_false h2, if_neg h2] at h3; exact h3 : Calls Try.prog 73 #[.pointer (some ⟨g, 0, none⟩)] W (Upd W base g v4 (.returned (.bool false)) a 0 c l1)))
        clear ht ht0 h2 HI HP0 HPP
        go_wp2_with (first | (go_at_call 72; (with_reducible refine (HT.out).mono ?_); rintro e w2 ⟨rfl, hb2⟩; have HB := Aside0.mk hb2; clear hb2) | (have hn_ := HS4; go_at_call 73; (with_reducible refine (HQ.out _ _ HS4.out).mono ?_); rintro e w5 ⟨v5, rfl, hS5, hM5⟩; have HS5 := Aside0.mk hS5; have HM5 := Aside0.mk hM5; clear hS5 hM5 hn_; have hc2 := (blk_cell HS5.out.1 2).trans rfl; have hf2 := blk_frozen HS5.out.1 2) | (go_at_call 73; (with_reducible refine (HP.out _ HB.out).mono ?_); rintro e w4 ⟨v4, rfl, hS4, hM4⟩; have HS4 := Aside0.mk hS4; have HM4 := Aside0.mk hM4; clear hS4 hM4))
        first | go_end0 | ((try simp only [Exit.inBlock, Exit.then]); refine bodyPost_ret (results_none rfl _ _ _) rfl ?_)
        rw [HR.out, HI2.out]
        exact ⟨v5, by first | rfl | simp [*], stk_set HS5.out 2 _ rfl, ((HM1.out.trans ((Mv.of_below HB.out _ _).trans HM4.out)).trans HM5.out).set 2 _⟩
end Go.Proofs.Ytbkdaafphcfpdaa.Stk
