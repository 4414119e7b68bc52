import Derived.Test.YtbkdaafphcfpdaaSqW
namespace Go.Proofs.Ytbkdaafphcfpdaa.Stk
open Go.RowKit Go.Proofs.YtbkdaafphcfpdaaW.PrintWords Go.Proofs.YtbkdaafphcfpdaaW.PrintLast Go.Proofs.YtbkdaafphcfpdaaW.PrintMore
attribute [local go_sem] max2_int min2_int max_two min_two max_three min_three max_four min_four   -- for this text's walks alone
set_option linter.unusedVariables false
set_option linter.unusedSimpArgs false
def Tx (w : World) (g rb : Nat) (L B M K : List Int) (bs : Int) (f : Int → Option Value) : Prop :=
  ∃ (Al : Option Addr) (cl : Nat) (Ab : Option Addr) (cb : Nat) (Am : Option Addr) (cm : Nat) (Ak : Option Addr) (ck n : Nat),
    w.heap[g]? = some (.cells #[.slice Al L.length cl, .slice Ab B.length cb, .slice Am M.length cm, .slice Ak K.length ck, .map (some rb), .int .i64 bs] 80 (0, 0)) ∧
    (L.length ≤ cl ∧ Kd.C (Kd.int .i64) w Al L.length L) ∧ (B.length ≤ cb ∧ Kd.C (Kd.int .i64) w Ab B.length B) ∧ (M.length ≤ cm ∧ Kd.C (Kd.int .i64) w Am M.length M) ∧ (K.length ≤ ck ∧ Kd.C (Kd.int .i64) w Ak K.length K) ∧ MapIs Try.prog 3 w rb n f
section
variable {w w' : World} {g rb : Nat} {L B M K : List Int} {bs : Int} {f : Int → Option Value}
theorem tx_below (h : Tx w g rb L B M K bs f) (hb : Below w.heap.size w w') : Tx w' g rb L B M K bs f := by
  obtain ⟨Al, cl, Ab, cb, Am, cm, Ak, ck, n, hG, hl, hb_, hm, hk, hM⟩ := h
  exact ⟨Al, cl, Ab, cb, Am, cm, Ak, ck, n, blk_below hG hb, ⟨hl.1, Kd.C_below hl.2 hb⟩, ⟨hb_.1, Kd.C_below hb_.2 hb⟩, ⟨hm.1, Kd.C_below hm.2 hb⟩, ⟨hk.1, Kd.C_below hk.2 hb⟩, map_below hM hb⟩
theorem tx_lt (h : Tx w g rb L B M K bs f) : g < w.heap.size := by
  obtain ⟨Al, cl, Ab, cb, Am, cm, Ak, ck, n, hG, _⟩ := h
  exact blk_lt hG
theorem c_but {A : Option Addr} {n b : Nat} {xs : List Int} (h : Kd.C (Kd.int .i64) w A n xs) (hk : KeepBut w w' b none) {es : Array MapEntry} {c : Nat} (hb : w.heap[b]? = some (.map es c)) : Kd.C (Kd.int .i64) w' A n xs := by
  refine Kd.C_keep (d := (0 : Int)) h hk (fun ad hA hn e => ?_)
  subst hA
  obtain ⟨ad', e', hc⟩ := Kd.at_int h 0 (by omega) (by exact_mod_cast hn)
  cases e'
  rw [← e] at hb
  simp [World.cell?, Addr.add, hb] at hc
theorem tx_but (h : Tx w g rb L B M K bs f) {b : Nat} (hk : KeepBut w w' b none) {es : Array MapEntry} {c : Nat} (hb : w.heap[b]? = some (.map es c)) (hr : rb ≠ b) : Tx w' g rb L B M K bs f := by
  obtain ⟨Al, cl, Ab, cb, Am, cm, Ak, ck, n, hG, hl, hb_, hm, hk_, hM⟩ := h
  exact ⟨Al, cl, Ab, cb, Am, cm, Ak, ck, n, (hk.2 g (blk_lt hG) (by rintro rfl; rw [hb] at hG; cases hG) (by simp)).trans hG, ⟨hl.1, c_but hl.2 hk hb⟩, ⟨hb_.1, c_but hb_.2 hk hb⟩, ⟨hm.1, c_but hm.2 hk hb⟩, ⟨hk_.1, c_but hk_.2 hk hb⟩, map_keep hM hk hr (by simp)⟩
end
def isoB (c : Int) : Bool := if c = 19 then true else if c = 20 then true else if c = 21 then true else false
def nearF (L K : List Int) (bs n : Int) : Option Int := if n < 0 then some bs else if n < (K.length : Int) then (if 0 ≤ rd K n then (if rd K n < (L.length : Int) then some (rd L (rd K n)) else none) else none) else some bs
def dirF (a b : Int) : Int := if Go.bits .and .i64 (mx a b) 1 = 1 then 1 else 0
set_option maxHeartbeats 8000000 in
set_option maxRecDepth 100000 in
theorem p_dir (a b : Int) (w : World) : Calls Try.prog 53 #[.int .i64 a, .int .i64 b] w fun e w' => e = .returned (.int .i64 (dirF a b)) ∧ Drawn0 w w' := by
  unfold dirF
  obtain ⟨m, hm⟩ : ∃ m, mx a b = m := ⟨_, rfl⟩
  have hm_ : (if a < b then b else a) = m := hm
  rw [hm]
  by_cases c : Go.bits .and .i64 m 1 = 1
  · rw [if_pos c]
    have c1 : (Go.bits .and .i64 m 1 == 1) = true := beq_iff_eq.mpr c
    clear c
    go_enter Try.func53, Try.ntmps53
    go_wp2
    go_ret
    exact ⟨by first | rfl | (simp; done) | (simp [*]; done), by repeat (first | exact Drawn0.refl _ | apply Drawn0.step)⟩
  · rw [if_neg c]
    have c1 : (Go.bits .and .i64 m 1 == 1) = false := beq_eq_false_iff_ne.mpr c
    clear c
    go_enter Try.func53, Try.ntmps53
    go_wp2
    go_ret
    exact ⟨by first | rfl | (simp; done) | (simp [*]; done), by repeat (first | exact Drawn0.refl _ | apply Drawn0.step)⟩
set_option maxHeartbeats 8000000 in
set_option maxRecDepth 100000 in
theorem p_iso {w : World} {g rb : Nat} {L B M K : List Int} {bs : Int} {f : Int → Option Value} (h : Tx w g rb L B M K bs f) (i : Int) (h0 : 0 ≤ i) (h1 : i < (B.length : Int)) (h2 : i < (M.length : Int)) :
    Calls Try.prog 36 #[.pointer (some ⟨g, 0, none⟩), .int .i64 i] w fun e w' => e = .returned (.tuple #[.int .i64 (if isoB (rd B i) = true then rd M i else 0), .bool (isoB (rd B i))]) ∧ Drawn0 w w' := by
  obtain ⟨Al, cl, Ab, cb, Am, cm, Ak, ck, n, hG, hl, hb, hm, hk, hM⟩ := h
  have k1 := (blk_cell hG 1).trans rfl
  have k2 := (blk_cell hG 2).trans rfl
  obtain ⟨ab, e, xb⟩ := Kd.at_int hb.2 i h0 h1
  cases e
  obtain ⟨am, e, xm⟩ := Kd.at_int hm.2 i h0 h2
  cases e
  have d0 : decide (0 ≤ i) = true := decide_eq_true h0
  have d1 : decide (i < (B.length : Int)) = true := decide_eq_true h1
  have d2 : decide (i < (M.length : Int)) = true := decide_eq_true h2
  replace h0 := eq_true h0
  replace h1 := eq_true h1
  replace h2 := eq_true h2
  clear hl hb hm hk hM
  unfold isoB
  by_cases c19 : rd B i = 19
  · simp only [if_pos c19, if_true]
    rw [c19] at xb
    go_enter Try.func36, Try.ntmps36
    go_wp2
    go_ret2
    exact ⟨by first | rfl | (simp; done) | (simp [*]; done), by repeat (first | exact Drawn0.refl _ | apply Drawn0.step)⟩
  by_cases c20 : rd B i = 20
  · simp only [if_neg c19, if_pos c20, if_true]
    have e19 : (rd B i == 19) = false := beq_eq_false_iff_ne.mpr c19
    have d19 : decide (rd B i = 19) = false := decide_eq_false c19
    rw [c20] at xb
    go_enter Try.func36, Try.ntmps36
    go_wp2
    go_ret2
    exact ⟨by first | rfl | (simp; done) | (simp [*]; done), by repeat (first | exact Drawn0.refl _ | apply Drawn0.step)⟩
  by_cases c21 : rd B i = 21
  · simp only [if_neg c19, if_neg c20, if_pos c21, if_true]
    have e19 : (rd B i == 19) = false := beq_eq_false_iff_ne.mpr c19
    have d19 : decide (rd B i = 19) = false := decide_eq_false c19
    have e20 : (rd B i == 20) = false := beq_eq_false_iff_ne.mpr c20
    have d20 : decide (rd B i = 20) = false := decide_eq_false c20
    rw [c21] at xb
    go_enter Try.func36, Try.ntmps36
    go_wp2
    go_ret2
    exact ⟨by first | rfl | (simp; done) | (simp [*]; done), by repeat (first | exact Drawn0.refl _ | apply Drawn0.step)⟩
  · simp only [if_neg c19, if_neg c20, if_neg c21, Bool.false_eq_true, if_false]
    have e19 : (rd B i == 19) = false := beq_eq_false_iff_ne.mpr c19
    have d19 : decide (rd B i = 19) = false := decide_eq_false c19
    have e20 : (rd B i == 20) = false := beq_eq_false_iff_ne.mpr c20
    have d20 : decide (rd B i = 20) = false := decide_eq_false c20
    have e21 : (rd B i == 21) = false := beq_eq_false_iff_ne.mpr c21
    have d21 : decide (rd B i = 21) = false := decide_eq_false c21
    go_enter Try.func36, Try.ntmps36
    go_wp2
    go_ret2
    exact ⟨by first | rfl | (simp; done) | (simp [*]; done), by repeat (first | exact Drawn0.refl _ | apply Drawn0.step)⟩
set_option maxHeartbeats 8000000 in
set_option maxRecDepth 100000 in
theorem p_near {w : World} {g rb : Nat} {L B M K : List Int} {bs : Int} {f : Int → Option Value} (h : Tx w g rb L B M K bs f) (i y r v : Int) (hi : (Lit.int .i64 i).wf = true) (hf : (f i).getD (.int .i64 0) = .int .i64 r) (hv : nearF L K bs (wrap64 (r + y)) = some v) :
    Calls Try.prog 54 #[.pointer (some ⟨g, 0, none⟩), .int .i64 i, .int .i64 y] w fun e w' => e = .returned (.int .i64 v) ∧ Drawn0 w w' := by
  obtain ⟨Al, cl, Ab, cb, Am, cm, Ak, ck, n, hG, hl, hb, hm, hk, hM⟩ := h
  have HM := Aside0.mk hM
  have k0 := (blk_cell hG 0).trans rfl
  have k3 := (blk_cell hG 3).trans rfl
  have k4 := (blk_cell hG 4).trans rfl
  have k5 := (blk_cell hG 5).trans rfl
  obtain ⟨m, hn⟩ : ∃ m, wrap64 (r + y) = m := ⟨_, rfl⟩
  have hnw : IntKind.i64.wrap (r + y) = m := (i64_w _).trans hn
  rw [hn] at hv
  unfold nearF at hv
  by_cases c1 : m < 0
  · rw [if_pos c1] at hv
    obtain rfl := Option.some.inj hv
    have b1 : decide (m < 0) = true := decide_eq_true c1
    clear hl hb hm hk hM hv
    go_enter Try.func54, Try.ntmps54
    go_wp2_with (first | (at_lookup; refine wp_map_look rfl _ _ 78 false rfl 3 HM.out (by kernel_rfl) (by kernel_rfl) (z := .int .i64 0) (by kernel_rfl) rfl i rfl hi ?_; simp only [hf, Bool.false_eq_true, if_false]))
    go_ret
    exact ⟨by first | rfl | (simp; done) | (simp [*]; done), by repeat (first | exact Drawn0.refl _ | apply Drawn0.step)⟩
  rw [if_neg c1] at hv
  have b1 : decide (m < 0) = false := decide_eq_false c1
  by_cases c2 : m < (K.length : Int)
  · rw [if_pos c2] at hv
    by_cases c3 : 0 ≤ rd K m
    · rw [if_pos c3] at hv
      by_cases c4 : rd K m < (L.length : Int)
      · rw [if_pos c4] at hv
        obtain rfl := Option.some.inj hv
        have b2 : decide (m < (K.length : Int)) = true := decide_eq_true c2
        have b3 : decide ((K.length : Int) ≤ m) = false := decide_eq_false (by omega)
        have c0 : 0 ≤ m := by omega
        obtain ⟨ak, e, xk⟩ := Kd.at_int hk.2 m c0 c2
        cases e
        obtain ⟨al, e, xl⟩ := Kd.at_int hl.2 (rd K m) c3 c4
        cases e
        have b4 : decide (0 ≤ rd K m) = true := decide_eq_true c3
        have b5 : decide (rd K m < (L.length : Int)) = true := decide_eq_true c4
        have b6 : decide (0 ≤ m) = true := decide_eq_true c0
        replace c0 := eq_true c0
        replace c2 := eq_true c2
        replace c3 := eq_true c3
        replace c4 := eq_true c4
        clear hl hb hm hk hM hv
        go_enter Try.func54, Try.ntmps54
        go_wp2_with (first | (at_lookup; refine wp_map_look rfl _ _ 78 false rfl 3 HM.out (by kernel_rfl) (by kernel_rfl) (z := .int .i64 0) (by kernel_rfl) rfl i rfl hi ?_; simp only [hf, Bool.false_eq_true, if_false]))
        go_quiet (first | done)
        go_wp2
        go_ret
        exact ⟨by first | rfl | (simp; done) | (simp [*]; done), by repeat (first | exact Drawn0.refl _ | apply Drawn0.step)⟩
      · rw [if_neg c4] at hv; cases hv
    · rw [if_neg c3] at hv; cases hv
  · rw [if_neg c2] at hv
    obtain rfl := Option.some.inj hv
    have b2 : decide (m < (K.length : Int)) = false := decide_eq_false c2
    have b3 : decide ((K.length : Int) ≤ m) = true := decide_eq_true (by omega)
    clear hl hb hm hk hM hv
    go_enter Try.func54, Try.ntmps54
    go_wp2_with (first | (at_lookup; refine wp_map_look rfl _ _ 78 false rfl 3 HM.out (by kernel_rfl) (by kernel_rfl) (z := .int .i64 0) (by kernel_rfl) rfl i rfl hi ?_; simp only [hf, Bool.false_eq_true, if_false]))
    go_ret
    exact ⟨by first | rfl | (simp; done) | (simp [*]; done), by repeat (first | exact Drawn0.refl _ | apply Drawn0.step)⟩
end Go.Proofs.Ytbkdaafphcfpdaa.Stk
