/- Packed: the law PackedBack. -/
import Derived.Test.YtmkgihmchkphaaaPkP6
namespace Go.Proofs.Ytmkgihmchkphaaa.Stk
open Go.RowKit Go.Proofs.YtmkgihmchkphaaaW.PrintWords Go.Proofs.YtmkgihmchkphaaaW.PrintLast Go.Proofs.YtmkgihmchkphaaaW.PrintMore
attribute [local go_sem] max2_int min2_int max_two min_two max_three min_three max_four min_four   -- for this text's walks alone
set_option linter.unusedVariables false
set_option linter.unusedSimpArgs false
theorem info_u8 : (Try.prog.info? 5).map (fun i => (i.zero, i.size, i.bytes)) = some (some (.int .u8 0), 1, 1) := by kernel_rfl
theorem split_mul (m t : Int) : m % 128 * t + m / 128 * (t * 128) = m * t := by
  have h := Int.emod_add_mul_ediv m 128
  conv => rhs; rw [← h]
  rw [Int.add_mul, Int.mul_comm t 128, ← Int.mul_assoc, Int.mul_comm (m / 128) 128]
theorem take_dig : ∀ (k : Nat) (m : Int) (i : Nat) (acc t : Int) (rest : List Int), 0 ≤ m → m < lim k → acc + m * t ≤ 2147483648 → (0 < i → m ≠ 0) → takF (digF (k + 1) m ++ rest) i acc t = (acc + m * t, ((i + (digF (k + 1) m).length : Nat) : Int), true) := by
  intro k
  induction k with
  | zero =>
    intro m i acc t rest h0 h1 h2 h3
    have h4 : m < 128 := h1
    have e : digF 1 m = [m] := by unfold digF; rw [if_neg (by omega)]
    rw [e]
    show takF (m :: rest) i acc t = _
    have hc : acc + m * t ≤ 2147483648 ∧ ¬ (m = 0 ∧ 0 < i) := ⟨h2, fun h => h3 h.2 h.1⟩
    rw [takF_cons, if_pos h4, if_pos hc]
    rfl
  | succ k ih =>
    intro m i acc t rest h0 h1 h2 h3
    have h4 : m < 128 * lim k := h1
    by_cases h : 128 ≤ m
    · have e : digF (k + 1 + 1) m = (128 + m % 128) :: digF (k + 1) (m / 128) := (if_pos h : (if 128 ≤ m then (128 + m % 128) :: digF (k + 1) (m / 128) else [m]) = (128 + m % 128) :: digF (k + 1) (m / 128))
      have es := split_mul m t
      rw [e]
      show takF ((128 + m % 128) :: (digF (k + 1) (m / 128) ++ rest)) i acc t = _
      rw [takF_cons, if_neg (by omega), show 128 + m % 128 - 128 = m % 128 by omega, ih (m / 128) (i + 1) _ _ rest (by omega) (by omega) (by omega) (fun _ => by omega), List.length_cons, show i + 1 + (digF (k + 1) (m / 128)).length = i + ((digF (k + 1) (m / 128)).length + 1) by omega, show acc + m % 128 * t + m / 128 * (t * 128) = acc + m * t by omega]
    · have e : digF (k + 1 + 1) m = [m] := (if_neg h : (if 128 ≤ m then (128 + m % 128) :: digF (k + 1) (m / 128) else [m]) = [m])
      rw [e]
      show takF (m :: rest) i acc t = _
      have hc : acc + m * t ≤ 2147483648 ∧ ¬ (m = 0 ∧ 0 < i) := ⟨h2, fun h => h3 h.2 h.1⟩
      rw [takF_cons, if_pos (by omega), if_pos hc]
      rfl
theorem take_num (n : Int) (b : List Int) : takB (numB n ++ b) = (fitN n, ((numB n).length : Int), true) := by
  have h0 := fitN_ok n
  have hl := numB_len n
  unfold takB
  rw [List.take_append, List.take_of_length_le hl]
  have h := take_dig 4 (fitN n) 0 0 1 (b.take (5 - (numB n).length)) h0.1 (by rw [lim4]; omega) (by omega) (fun h => by omega)
  rw [show digF (4 + 1) (fitN n) = numB n from rfl] at h
  rw [h, Nat.zero_add, Int.zero_add, Int.mul_one]
theorem numB_bytes (n : Int) : Bytes (numB n) := by
  have h : ∀ (k : Nat) (m : Int), 0 ≤ m → Bytes (digF k m) := fun k => by
    induction k with
    | zero => intro m _ x hx; simp [digF] at hx
    | succ k ih =>
      intro m hm x hx
      unfold digF at hx
      split at hx
      · rcases List.mem_cons.1 hx with e | e
        · omega
        · exact ih _ (by omega) x e
      · simp at hx; omega
  exact h 5 _ (fitN_ok n).1
theorem p_number0 {n : Int} {B : List Int} {N : Nat} (hB : numB n = B) (hN : B.length = N) (w : World) : Calls Try.prog 28 #[.slice none 0 0, .int .i64 n] w fun e w' => ∃ (A1 : Option Addr) (c1 : Nat), e = .returned (.slice A1 N c1) ∧ Kd.R (Kd.int .u8) 5 w' w.heap.size (fun _ => True) (.slice A1 N c1) B ∧ Below w.heap.size w w' := by
  have h0 : Kd.C (Kd.int .u8) w none ([] : List Int).length [] := ⟨rfl, by decide, fun h => by simp at h⟩
  refine (PPackedNumbers.packed_Number.calls 9 none 0 [] n ([] ++ numB n) w h0 (Nat.le_refl _) (number_f (by simp) n)).mono fun e w' ⟨v0, he, hR, hb⟩ => ?_
  rw [List.nil_append, hB] at hR
  obtain ⟨A1, c1, e1⟩ := Kd.R_slice hR
  rw [hN] at e1
  subst e1
  exact ⟨A1, c1, he, hR, hb⟩
set_option maxHeartbeats 8000000 in
set_option maxRecDepth 100000 in
theorem p_pback (n : Int) (A : Option Addr) (c : Nat) (l : List Int) (w : World) (hC : Kd.C (Kd.int .u8) w A l.length l) (hc : l.length ≤ c) (hb : Bytes l) :
    Calls Try.prog 7 #[.int .i64 n, .slice A l.length c] w fun e w' => e = .returned (.bool true) ∧ Below w.heap.size w w' := by
  have HC := Aside0.mk hC
  have HCC := Aside0.mk hc
  have HB0 := Aside0.mk (Below.refl w.heap.size w)
  by_cases h1 : 200 < l.length
  · have p0 : decide ((l.length : Int) > 200) = true := decide_eq_true (by omega)
    have p1 : decide (200 < (l.length : Int)) = true := decide_eq_true (by omega)
    have p2 : decide (200 < l.length) = true := decide_eq_true h1
    clear h1 hC hc hb
    go_enter Try.func7, Try.ntmps7
    go_wp2_with (first | (go_at_call 24; (with_reducible refine (p_awakeP _).mono ?_); rintro e wA ⟨rfl, hb⟩; have HBA := Aside0.mk (below_step HB0.out hb); clear hb))
    go_ret
    exact ⟨by first | rfl | (simp; done), HBA.out⟩
  · have p0 : decide ((l.length : Int) > 200) = false := decide_eq_false (by omega)
    have p1 : decide (200 < (l.length : Int)) = false := decide_eq_false (by omega)
    have p2 : decide (200 < l.length) = false := decide_eq_false h1
    have HLL := Aside0.mk (show l.length ≤ 200 by omega)
    obtain ⟨B, hB⟩ : ∃ B, numB n = B := ⟨_, rfl⟩
    obtain ⟨N, hN⟩ : ∃ N, B.length = N := ⟨_, rfl⟩
    obtain ⟨L, hL⟩ : ∃ L, B ++ l = L := ⟨_, rfl⟩
    have HNB := Aside0.mk hB
    have HNN := Aside0.mk hN
    have HNL := Aside0.mk (show B.length ≤ 5 by rw [← hB]; exact numB_len n)
    have HLS := Aside0.mk hL
    have HLB := Aside0.mk (show Bytes L by
      rw [← hL, ← hB]
      intro x hx
      rcases List.mem_append.1 hx with h | h
      · exact numB_bytes n x h
      · exact hb x h)
    have ht := take_num n l
    rw [hB, hL, hN] at ht
    have e2 : (((N : Nat) : Int) == (N : Int)) = true := by simp
    have e3 : decide ((N : Int) = (N : Int)) = true := by simp
    cases hf : fitP n with
    | true =>
      have h2 := (fitP_iff n).1 hf
      have e0 : decide (n < 0) = false := decide_eq_false (by omega)
      have e1 : decide (n > 2147483648) = false := decide_eq_false (by omega)
      have e4 : decide (2147483648 < n) = false := decide_eq_false (by omega)
      have e5 : (n == n) = true := by simp
      rw [show fitN n = n from if_pos hf] at ht
      have HT := Aside0.mk ht
      clear h1 h2 hf ht hB hN hL hC hc hb
      go_enter Try.func7, Try.ntmps7
      go_wp2_with (first | (go_at_call 28; (with_reducible refine (p_number0 HNB.out HNN.out w).mono ?_); rintro e w1 ⟨A1, c1, rfl, h1, hb⟩; have HB1 := Aside0.mk hb; have HR1 := Aside0.mk h1; clear h1 hb) | ((with_reducible refine gate_builtin (b := .append) (xs := #[.tmp 15, .tmp 16]) rfl ?_); at_builtin; refine Kd.R_append_rows (Kd.int .u8) (w0 := w) w.heap.size rfl (.tmp 15) (.tmp 16) 39 5 (.int .u8 0) 1 rfl Try.underlying39 info_u8 rfl (by decide) (by omega) (.slice A1 N c1) B l _ _ _ (fun _ => True) (fun _ => False) rfl rfl HR1.out ?aR (fun _ _ h => h) (fun _ h => h.elim) (fun _ _ => trivial) HB1.out HB1.out.size ?aL ?_; (case aR => exact Kd.C_below HC.out HB1.out); (case aL => have h1_ := HNL.out; have h2_ := HLL.out; omega); intro v2 w2 ho hb hg hat; rw [HLS.out] at ho; obtain ⟨A2, c2, e2, hc2, hC2⟩ := Kd.R_reads ho; subst e2; have HC2 := Aside0.mk hC2; have HCC2 := Aside0.mk hc2; have HB2 := Aside0.mk hb; clear ho hb hg hat hc2 hC2) | (go_at_call 25; (with_reducible refine (p_take HC2.out HCC2.out HLB.out).mono ?_); rw [HT.out]; rintro e w3 ⟨rfl, hb⟩; have HB3 := Aside0.mk (below_step HB2.out hb); clear hb) | (go_at_call 28; (with_reducible refine (p_number0 HNB.out HNN.out w3).mono ?_); rintro e w4 ⟨A4, c4, rfl, h1, hb⟩; have HBX := Aside0.mk (below_step HB3.out hb); clear h1 hb) | (go_at_call 24; (with_reducible refine (p_awakeP _).mono ?_); rintro e wA ⟨rfl, hb⟩; have HBA := Aside0.mk (below_step HBX.out hb); clear hb))
      go_ret
      exact ⟨by first | rfl | (simp; done), HBA.out⟩
    | false =>
      have h2 : ¬ (0 ≤ n ∧ n ≤ 2147483648) := fun h => by rw [(fitP_iff n).2 h] at hf; simp at hf
      rw [show fitN n = 0 from if_neg (by rw [hf]; simp)] at ht
      have HT := Aside0.mk ht
      by_cases h3 : n < 0
      · have e0 : decide (n < 0) = true := decide_eq_true h3
        clear h1 h2 hf ht hB hN hL hC hc hb h3
        go_enter Try.func7, Try.ntmps7
        go_wp2_with (first | (go_at_call 28; (with_reducible refine (p_number0 HNB.out HNN.out w).mono ?_); rintro e w1 ⟨A1, c1, rfl, h1, hb⟩; have HB1 := Aside0.mk hb; have HR1 := Aside0.mk h1; clear h1 hb) | ((with_reducible refine gate_builtin (b := .append) (xs := #[.tmp 15, .tmp 16]) rfl ?_); at_builtin; refine Kd.R_append_rows (Kd.int .u8) (w0 := w) w.heap.size rfl (.tmp 15) (.tmp 16) 39 5 (.int .u8 0) 1 rfl Try.underlying39 info_u8 rfl (by decide) (by omega) (.slice A1 N c1) B l _ _ _ (fun _ => True) (fun _ => False) rfl rfl HR1.out ?aR (fun _ _ h => h) (fun _ h => h.elim) (fun _ _ => trivial) HB1.out HB1.out.size ?aL ?_; (case aR => exact Kd.C_below HC.out HB1.out); (case aL => have h1_ := HNL.out; have h2_ := HLL.out; omega); intro v2 w2 ho hb hg hat; rw [HLS.out] at ho; obtain ⟨A2, c2, e2, hc2, hC2⟩ := Kd.R_reads ho; subst e2; have HC2 := Aside0.mk hC2; have HCC2 := Aside0.mk hc2; have HB2 := Aside0.mk hb; clear ho hb hg hat hc2 hC2) | (go_at_call 25; (with_reducible refine (p_take HC2.out HCC2.out HLB.out).mono ?_); rw [HT.out]; rintro e w3 ⟨rfl, hb⟩; have HB3 := Aside0.mk (below_step HB2.out hb); clear hb) | (go_at_call 28; (with_reducible refine (p_number0 HNB.out HNN.out w3).mono ?_); rintro e w4 ⟨A4, c4, rfl, h1, hb⟩; have HBX := Aside0.mk (below_step HB3.out hb); clear h1 hb) | (go_at_call 24; (with_reducible refine (p_awakeP _).mono ?_); rintro e wA ⟨rfl, hb⟩; have HBA := Aside0.mk (below_step HBX.out hb); clear hb))
        go_ret
        exact ⟨by first | rfl | (simp; done), HBA.out⟩
      · have e0 : decide (n < 0) = false := decide_eq_false h3
        have e1 : decide (n > 2147483648) = true := decide_eq_true (by omega)
        have e4 : decide (2147483648 < n) = true := decide_eq_true (by omega)
        clear h1 h2 hf ht hB hN hL hC hc hb h3
        go_enter Try.func7, Try.ntmps7
        go_wp2_with (first | (go_at_call 28; (with_reducible refine (p_number0 HNB.out HNN.out w).mono ?_); rintro e w1 ⟨A1, c1, rfl, h1, hb⟩; have HB1 := Aside0.mk hb; have HR1 := Aside0.mk h1; clear h1 hb) | ((with_reducible refine gate_builtin (b := .append) (xs := #[.tmp 15, .tmp 16]) rfl ?_); at_builtin; refine Kd.R_append_rows (Kd.int .u8) (w0 := w) w.heap.size rfl (.tmp 15) (.tmp 16) 39 5 (.int .u8 0) 1 rfl Try.underlying39 info_u8 rfl (by decide) (by omega) (.slice A1 N c1) B l _ _ _ (fun _ => True) (fun _ => False) rfl rfl HR1.out ?aR (fun _ _ h => h) (fun _ h => h.elim) (fun _ _ => trivial) HB1.out HB1.out.size ?aL ?_; (case aR => exact Kd.C_below HC.out HB1.out); (case aL => have h1_ := HNL.out; have h2_ := HLL.out; omega); intro v2 w2 ho hb hg hat; rw [HLS.out] at ho; obtain ⟨A2, c2, e2, hc2, hC2⟩ := Kd.R_reads ho; subst e2; have HC2 := Aside0.mk hC2; have HCC2 := Aside0.mk hc2; have HB2 := Aside0.mk hb; clear ho hb hg hat hc2 hC2) | (go_at_call 25; (with_reducible refine (p_take HC2.out HCC2.out HLB.out).mono ?_); rw [HT.out]; rintro e w3 ⟨rfl, hb⟩; have HB3 := Aside0.mk (below_step HB2.out hb); clear hb) | (go_at_call 28; (with_reducible refine (p_number0 HNB.out HNN.out w3).mono ?_); rintro e w4 ⟨A4, c4, rfl, h1, hb⟩; have HBX := Aside0.mk (below_step HB3.out hb); clear h1 hb) | (go_at_call 24; (with_reducible refine (p_awakeP _).mono ?_); rintro e wA ⟨rfl, hb⟩; have HBA := Aside0.mk (below_step HBX.out hb); clear hb))
        go_ret
        exact ⟨by first | rfl | (simp; done), HBA.out⟩
end Go.Proofs.Ytmkgihmchkphaaa.Stk
