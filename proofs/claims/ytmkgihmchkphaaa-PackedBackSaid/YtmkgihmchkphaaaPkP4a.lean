/- Packed: the reference's Take. -/
import Derived.Test.YtmkgihmchkphaaaPkP3
namespace Go.Proofs.Ytmkgihmchkphaaa.Stk
open Go.RowKit Go.Proofs.YtmkgihmchkphaaaW.PrintWords Go.Proofs.YtmkgihmchkphaaaW.PrintLast Go.Proofs.YtmkgihmchkphaaaW.PrintMore
attribute [local go_sem] max2_int min2_int max_two min_two max_three min_three max_four min_four   -- for this text's walks alone
set_option linter.unusedVariables false
set_option linter.unusedSimpArgs false
def Bytes (l : List Int) : Prop := ∀ x, x ∈ l → 0 ≤ x ∧ x < 256
theorem bytes_at {l : List Int} (h : Bytes l) {i : Nat} (hi : i < l.length) : 0 ≤ l.getD i 0 ∧ l.getD i 0 < 256 := h _ (by simp [List.getD, hi])
theorem takF_cons (x : Int) (xs : List Int) (i : Nat) (n t : Int) : takF (x :: xs) i n t = if x < 128 then (if n + x * t ≤ 2147483648 ∧ ¬ (x = 0 ∧ 0 < i) then (n + x * t, (i : Int) + 1, true) else (0, 0, false)) else takF xs (i + 1) (n + (x - 128) * t) (t * 128) := rfl
set_option maxHeartbeats 4000000 in
theorem rtake_l {l : List Int} (hb : Bytes l) : ∀ (j k i : Nat) (n : Int), i + j = 5 → 2 * j + 2 ≤ k → 0 ≤ n → n < pw i → PPackedNumbers.naskhref40_Take.l0 k l n (pw i) (i : Int) = some (takF ((l.take 5).drop i) i n (pw i)) := by
  intro j
  induction j with
  | zero =>
    intro k i n h h2 hn hn2
    obtain ⟨k, rfl⟩ : ∃ k', k = k' + 2 := ⟨k - 2, by omega⟩
    rw [List.drop_eq_nil_of_le (by rw [List.length_take]; omega)]
    unfold PPackedNumbers.naskhref40_Take.l0 PPackedNumbers.naskhref40_Take.j1
    rw [decide_eq_false (show ¬ (i : Int) < 5 by omega)]
    split <;> rfl
  | succ j ih =>
    intro k i n h h2 hn hn2
    obtain ⟨k, rfl⟩ : ∃ k', k = k' + 2 := ⟨k - 2, by omega⟩
    by_cases hi : i < l.length
    · have hx := bytes_at hb hi
      obtain ⟨hp1, hp2, _⟩ := pw_ok (show i ≤ 4 by omega)
      rw [take_at hi (by omega)]
      have er : rd l (i : Int) = l.getD i 0 := by unfold rd; rw [Int.toNat_natCast]
      unfold PPackedNumbers.naskhref40_Take.l0 PPackedNumbers.naskhref40_Take.j1
      rw [if_pos (by omega), decide_eq_true (show (i : Int) < 5 by omega), if_pos rfl, if_pos (by omega), if_pos (by omega), er]
      generalize l.getD i 0 = x at hx
      have hu := pw_up (show i ≤ 4 by omega) hn hn2 (y := x % 128) (by omega) (by omega)
      have e1 : wrap64 (n + wrap64 (wrap64 (Int.tmod x 128) * pw i)) = n + x % 128 * pw i := by
        rw [Int.tmod_eq_emod_of_nonneg hx.1, show wrap64 (x % 128) = x % 128 by unfold wrap64; omega, show wrap64 (x % 128 * pw i) = x % 128 * pw i by unfold wrap64; omega]
        unfold wrap64; omega
      have e2 : wrap64 ((i : Int) + 1) = ((i + 1 : Nat) : Int) := by unfold wrap64; omega
      have e3 : wrap64 (pw i * 128) = pw (i + 1) := by show wrap64 (pw i * 128) = pw i * 128; unfold wrap64; omega
      have e4 : pw (i + 1) = pw i * 128 := rfl
      rw [e1, e2, e3, takF_cons]
      have e5 : ((i + 1 : Nat) : Int) = (i : Int) + 1 := by omega
      obtain ⟨t, ht⟩ : ∃ t, pw i = t := ⟨_, rfl⟩
      obtain ⟨t2, ht2⟩ : ∃ t2, pw (i + 1) = t2 := ⟨_, rfl⟩
      rw [ht, ht2] at e4
      have ih2 := fun k n h2 hn hn2 => ih k (i + 1) n (by omega) h2 hn hn2
      rw [ht2] at ih2
      rw [ht] at hu ⊢
      rw [ht2] at hu ⊢
      clear e1 e2 e3 ih hp1 hp2 hn2 ht ht2 er
      by_cases h3 : x < 128
      · have e6 : x % 128 = x := by omega
        rw [e6] at hu ⊢
        rw [if_pos h3, if_pos h3, e5]
        generalize n + x * t = y at hu ⊢
        by_cases h4 : y > 2147483648
        · have hc : ¬ (y ≤ 2147483648 ∧ ¬ (x = 0 ∧ 0 < i)) := fun h5 => by omega
          rw [if_pos h4, if_neg hc]
        · rw [if_neg h4]
          by_cases h5 : (i : Int) > 0
          · rw [if_pos h5]
            by_cases h6 : x = 0
            · have hc : ¬ (y ≤ 2147483648 ∧ ¬ (x = 0 ∧ 0 < i)) := fun h7 => h7.2 ⟨h6, by omega⟩
              rw [if_pos h6, if_neg hc]
            · have hc : y ≤ 2147483648 ∧ ¬ (x = 0 ∧ 0 < i) := ⟨by omega, fun h7 => h6 h7.1⟩
              rw [if_neg h6, if_pos hc]
          · have hc : y ≤ 2147483648 ∧ ¬ (x = 0 ∧ 0 < i) := ⟨by omega, fun h7 => by omega⟩
            rw [if_neg h5, if_pos hc]
      · have e6 : x - 128 = x % 128 := by omega
        rw [if_neg h3, if_neg h3, ih2 k _ (by omega) hu.2.2.1 hu.2.2.2.1, e6, e4]
    · rw [List.drop_eq_nil_of_le (by rw [List.length_take]; omega)]
      unfold PPackedNumbers.naskhref40_Take.l0 PPackedNumbers.naskhref40_Take.j1
      rw [if_neg (by omega)]
      rfl
theorem p_rtake {w : World} {A : Option Addr} {c : Nat} {l : List Int} (h : Kd.C (Kd.int .u8) w A l.length l) (hc : l.length ≤ c) (hb : Bytes l) : Calls Try.prog 26 #[.slice A l.length c] w fun e w' => e = .returned (.tuple #[.int .i64 (takB l).1, .int .i64 (takB l).2.1, .bool (takB l).2.2]) ∧ Below w.heap.size w w' :=
  (PPackedNumbers.naskhref40_Take.calls 12 A c l _ _ _ w h hc (rtake_l hb 5 12 0 0 rfl (by decide) (by decide) (by decide))).mono fun e w' ⟨a, b⟩ => ⟨a, drawn_below0 b⟩
end Go.Proofs.Ytmkgihmchkphaaa.Stk
