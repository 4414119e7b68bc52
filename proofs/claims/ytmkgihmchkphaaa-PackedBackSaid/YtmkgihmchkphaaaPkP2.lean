/- Packed: numbers as bytes, plain and in the reference. -/
import Derived.Test.YtmkgihmchkphaaaPkP1
import Derived.Test.YtmkgihmchkphaaaTrQ
namespace Go.Proofs.Ytmkgihmchkphaaa.Stk
open Go.RowKit Go.Proofs.YtmkgihmchkphaaaW.PrintWords Go.Proofs.YtmkgihmchkphaaaW.PrintLast Go.Proofs.YtmkgihmchkphaaaW.PrintMore
attribute [local go_sem] max2_int min2_int max_two min_two max_three min_three max_four min_four   -- for this text's walks alone
set_option linter.unusedVariables false
set_option linter.unusedSimpArgs false
open PPackedNumbers
def lim : Nat → Int
  | 0 => 128
  | j + 1 => 128 * lim j
/-- A number's bytes. -/
def digF : Nat → Int → List Int
  | 0, _ => []
  | k + 1, n => if 128 ≤ n then (128 + n % 128) :: digF k (n / 128) else [n]
def fitN (n : Int) : Int := if fitP n = true then n else 0
def numB (n : Int) : List Int := digF 5 (fitN n)
theorem fitP_iff (n : Int) : fitP n = true ↔ 0 ≤ n ∧ n ≤ 2147483648 := by unfold fitP; simp
theorem fitN_ok (n : Int) : 0 ≤ fitN n ∧ fitN n ≤ 2147483648 := by
  unfold fitN
  split
  · rename_i h; exact (fitP_iff n).1 h
  · omega
theorem lim4 : lim 4 = 34359738368 := by decide
theorem or128f : ∀ x : Fin 256, Go.bits .or .u8 ((x.val : Nat) : Int) 128 = 128 + ((x.val : Nat) : Int) % 128 := by decide +kernel
theorem or128 {x : Int} (h0 : 0 ≤ x) (h1 : x < 256) : Go.bits .or .u8 x 128 = 128 + x % 128 := by
  have h := or128f ⟨x.toNat, by omega⟩
  simp only [show ((x.toNat : Nat) : Int) = x by omega] at h
  exact h
theorem number_l : ∀ (j k : Nat) (n : Int) (x : List Int), 0 ≤ n → n < lim j → j + 1 ≤ k → x.length + j < 140737488355328 → PPackedNumbers.packed_Number.l0 k n x = some (x ++ digF (j + 1) n)
  | 0, k, n, x, h0, h1, h2, h3 => by
    obtain ⟨k, rfl⟩ : ∃ k', k = k' + 1 := ⟨k - 1, by omega⟩
    have h4 : n < 128 := h1
    unfold PPackedNumbers.packed_Number.l0
    rw [if_neg (by omega), if_pos (by omega), show n % 256 = n by omega]
    unfold digF
    rw [if_neg (by omega)]
  | j + 1, k, n, x, h0, h1, h2, h3 => by
    obtain ⟨k, rfl⟩ : ∃ k', k = k' + 1 := ⟨k - 1, by omega⟩
    have h4 : n < 128 * lim j := h1
    unfold PPackedNumbers.packed_Number.l0
    unfold digF
    by_cases h : n ≥ 128
    · rw [if_pos h, if_pos (by omega), if_pos (show 128 ≤ n from h), or128 (by omega) (by omega), show 128 + n % 256 % 128 = 128 + n % 128 by omega, number_l j k (n / 128) _ (by omega) (by omega) (by omega) (by simp; omega), List.append_assoc]
      rfl
    · rw [if_neg h, if_pos (by omega), if_neg (by omega), show n % 256 = n by omega]
theorem rnumber_l : ∀ (j k : Nat) (n : Int) (x : List Int), 0 ≤ n → n < lim j → n ≤ 2147483648 → j + 1 ≤ k → x.length + j < 140737488355328 → PPackedNumbers.naskhref40_Number.l0 k n x = some (x ++ digF (j + 1) n)
  | 0, k, n, x, h0, h1, h5, h2, h3 => by
    obtain ⟨k, rfl⟩ : ∃ k', k = k' + 1 := ⟨k - 1, by omega⟩
    have h4 : n < 128 := h1
    unfold PPackedNumbers.naskhref40_Number.l0
    rw [if_neg (by omega), if_pos (by omega), show n % 256 = n by omega]
    unfold digF
    rw [if_neg (by omega)]
  | j + 1, k, n, x, h0, h1, h5, h2, h3 => by
    obtain ⟨k, rfl⟩ : ∃ k', k = k' + 1 := ⟨k - 1, by omega⟩
    have h4 : n < 128 * lim j := h1
    unfold PPackedNumbers.naskhref40_Number.l0
    unfold digF
    by_cases h : n ≥ 128
    · rw [if_pos h, if_pos (by omega), if_pos (show 128 ≤ n from h), Int.tmod_eq_emod_of_nonneg h0, Int.tdiv_eq_ediv_of_nonneg h0, show wrap64 (128 + n % 128) % 256 = 128 + n % 128 by unfold wrap64; omega, show wrap64 (n / 128) = n / 128 by unfold wrap64; omega, rnumber_l j k (n / 128) _ (by omega) (by omega) (by omega) (by omega) (by simp; omega), List.append_assoc]
      rfl
    · rw [if_neg h, if_pos (by omega), if_neg (by omega), show n % 256 = n by omega]
theorem fits_f (n : Int) : PPackedNumbers.packed_fits.f n = some (fitP n) := by
  unfold PPackedNumbers.packed_fits.f fitP
  by_cases h : n ≥ 0
  · rw [if_pos h, decide_eq_true (show 0 ≤ n from h)]; rfl
  · rw [if_neg h, decide_eq_false (show ¬ 0 ≤ n from h)]; rfl
theorem number_f {l : List Int} (hl : l.length < 140737488355000) (n : Int) : PPackedNumbers.packed_Number.f 9 l n = some (l ++ numB n) := by
  unfold PPackedNumbers.packed_Number.f PPackedNumbers.slices_Clone_byte_byte.f
  rw [Option.bind_some, if_pos (by simp; omega), List.nil_append, Option.bind_some, fits_f, Option.bind_some]
  have h1 := fitN_ok n
  have h2 := number_l 4 8 (fitN n) l h1.1 (by rw [lim4]; omega) (by omega) (by omega)
  unfold numB
  rw [← h2]
  unfold fitN
  by_cases h : fitP n = true
  · rw [if_pos h, if_pos h]; unfold PPackedNumbers.packed_Number.j0; rfl
  · rw [if_neg h, if_neg h]; unfold PPackedNumbers.packed_Number.j0; rfl
theorem p_number {w : World} {A : Option Addr} {c : Nat} {l : List Int} (h : Kd.C (Kd.int .u8) w A l.length l) (hc : l.length ≤ c) (hl : l.length < 140737488355000) (n : Int) : Calls Try.prog 28 #[.slice A l.length c, .int .i64 n] w fun e w' => ∃ (A1 : Option Addr) (c1 : Nat), e = .returned (.slice A1 (l ++ numB n).length c1) ∧ Kd.C (Kd.int .u8) w' A1 (l ++ numB n).length (l ++ numB n) ∧ (l ++ numB n).length ≤ c1 ∧ Below w.heap.size w w' := by
  refine (PPackedNumbers.packed_Number.calls 9 A c l n (l ++ numB n) w h hc (number_f hl n)).mono fun e w' ⟨v0, he, hR, hb⟩ => ?_
  obtain ⟨A1, c1, e1, hc1, hC1⟩ := Kd.R_reads hR
  exact ⟨A1, c1, by rw [he, e1], hC1, hc1, hb⟩
theorem rj0t (k : Nat) (x : Int) (y : List Int) : PPackedNumbers.naskhref40_Number.j0 (k + 1) x y true = PPackedNumbers.naskhref40_Number.j1 k 0 y := by unfold PPackedNumbers.naskhref40_Number.j0; exact if_pos rfl
theorem rj0f (k : Nat) (x : Int) (y : List Int) : PPackedNumbers.naskhref40_Number.j0 (k + 1) x y false = PPackedNumbers.naskhref40_Number.j1 k x y := by unfold PPackedNumbers.naskhref40_Number.j0; exact if_neg (by decide)
theorem rj1 (k : Nat) (x : Int) (y : List Int) : PPackedNumbers.naskhref40_Number.j1 (k + 1) x y = PPackedNumbers.naskhref40_Number.l0 k x y := by unfold PPackedNumbers.naskhref40_Number.j1; rfl
theorem rnumber_f {l : List Int} (hl : l.length < 140737488355000) (n : Int) : PPackedNumbers.naskhref40_Number.f 9 l n = some (l ++ numB n) := by
  have h1 := fitN_ok n
  have h2 := rnumber_l 4 7 (fitN n) l h1.1 (by rw [lim4]; omega) (by omega) (by omega) (by omega)
  unfold PPackedNumbers.naskhref40_Number.f
  rw [if_pos (by simp; omega), Option.bind_some, List.nil_append]
  unfold numB
  rw [← h2]
  unfold fitN
  by_cases h : fitP n = true
  · have h3 := (fitP_iff n).1 h
    rw [if_neg (by omega), if_pos h, decide_eq_false (by omega)]
    rw [rj0f, rj1]
  · rw [if_neg h]
    have h3 : ¬ (0 ≤ n ∧ n ≤ 2147483648) := fun h4 => h ((fitP_iff n).2 h4)
    by_cases h4 : n < 0
    · rw [if_pos h4]
      rw [rj0t, rj1]
    · rw [if_neg h4, decide_eq_true (by omega)]
      rw [rj0t, rj1]
theorem p_rnumber {w : World} {A : Option Addr} {c : Nat} {l : List Int} (h : Kd.C (Kd.int .u8) w A l.length l) (hc : l.length ≤ c) (hl : l.length < 140737488355000) (n : Int) : Calls Try.prog 29 #[.slice A l.length c, .int .i64 n] w fun e w' => ∃ (A1 : Option Addr) (c1 : Nat), e = .returned (.slice A1 (l ++ numB n).length c1) ∧ Kd.C (Kd.int .u8) w' A1 (l ++ numB n).length (l ++ numB n) ∧ (l ++ numB n).length ≤ c1 ∧ Below w.heap.size w w' := by
  refine (PPackedNumbers.naskhref40_Number.calls 9 A c l n (l ++ numB n) w h hc (rnumber_f hl n)).mono fun e w' ⟨v0, he, hR, hb⟩ => ?_
  obtain ⟨A1, c1, e1, hc1, hC1⟩ := Kd.R_reads hR
  exact ⟨A1, c1, by rw [he, e1], hC1, hc1, hb⟩
theorem eqb_l {l : List Int} (hn : l.length ≤ 9223372036854775807) : ∀ (k i : Nat), l.length + 1 ≤ k + i → i ≤ l.length → PPackedNumbers.slices_Equal_byte_byte.l0 k l l (l.length : Int) (i : Int) = some true
  | 0, i, h, h2 => by omega
  | k + 1, i, h, h2 => by
    unfold PPackedNumbers.slices_Equal_byte_byte.l0
    by_cases hi : i < l.length
    · rw [if_pos (by omega), if_pos (by omega), if_pos (by omega), if_pos (by omega), if_pos rfl, up1 hi hn, eqb_l hn k (i + 1) (by omega) (by omega)]
    · rw [if_neg (by omega)]
theorem p_eqb {w : World} {A A1 : Option Addr} {c c1 : Nat} {l : List Int} (h : Kd.C (Kd.int .u8) w A l.length l) (hc : l.length ≤ c) (h1 : Kd.C (Kd.int .u8) w A1 l.length l) (hc1 : l.length ≤ c1) : Calls Try.prog 27 #[.slice A l.length c, .slice A1 l.length c1] w fun e w' => e = .returned (.bool true) ∧ Below w.heap.size w w' := by
  refine (PPackedNumbers.slices_Equal_byte_byte.calls (l.length + 1) A c l A1 c1 l true w h hc h1 hc1 ?_).mono fun e w' ⟨a, b⟩ => ⟨a, drawn_below0 b⟩
  unfold PPackedNumbers.slices_Equal_byte_byte.f
  rw [if_pos rfl]
  exact eqb_l h.2.1 _ 0 (by omega) (by omega)
end Go.Proofs.Ytmkgihmchkphaaa.Stk
