/- Any options' number, and any number's options, are what the document says. No condition. -/
import Derived.Test.YtjnhepgjkphkoaaPOptionBitsx
namespace Go.Proofs.Ytjnhepgjkphkoaa.PureOptionBitsAux
open Go.RowKit Go.Proofs.Ytjnhepgjkphkoaa.POptionBits Go.Proofs.YtjnhepgjkphkoaaW.PrintWords Go.Proofs.YtjnhepgjkphkoaaW.PrintLast

set_option linter.unusedSimpArgs false
set_option linter.unusedVariables false
theorem w64 {x : Int} (h0 : -9223372036854775808 ≤ x) (h1 : x ≤ 9223372036854775807) : wrap64 x = x := by unfold wrap64; omega
theorem rd_at (pre : List Int) (x : Int) (rest : List Int) : rd (pre ++ x :: rest) (pre.length : Int) = x := by simp [rd]
theorem rd_nat (l : List Int) (i : Nat) (h : i < l.length) : rd l (i : Int) = l[i] := by simp [rd, h]
theorem wf64 {x : Int} (h : (Lit.int .i64 x).wf = true) : -9223372036854775808 ≤ x ∧ x ≤ 9223372036854775807 := by
  simpa [Lit.wf, IntKind.min, IntKind.max, IntKind.signed, IntKind.bits] using h
theorem bsome {P : Prop} [Decidable P] {b : Bool} (h : b = true ↔ P) : some b = some (decide P) := by
  congr 1; rw [Bool.eq_iff_iff]; simpa using h
theorem u16w {x : Int} (h0 : 0 ≤ x) (h1 : x ≤ 65535) : IntKind.u16.wrap x = x := by
  simp [IntKind.wrap, IntKind.min, IntKind.max, IntKind.signed, IntKind.bits]; omega

theorem any_loop : ∀ (rest pre : List Bool) (k : Nat), rest.length < k → pre.length + rest.length ≤ 100 → option_any.l0 k (pre ++ rest) ((pre ++ rest).length : Int) (pre.length : Int) = some (rest.any id)
  | [], pre, k, hk, hm => by
    obtain ⟨k, rfl⟩ : ∃ m, k = m + 1 := ⟨k - 1, by omega⟩
    rw [option_any.l0, if_neg (by simp)]
    rfl
  | x :: rest, pre, k, hk, hm => by
    obtain ⟨k, rfl⟩ : ∃ m, k = m + 1 := ⟨k - 1, by omega⟩
    rw [List.length_cons] at hk hm
    have hl : (pre ++ x :: rest).length = pre.length + rest.length + 1 := by simp; omega
    have hr : rdOf false (pre ++ x :: rest) (pre.length : Int) = x := by simp [rdOf]
    have step := any_loop rest (pre ++ [x]) k (by omega) (by simp; omega)
    have e1 : pre ++ [x] ++ rest = pre ++ x :: rest := by simp
    have e2 : ((pre ++ [x]).length : Int) = (pre.length : Int) + 1 := by simp
    rw [e1, e2] at step
    rw [option_any.l0, if_pos (by omega), if_pos (by omega), if_pos (by omega), hr, w64 (by omega) (by omega)]
    cases x with
    | true => rfl
    | false =>
      rw [if_neg (by simp)]
      exact step
theorem any_f (l : List Bool) (k : Nat) (hk : 100 ≤ k) (hl : l.length < 100) : option_any.f k l = some (l.any id) := any_loop l [] k (by omega) (by simp; omega)
/-- What clashes, by what is asked. -/
def cl (p q r3 r4 b5 b6 b7 b8 b9 b10 b11 : Bool) : Bool := ((!p || !q || b7 || b8 || b9) && !b5) || (b6 && p) || (b7 && (r3 || r4)) || (b11 && !b10)
theorem clash_f (a0 a1 a2 a3 : Int) (b4 b5 b6 b7 b8 b9 b10 b11 b12 b13 : Bool) (k : Nat) (hk : 100 ≤ k) : option_clash.f k a0 a1 a2 a3 b4 b5 b6 b7 b8 b9 b10 b11 b12 b13 = some (cl (a1 == 0) (a2 == 0) (a2 == 3) (a2 == 4) b5 b6 b7 b8 b9 b10 b11) := by
  unfold option_clash.f
  rw [any_f _ k hk (by simp), Option.bind_some, any_f _ k hk (by simp), Option.bind_some]
  have h4 : ∀ a b c d : Bool, option_any.f k [a, b, c, d] = some ([a, b, c, d].any id) := fun a b c d => any_f _ k hk (by simp)
  simp only [h4, Option.bind_some]
  have e1 : (a1 != 0) = !(a1 == 0) := rfl
  have e2 : (a2 != 0) = !(a2 == 0) := rfl
  rw [e1, e2]
  generalize (a1 == 0) = p
  generalize (a2 == 0) = q
  generalize (a2 == 3) = r3
  generalize (a2 == 4) = r4
  revert p q r3 r4 b5 b6 b7 b8 b9 b10 b11
  decide +kernel
theorem check_f (a0 a1 a2 a3 : Int) (b4 b5 b6 b7 b8 b9 b10 b11 b12 b13 : Bool) (k : Nat) (hk : 100 ≤ k) : option_Check.f k a0 a1 a2 a3 b4 b5 b6 b7 b8 b9 b10 b11 b12 b13 = some (if (0 ≤ a0 ∧ a0 < 4) ∧ (0 ≤ a1 ∧ a1 < 5) ∧ (0 ≤ a2 ∧ a2 < 5) ∧ (0 ≤ a3 ∧ a3 < 5) then (if cl (a1 == 0) (a2 == 0) (a2 == 3) (a2 == 4) b5 b6 b7 b8 b9 b10 b11 = true then 3 else 0) else 1) := by
  unfold option_Check.f
  by_cases h : (0 ≤ a0 ∧ a0 < 4) ∧ (0 ≤ a1 ∧ a1 < 5) ∧ (0 ≤ a2 ∧ a2 < 5) ∧ (0 ≤ a3 ∧ a3 < 5)
  · rw [if_pos h, if_pos h, clash_f a0 a1 a2 a3 b4 b5 b6 b7 b8 b9 b10 b11 b12 b13 k hk, Option.bind_some]
  · rw [if_neg h, if_neg h]
theorem awake_ok : naskhlaw10_awake.f 100 = some true := by decide +kernel
theorem haw (k : Nat) (hk : 100 ≤ k) : naskhlaw10_awake.f k = some true := at_rounds (fun k => naskhlaw10_awake.mono k) hk awake_ok

theorem refj (a0 a1 a2 a3 : Int) (b4 b5 b6 b7 b8 b9 b10 b11 b12 b13 : Bool) (k : Nat) : naskhref10_Check.j0 (k + 1) false a0 a1 a2 a3 b4 b5 b6 b7 b8 b9 b10 b11 b12 b13 = some (if cl (a1 == 0) (a2 == 0) (a2 == 3) (a2 == 4) b5 b6 b7 b8 b9 b10 b11 = true then 3 else 0) := by
  rw [naskhref10_Check.j0, if_neg (by simp)]
  obtain ⟨p, hp, hp'⟩ : ∃ p : Bool, (a1 = 0) = (p = true) ∧ (a1 == 0) = p := ⟨a1 == 0, by simp, rfl⟩
  obtain ⟨q, hq, hq'⟩ : ∃ p : Bool, (a2 = 0) = (p = true) ∧ (a2 == 0) = p := ⟨a2 == 0, by simp, rfl⟩
  obtain ⟨r3, h3, h3'⟩ : ∃ p : Bool, (a2 = 3) = (p = true) ∧ (a2 == 3) = p := ⟨a2 == 3, by simp, rfl⟩
  obtain ⟨r4, h4, h4'⟩ : ∃ p : Bool, (a2 = 4) = (p = true) ∧ (a2 == 4) = p := ⟨a2 == 4, by simp, rfl⟩
  simp only [hp, hq, h3, h4, hp', hq', h3', h4']
  clear hp hq h3 h4 hp' hq' h3' h4'
  revert p q r3 r4 b5 b6 b7 b8 b9 b10 b11
  decide +kernel
theorem refj1 (a0 a1 a2 a3 : Int) (b4 b5 b6 b7 b8 b9 b10 b11 b12 b13 : Bool) (k : Nat) : naskhref10_Check.j0 (k + 1) true a0 a1 a2 a3 b4 b5 b6 b7 b8 b9 b10 b11 b12 b13 = some 1 := by rw [naskhref10_Check.j0, if_pos rfl]
theorem in_f (a b : Int) : naskhref10_in.f a b = some (decide (0 ≤ a ∧ a ≤ b)) := by
  unfold naskhref10_in.f
  by_cases h : a ≥ 0
  · rw [if_pos h]; congr 1; rw [decide_eq_decide]; omega
  · rw [if_neg h]; congr 1; symm; rw [decide_eq_false_iff_not]; omega
theorem refcheck_f (a0 a1 a2 a3 : Int) (b4 b5 b6 b7 b8 b9 b10 b11 b12 b13 : Bool) (k : Nat) : naskhref10_Check.f (k + 1) a0 a1 a2 a3 b4 b5 b6 b7 b8 b9 b10 b11 b12 b13 = some (if (0 ≤ a0 ∧ a0 < 4) ∧ (0 ≤ a1 ∧ a1 < 5) ∧ (0 ≤ a2 ∧ a2 < 5) ∧ (0 ≤ a3 ∧ a3 < 5) then (if cl (a1 == 0) (a2 == 0) (a2 == 3) (a2 == 4) b5 b6 b7 b8 b9 b10 b11 = true then 3 else 0) else 1) := by
  unfold naskhref10_Check.f
  rw [in_f, Option.bind_some, in_f, Option.bind_some, in_f, Option.bind_some, in_f, Option.bind_some]
  by_cases h0 : 0 ≤ a0 ∧ a0 ≤ 3
  · rw [decide_eq_true h0, if_pos rfl]
    by_cases h1 : 0 ≤ a1 ∧ a1 ≤ 4
    · rw [decide_eq_true h1, if_pos rfl]
      by_cases h2 : 0 ≤ a2 ∧ a2 ≤ 4
      · rw [decide_eq_true h2, if_pos rfl]
        by_cases h3 : 0 ≤ a3 ∧ a3 ≤ 4
        · rw [decide_eq_true h3, if_pos (by omega)]
          exact refj a0 a1 a2 a3 b4 b5 b6 b7 b8 b9 b10 b11 b12 b13 k
        · rw [decide_eq_false h3, if_neg (by omega)]
          exact refj1 a0 a1 a2 a3 b4 b5 b6 b7 b8 b9 b10 b11 b12 b13 k
      · rw [decide_eq_false h2, if_neg (by simp), if_neg (by omega), refj1]
    · rw [decide_eq_false h1, if_neg (by simp), if_neg (by omega), refj1]
  · rw [decide_eq_false h0, if_neg (by simp), if_neg (by omega), refj1]

theorem bits_f (a0 a1 a2 a3 : Int) (b4 b5 b6 b7 b8 b9 b10 b11 b12 b13 : Bool) (k : Nat) (hk : 100 ≤ k) : option_Bits.f k a0 a1 a2 a3 b4 b5 b6 b7 b8 b9 b10 b11 b12 b13 = some (if (if (0 ≤ a0 ∧ a0 < 4) ∧ (0 ≤ a1 ∧ a1 < 5) ∧ (0 ≤ a2 ∧ a2 < 5) ∧ (0 ≤ a3 ∧ a3 < 5) then (if cl (a1 == 0) (a2 == 0) (a2 == 3) (a2 == 4) b5 b6 b7 b8 b9 b10 b11 = true then (3 : Int) else 0) else 1) = 0 then (a0 * 1 + a1 * 4 + a2 * 20 + a3 * 100 + option_Bits.bm b4 500 + option_Bits.bm b5 1000 + option_Bits.bm b6 2000 + option_Bits.bm b7 4000 + option_Bits.bm b8 8000 + option_Bits.bm b9 16000 + option_Bits.bm b10 32000 + option_Bits.bm b11 64000 + option_Bits.bm b12 128000 + option_Bits.bm b13 256000, 0) else (0, (if (0 ≤ a0 ∧ a0 < 4) ∧ (0 ≤ a1 ∧ a1 < 5) ∧ (0 ≤ a2 ∧ a2 < 5) ∧ (0 ≤ a3 ∧ a3 < 5) then (if cl (a1 == 0) (a2 == 0) (a2 == 3) (a2 == 4) b5 b6 b7 b8 b9 b10 b11 = true then (3 : Int) else 0) else 1))) := by
  unfold option_Bits.f
  rw [check_f a0 a1 a2 a3 b4 b5 b6 b7 b8 b9 b10 b11 b12 b13 k hk, Option.bind_some]
  by_cases he : (if (0 ≤ a0 ∧ a0 < 4) ∧ (0 ≤ a1 ∧ a1 < 5) ∧ (0 ≤ a2 ∧ a2 < 5) ∧ (0 ≤ a3 ∧ a3 < 5) then (if cl (a1 == 0) (a2 == 0) (a2 == 3) (a2 == 4) b5 b6 b7 b8 b9 b10 b11 = true then (3 : Int) else 0) else 1) = 0
  · rw [if_pos he, if_pos he]
    by_cases hd : (0 ≤ a0 ∧ a0 < 4) ∧ (0 ≤ a1 ∧ a1 < 5) ∧ (0 ≤ a2 ∧ a2 < 5) ∧ (0 ≤ a3 ∧ a3 < 5)
    · rw [if_pos hd]
    · rw [if_neg hd] at he; omega
  · rw [if_neg he, if_neg he]

theorem fl0 : ∀ x : Fin 1024, (Go.bits .and .i64 ((x : Nat) : Int) 1 != 0) = ((((x : Nat) : Int) / 1) % 2 == 1) := by decide +kernel
theorem flg0 (x : Int) (h0 : 0 ≤ x) (h1 : x < 1024) : (Go.bits .and .i64 x 1 != 0) = ((x / 1) % 2 == 1) := by
  have := fl0 ⟨x.toNat, by omega⟩
  rw [show ((x.toNat : Nat) : Int) = x by omega] at this
  exact this
theorem fl1 : ∀ x : Fin 1024, (Go.bits .and .i64 ((x : Nat) : Int) 2 != 0) = ((((x : Nat) : Int) / 2) % 2 == 1) := by decide +kernel
theorem flg1 (x : Int) (h0 : 0 ≤ x) (h1 : x < 1024) : (Go.bits .and .i64 x 2 != 0) = ((x / 2) % 2 == 1) := by
  have := fl1 ⟨x.toNat, by omega⟩
  rw [show ((x.toNat : Nat) : Int) = x by omega] at this
  exact this
theorem fl2 : ∀ x : Fin 1024, (Go.bits .and .i64 ((x : Nat) : Int) 4 != 0) = ((((x : Nat) : Int) / 4) % 2 == 1) := by decide +kernel
theorem flg2 (x : Int) (h0 : 0 ≤ x) (h1 : x < 1024) : (Go.bits .and .i64 x 4 != 0) = ((x / 4) % 2 == 1) := by
  have := fl2 ⟨x.toNat, by omega⟩
  rw [show ((x.toNat : Nat) : Int) = x by omega] at this
  exact this
theorem fl3 : ∀ x : Fin 1024, (Go.bits .and .i64 ((x : Nat) : Int) 8 != 0) = ((((x : Nat) : Int) / 8) % 2 == 1) := by decide +kernel
theorem flg3 (x : Int) (h0 : 0 ≤ x) (h1 : x < 1024) : (Go.bits .and .i64 x 8 != 0) = ((x / 8) % 2 == 1) := by
  have := fl3 ⟨x.toNat, by omega⟩
  rw [show ((x.toNat : Nat) : Int) = x by omega] at this
  exact this
theorem fl4 : ∀ x : Fin 1024, (Go.bits .and .i64 ((x : Nat) : Int) 16 != 0) = ((((x : Nat) : Int) / 16) % 2 == 1) := by decide +kernel
theorem flg4 (x : Int) (h0 : 0 ≤ x) (h1 : x < 1024) : (Go.bits .and .i64 x 16 != 0) = ((x / 16) % 2 == 1) := by
  have := fl4 ⟨x.toNat, by omega⟩
  rw [show ((x.toNat : Nat) : Int) = x by omega] at this
  exact this
theorem fl5 : ∀ x : Fin 1024, (Go.bits .and .i64 ((x : Nat) : Int) 32 != 0) = ((((x : Nat) : Int) / 32) % 2 == 1) := by decide +kernel
theorem flg5 (x : Int) (h0 : 0 ≤ x) (h1 : x < 1024) : (Go.bits .and .i64 x 32 != 0) = ((x / 32) % 2 == 1) := by
  have := fl5 ⟨x.toNat, by omega⟩
  rw [show ((x.toNat : Nat) : Int) = x by omega] at this
  exact this
theorem fl6 : ∀ x : Fin 1024, (Go.bits .and .i64 ((x : Nat) : Int) 64 != 0) = ((((x : Nat) : Int) / 64) % 2 == 1) := by decide +kernel
theorem flg6 (x : Int) (h0 : 0 ≤ x) (h1 : x < 1024) : (Go.bits .and .i64 x 64 != 0) = ((x / 64) % 2 == 1) := by
  have := fl6 ⟨x.toNat, by omega⟩
  rw [show ((x.toNat : Nat) : Int) = x by omega] at this
  exact this
theorem fl7 : ∀ x : Fin 1024, (Go.bits .and .i64 ((x : Nat) : Int) 128 != 0) = ((((x : Nat) : Int) / 128) % 2 == 1) := by decide +kernel
theorem flg7 (x : Int) (h0 : 0 ≤ x) (h1 : x < 1024) : (Go.bits .and .i64 x 128 != 0) = ((x / 128) % 2 == 1) := by
  have := fl7 ⟨x.toNat, by omega⟩
  rw [show ((x.toNat : Nat) : Int) = x by omega] at this
  exact this
theorem fl8 : ∀ x : Fin 1024, (Go.bits .and .i64 ((x : Nat) : Int) 256 != 0) = ((((x : Nat) : Int) / 256) % 2 == 1) := by decide +kernel
theorem flg8 (x : Int) (h0 : 0 ≤ x) (h1 : x < 1024) : (Go.bits .and .i64 x 256 != 0) = ((x / 256) % 2 == 1) := by
  have := fl8 ⟨x.toNat, by omega⟩
  rw [show ((x.toNat : Nat) : Int) = x by omega] at this
  exact this
theorem fl9 : ∀ x : Fin 1024, (Go.bits .and .i64 ((x : Nat) : Int) 512 != 0) = ((((x : Nat) : Int) / 512) % 2 == 1) := by decide +kernel
theorem flg9 (x : Int) (h0 : 0 ≤ x) (h1 : x < 1024) : (Go.bits .and .i64 x 512 != 0) = ((x / 512) % 2 == 1) := by
  have := fl9 ⟨x.toNat, by omega⟩
  rw [show ((x.toNat : Nat) : Int) = x by omega] at this
  exact this
theorem of_some (n : Int) (k : Nat) (hk : 100 ≤ k) : ∃ r, option_Of.f k n = some r := by
  unfold option_Of.f
  by_cases h : 0 ≤ n ∧ n < 512000
  · rw [if_pos h, check_f _ _ _ _ _ _ _ _ _ _ _ _ _ _ k hk, Option.bind_some]
    by_cases he : (if (0 ≤ (n) % 4 ∧ (n) % 4 < 4) ∧ (0 ≤ (n / 4) % 5 ∧ (n / 4) % 5 < 5) ∧ (0 ≤ (n / 4 / 5) % 5 ∧ (n / 4 / 5) % 5 < 5) ∧ (0 ≤ (n / 4 / 5 / 5) % 5 ∧ (n / 4 / 5 / 5) % 5 < 5) then (if cl ((n / 4) % 5 == 0) ((n / 4 / 5) % 5 == 0) ((n / 4 / 5) % 5 == 3) ((n / 4 / 5) % 5 == 4) (Go.bits .and .i64 (n / 4 / 5 / 5 / 5) 2 != 0) (Go.bits .and .i64 (n / 4 / 5 / 5 / 5) 4 != 0) (Go.bits .and .i64 (n / 4 / 5 / 5 / 5) 8 != 0) (Go.bits .and .i64 (n / 4 / 5 / 5 / 5) 16 != 0) (Go.bits .and .i64 (n / 4 / 5 / 5 / 5) 32 != 0) (Go.bits .and .i64 (n / 4 / 5 / 5 / 5) 64 != 0) (Go.bits .and .i64 (n / 4 / 5 / 5 / 5) 128 != 0) = true then (3 : Int) else 0) else 1) = 0
    · rw [if_pos he]; exact ⟨_, rfl⟩
    · rw [if_neg he]; exact ⟨_, rfl⟩
  · rw [if_neg h]; exact ⟨_, rfl⟩

theorem tm (x c : Int) (h : 0 ≤ x) : Int.tmod x c = x % c := Int.tmod_eq_emod_of_nonneg h
theorem td (x c : Int) (h : 0 ≤ x) : Int.tdiv x c = x / c := Int.tdiv_eq_ediv_of_nonneg h
theorem refof_eq (n : Int) (k : Nat) (hk : 100 ≤ k) : naskhref10_Of.f (k + 1) n = option_Of.f (k + 1) n := by
  unfold naskhref10_Of.f option_Of.f
  rw [in_f, Option.bind_some]
  by_cases h : 0 ≤ n ∧ n < 512000
  · have q4 : wrap64 (n / 4) = n / 4 := w64 (by omega) (by omega)
    have q20 : wrap64 (n / 20) = n / 20 := w64 (by omega) (by omega)
    have q100 : wrap64 (n / 100) = n / 100 := w64 (by omega) (by omega)
    have q500 : wrap64 (n / 500) = n / 500 := w64 (by omega) (by omega)
    have e0 : Int.tmod n 4 = n % 4 := tm n 4 h.1
    have e1 : Int.tmod (wrap64 (Int.tdiv n 4)) 5 = (n / 4) % 5 := by rw [td n 4 h.1, q4, tm _ 5 (by omega)] <;> omega
    have e2 : Int.tmod (wrap64 (Int.tdiv n 20)) 5 = (n / 4 / 5) % 5 := by rw [td n 20 h.1, q20, tm _ 5 (by omega)] <;> omega
    have e3 : Int.tmod (wrap64 (Int.tdiv n 100)) 5 = (n / 4 / 5 / 5) % 5 := by rw [td n 100 h.1, q100, tm _ 5 (by omega)] <;> omega
    have x5 : n / 500 = n / 4 / 5 / 5 / 5 := by omega
    have b5 : 0 ≤ n / 4 / 5 / 5 / 5 ∧ n / 4 / 5 / 5 / 5 < 1024 := by omega
    have f0 : ((Int.tmod (wrap64 (Int.tdiv n 500)) 2) == 1) = (Go.bits .and .i64 (n / 4 / 5 / 5 / 5) 1 != 0) := by rw [td n 500 h.1, q500, tm _ 2 (by omega), x5, flg0 _ b5.1 b5.2]; rw [show n / 4 / 5 / 5 / 5 / 1 = n / 4 / 5 / 5 / 5 by omega]
    have f1 : ((Int.tmod (wrap64 (Int.tdiv (wrap64 (Int.tdiv n 500)) 2)) 2) == 1) = (Go.bits .and .i64 (n / 4 / 5 / 5 / 5) 2 != 0) := by rw [td n 500 h.1, q500, td _ 2 (by omega), x5, w64 (x := n / 4 / 5 / 5 / 5 / 2) (by omega) (by omega), tm _ 2 (by omega), flg1 _ b5.1 b5.2]
    have f2 : ((Int.tmod (wrap64 (Int.tdiv (wrap64 (Int.tdiv n 500)) 4)) 2) == 1) = (Go.bits .and .i64 (n / 4 / 5 / 5 / 5) 4 != 0) := by rw [td n 500 h.1, q500, td _ 4 (by omega), x5, w64 (x := n / 4 / 5 / 5 / 5 / 4) (by omega) (by omega), tm _ 2 (by omega), flg2 _ b5.1 b5.2]
    have f3 : ((Int.tmod (wrap64 (Int.tdiv (wrap64 (Int.tdiv n 500)) 8)) 2) == 1) = (Go.bits .and .i64 (n / 4 / 5 / 5 / 5) 8 != 0) := by rw [td n 500 h.1, q500, td _ 8 (by omega), x5, w64 (x := n / 4 / 5 / 5 / 5 / 8) (by omega) (by omega), tm _ 2 (by omega), flg3 _ b5.1 b5.2]
    have f4 : ((Int.tmod (wrap64 (Int.tdiv (wrap64 (Int.tdiv n 500)) 16)) 2) == 1) = (Go.bits .and .i64 (n / 4 / 5 / 5 / 5) 16 != 0) := by rw [td n 500 h.1, q500, td _ 16 (by omega), x5, w64 (x := n / 4 / 5 / 5 / 5 / 16) (by omega) (by omega), tm _ 2 (by omega), flg4 _ b5.1 b5.2]
    have f5 : ((Int.tmod (wrap64 (Int.tdiv (wrap64 (Int.tdiv n 500)) 32)) 2) == 1) = (Go.bits .and .i64 (n / 4 / 5 / 5 / 5) 32 != 0) := by rw [td n 500 h.1, q500, td _ 32 (by omega), x5, w64 (x := n / 4 / 5 / 5 / 5 / 32) (by omega) (by omega), tm _ 2 (by omega), flg5 _ b5.1 b5.2]
    have f6 : ((Int.tmod (wrap64 (Int.tdiv (wrap64 (Int.tdiv n 500)) 64)) 2) == 1) = (Go.bits .and .i64 (n / 4 / 5 / 5 / 5) 64 != 0) := by rw [td n 500 h.1, q500, td _ 64 (by omega), x5, w64 (x := n / 4 / 5 / 5 / 5 / 64) (by omega) (by omega), tm _ 2 (by omega), flg6 _ b5.1 b5.2]
    have f7 : ((Int.tmod (wrap64 (Int.tdiv (wrap64 (Int.tdiv n 500)) 128)) 2) == 1) = (Go.bits .and .i64 (n / 4 / 5 / 5 / 5) 128 != 0) := by rw [td n 500 h.1, q500, td _ 128 (by omega), x5, w64 (x := n / 4 / 5 / 5 / 5 / 128) (by omega) (by omega), tm _ 2 (by omega), flg7 _ b5.1 b5.2]
    have f8 : ((Int.tmod (wrap64 (Int.tdiv (wrap64 (Int.tdiv n 500)) 256)) 2) == 1) = (Go.bits .and .i64 (n / 4 / 5 / 5 / 5) 256 != 0) := by rw [td n 500 h.1, q500, td _ 256 (by omega), x5, w64 (x := n / 4 / 5 / 5 / 5 / 256) (by omega) (by omega), tm _ 2 (by omega), flg8 _ b5.1 b5.2]
    have f9 : ((Int.tmod (wrap64 (Int.tdiv (wrap64 (Int.tdiv n 500)) 512)) 2) == 1) = (Go.bits .and .i64 (n / 4 / 5 / 5 / 5) 512 != 0) := by rw [td n 500 h.1, q500, td _ 512 (by omega), x5, w64 (x := n / 4 / 5 / 5 / 5 / 512) (by omega) (by omega), tm _ 2 (by omega), flg9 _ b5.1 b5.2]
    rw [decide_eq_true (show 0 ≤ n ∧ n ≤ 511999 by omega), if_pos rfl, if_pos h, e0, e1, e2, e3, f0, f1, f2, f3, f4, f5, f6, f7, f8, f9, refcheck_f _ _ _ _ _ _ _ _ _ _ _ _ _ _ k, check_f _ _ _ _ _ _ _ _ _ _ _ _ _ _ (k + 1) (by omega), Option.bind_some]
  · rw [decide_eq_false (show ¬ (0 ≤ n ∧ n ≤ 511999) by omega), if_neg (by simp), if_neg h]
def sumF : Int → List Bool → Int
  | _, [] => 0
  | m, b :: bs => option_Bits.bm b m + sumF (2 * m) bs
theorem shl500 : ∀ i : Fin 10, shl .i64 500 (((i : Nat) : Int)) = 500 * 2 ^ (i : Nat) := by decide +kernel
theorem refbits_loop : ∀ (rest pre : List Bool) (k : Nat) (x m : Int), rest.length < k → pre.length + rest.length ≤ 10 → m = 500 * 2 ^ pre.length → 0 ≤ x → x < m → m * 2 ^ rest.length ≤ 512000 →
    naskhref10_Bits.l0 k x (pre ++ rest) (pre.length : Int) = some (x + sumF m rest, 0)
  | [], pre, k, x, m, hk, hl, hm, h0, h1, h2 => by
    obtain ⟨k, rfl⟩ : ∃ m, k = m + 1 := ⟨k - 1, by omega⟩
    rw [naskhref10_Bits.l0, if_neg (by simp), sumF, Int.add_zero]
  | b :: rest, pre, k, x, m, hk, hl, hm, h0, h1, h2 => by
    obtain ⟨k, rfl⟩ : ∃ m, k = m + 1 := ⟨k - 1, by omega⟩
    rw [List.length_cons] at hk hl h2
    have hlen : (pre ++ b :: rest).length = pre.length + rest.length + 1 := by simp; omega
    have hr : rdOf false (pre ++ b :: rest) (pre.length : Int) = b := by simp [rdOf]
    have hs : shl .i64 500 (pre.length : Int) = m := by rw [hm]; exact shl500 ⟨pre.length, by omega⟩
    have hp : (0 : Int) < 2 ^ rest.length := Int.pow_pos (by omega)
    have hm2 : m ≤ 256000 := by
      rw [Int.pow_succ, ← Int.mul_assoc] at h2
      have : m * 1 ≤ m * 2 ^ rest.length := Int.mul_le_mul_of_nonneg_left (by omega) (by omega)
      omega
    have e1 : pre ++ [b] ++ rest = pre ++ b :: rest := by simp
    have e2 : ((pre ++ [b]).length : Int) = (pre.length : Int) + 1 := by simp
    have e3 : 2 * m = 500 * 2 ^ (pre ++ [b]).length := by rw [List.length_append, List.length_singleton, Int.pow_succ, hm]; omega
    have h5 : 2 * m * 2 ^ rest.length ≤ 512000 := by
      rw [Int.pow_succ] at h2
      have h6 : m * (2 ^ rest.length * 2) = 2 * m * 2 ^ rest.length := by rw [Int.mul_comm (2 ^ rest.length) 2, ← Int.mul_assoc, Int.mul_comm m 2]
      rw [h6] at h2
      exact h2
    have step := fun y hy0 hy1 => refbits_loop rest (pre ++ [b]) k y (2 * m) (by omega) (by simp; omega) e3 hy0 hy1 h5
    rw [e1, e2] at step
    rw [naskhref10_Bits.l0, if_pos (by omega), if_pos (by omega), hr, hs, sumF, w64 (x := (pre.length : Int) + 1) (by omega) (by omega), w64 (x := x + m) (by omega) (by omega)]
    cases b with
    | true =>
      rw [if_pos rfl, step (x + m) (by omega) (by omega), show option_Bits.bm true m = m from rfl, Int.add_assoc]
    | false =>
      rw [if_neg (by simp), step x h0 (by omega), show option_Bits.bm false m = 0 from rfl, Int.zero_add]
theorem refbits_f (a0 a1 a2 a3 : Int) (b4 b5 b6 b7 b8 b9 b10 b11 b12 b13 : Bool) (k : Nat) (hk : 100 ≤ k) : naskhref10_Bits.f (k + 1) a0 a1 a2 a3 b4 b5 b6 b7 b8 b9 b10 b11 b12 b13 = some (if (if (0 ≤ a0 ∧ a0 < 4) ∧ (0 ≤ a1 ∧ a1 < 5) ∧ (0 ≤ a2 ∧ a2 < 5) ∧ (0 ≤ a3 ∧ a3 < 5) then (if cl (a1 == 0) (a2 == 0) (a2 == 3) (a2 == 4) b5 b6 b7 b8 b9 b10 b11 = true then (3 : Int) else 0) else 1) = 0 then (a0 * 1 + a1 * 4 + a2 * 20 + a3 * 100 + option_Bits.bm b4 500 + option_Bits.bm b5 1000 + option_Bits.bm b6 2000 + option_Bits.bm b7 4000 + option_Bits.bm b8 8000 + option_Bits.bm b9 16000 + option_Bits.bm b10 32000 + option_Bits.bm b11 64000 + option_Bits.bm b12 128000 + option_Bits.bm b13 256000, 0) else (0, (if (0 ≤ a0 ∧ a0 < 4) ∧ (0 ≤ a1 ∧ a1 < 5) ∧ (0 ≤ a2 ∧ a2 < 5) ∧ (0 ≤ a3 ∧ a3 < 5) then (if cl (a1 == 0) (a2 == 0) (a2 == 3) (a2 == 4) b5 b6 b7 b8 b9 b10 b11 = true then (3 : Int) else 0) else 1))) := by
  unfold naskhref10_Bits.f naskhref10_flags.f
  rw [refcheck_f a0 a1 a2 a3 b4 b5 b6 b7 b8 b9 b10 b11 b12 b13 k, Option.bind_some]
  by_cases he : (if (0 ≤ a0 ∧ a0 < 4) ∧ (0 ≤ a1 ∧ a1 < 5) ∧ (0 ≤ a2 ∧ a2 < 5) ∧ (0 ≤ a3 ∧ a3 < 5) then (if cl (a1 == 0) (a2 == 0) (a2 == 3) (a2 == 4) b5 b6 b7 b8 b9 b10 b11 = true then (3 : Int) else 0) else 1) = 0
  · rw [if_pos he, if_pos he, Option.bind_some]
    by_cases hd : (0 ≤ a0 ∧ a0 < 4) ∧ (0 ≤ a1 ∧ a1 < 5) ∧ (0 ≤ a2 ∧ a2 < 5) ∧ (0 ≤ a3 ∧ a3 < 5)
    · have e1 : wrap64 (4 * a1) = 4 * a1 := w64 (by omega) (by omega)
      have e2 : wrap64 (20 * a2) = 20 * a2 := w64 (by omega) (by omega)
      have e3 : wrap64 (100 * a3) = 100 * a3 := w64 (by omega) (by omega)
      have e4 : wrap64 (a0 + 4 * a1) = a0 + 4 * a1 := w64 (by omega) (by omega)
      have e5 : wrap64 (a0 + 4 * a1 + 20 * a2) = a0 + 4 * a1 + 20 * a2 := w64 (by omega) (by omega)
      have e6 : wrap64 (a0 + 4 * a1 + 20 * a2 + 100 * a3) = a0 + 4 * a1 + 20 * a2 + 100 * a3 := w64 (by omega) (by omega)
      rw [e1, e2, e3, e4, e5, e6]
      have := refbits_loop [b4, b5, b6, b7, b8, b9, b10, b11, b12, b13] [] (k + 1) (a0 + 4 * a1 + 20 * a2 + 100 * a3) 500 (by simp; omega) (by simp) (by simp) (by omega) (by omega) (by simp)
      simp only [sumF, Int.reduceMul, List.nil_append, List.length_nil, Int.natCast_zero] at this
      rw [this]
      congr 2
      omega
    · rw [if_neg hd] at he; omega
  · rw [if_neg he, if_neg he]

theorem OptionBits_ok : naskhlaw10_OptionBits.Pure := by
  intro a0 a1 a2 a3 b4 b5 b6 b7 b8 b9 b10 b11 b12 b13 n h1 h2 h3 h4 h5
  refine ⟨1001, ?_⟩
  unfold naskhlaw10_OptionBits.f
  obtain ⟨r, hr⟩ := of_some n 1001 (by omega)
  rw [bits_f a0 a1 a2 a3 b4 b5 b6 b7 b8 b9 b10 b11 b12 b13 1001 (by omega), Option.bind_some, refbits_f a0 a1 a2 a3 b4 b5 b6 b7 b8 b9 b10 b11 b12 b13 1000 (by omega), Option.bind_some, refof_eq n 1000 (by omega), hr, Option.bind_some, Option.bind_some, if_pos rfl, if_pos rfl, if_pos (by simp), if_pos rfl, haw 1001 (by omega)]
  rfl
end Go.Proofs.Ytjnhepgjkphkoaa.PureOptionBitsAux
namespace Go.Proofs.Ytjnhepgjkphkoaa.Pure
open Go.Proofs.Ytjnhepgjkphkoaa.POptionBits
theorem OptionBits : naskhlaw10_OptionBits.Pure := PureOptionBitsAux.OptionBits_ok
end Go.Proofs.Ytjnhepgjkphkoaa.Pure
