/- Options that go together are those of their number, and a number that is one is theirs. No condition. -/
import Derived.Test.YtjnhepgjkphkoaaPOptionBackx
namespace Go.Proofs.Ytjnhepgjkphkoaa.PureOptionBackAux
open Go.RowKit Go.Proofs.Ytjnhepgjkphkoaa.POptionBack Go.Proofs.YtjnhepgjkphkoaaW.PrintWords Go.Proofs.YtjnhepgjkphkoaaW.PrintLast

set_option linter.unusedSimpArgs false
set_option linter.unusedVariables false
theorem w64 {x : Int} (h0 : -9223372036854775808 ≤ x) (h1 : x ≤ 9223372036854775807) : wrap64 x = x := by unfold wrap64; omega
theorem rd_at (pre : List Int) (x : Int) (rest : List Int) : rd (pre ++ x :: rest) (pre.length : Int) = x := by simp [rd]
theorem rd_nat (l : List Int) (i : Nat) (h : i < l.length) : rd l (i : Int) = l[i] := by simp [rd, h]
theorem wf64 {x : Int} (h : (Lit.int .i64 x).wf = true) : -9223372036854775808 ≤ x ∧ x ≤ 9223372036854775807 := by
  simpa [Lit.wf, IntKind.min, IntKind.max, IntKind.signed, IntKind.bits] using h
theorem bsome {P : Prop} [Decidable P] {b : Bool} (h : b = true ↔ P) : some b = some (decide P) := by
  congr 1; rw [Bool.eq_iff_iff]; simpa using h
theorem u16w {x : Int} (h0 : 0 ≤ x) (h1 : x ≤ 65535) : IntKind.u16.wrap x = x := by
  simp [IntKind.wrap, IntKind.min, IntKind.max, IntKind.signed, IntKind.bits]; omega

theorem any_loop : ∀ (rest pre : List Bool) (k : Nat), rest.length < k → pre.length + rest.length ≤ 100 → option_any.l0 k (pre ++ rest) ((pre ++ rest).length : Int) (pre.length : Int) = some (rest.any id)
  | [], pre, k, hk, hm => by
    obtain ⟨k, rfl⟩ : ∃ m, k = m + 1 := ⟨k - 1, by omega⟩
    rw [option_any.l0, if_neg (by simp)]
    rfl
  | x :: rest, pre, k, hk, hm => by
    obtain ⟨k, rfl⟩ : ∃ m, k = m + 1 := ⟨k - 1, by omega⟩
    rw [List.length_cons] at hk hm
    have hl : (pre ++ x :: rest).length = pre.length + rest.length + 1 := by simp; omega
    have hr : rdOf false (pre ++ x :: rest) (pre.length : Int) = x := by simp [rdOf]
    have step := any_loop rest (pre ++ [x]) k (by omega) (by simp; omega)
    have e1 : pre ++ [x] ++ rest = pre ++ x :: rest := by simp
    have e2 : ((pre ++ [x]).length : Int) = (pre.length : Int) + 1 := by simp
    rw [e1, e2] at step
    rw [option_any.l0, if_pos (by omega), if_pos (by omega), if_pos (by omega), hr, w64 (by omega) (by omega)]
    cases x with
    | true => rfl
    | false =>
      rw [if_neg (by simp)]
      exact step
theorem any_f (l : List Bool) (k : Nat) (hk : 100 ≤ k) (hl : l.length < 100) : option_any.f k l = some (l.any id) := any_loop l [] k (by omega) (by simp; omega)
/-- What clashes, by what is asked. -/
def cl (p q r3 r4 b5 b6 b7 b8 b9 b10 b11 : Bool) : Bool := ((!p || !q || b7 || b8 || b9) && !b5) || (b6 && p) || (b7 && (r3 || r4)) || (b11 && !b10)
theorem clash_f (a0 a1 a2 a3 : Int) (b4 b5 b6 b7 b8 b9 b10 b11 b12 b13 : Bool) (k : Nat) (hk : 100 ≤ k) : option_clash.f k a0 a1 a2 a3 b4 b5 b6 b7 b8 b9 b10 b11 b12 b13 = some (cl (a1 == 0) (a2 == 0) (a2 == 3) (a2 == 4) b5 b6 b7 b8 b9 b10 b11) := by
  unfold option_clash.f
  rw [any_f _ k hk (by simp), Option.bind_some, any_f _ k hk (by simp), Option.bind_some]
  have h4 : ∀ a b c d : Bool, option_any.f k [a, b, c, d] = some ([a, b, c, d].any id) := fun a b c d => any_f _ k hk (by simp)
  simp only [h4, Option.bind_some]
  have e1 : (a1 != 0) = !(a1 == 0) := rfl
  have e2 : (a2 != 0) = !(a2 == 0) := rfl
  rw [e1, e2]
  generalize (a1 == 0) = p
  generalize (a2 == 0) = q
  generalize (a2 == 3) = r3
  generalize (a2 == 4) = r4
  revert p q r3 r4 b5 b6 b7 b8 b9 b10 b11
  decide +kernel
theorem check_f (a0 a1 a2 a3 : Int) (b4 b5 b6 b7 b8 b9 b10 b11 b12 b13 : Bool) (k : Nat) (hk : 100 ≤ k) : option_Check.f k a0 a1 a2 a3 b4 b5 b6 b7 b8 b9 b10 b11 b12 b13 = some (if (0 ≤ a0 ∧ a0 < 4) ∧ (0 ≤ a1 ∧ a1 < 5) ∧ (0 ≤ a2 ∧ a2 < 5) ∧ (0 ≤ a3 ∧ a3 < 5) then (if cl (a1 == 0) (a2 == 0) (a2 == 3) (a2 == 4) b5 b6 b7 b8 b9 b10 b11 = true then 3 else 0) else 1) := by
  unfold option_Check.f
  by_cases h : (0 ≤ a0 ∧ a0 < 4) ∧ (0 ≤ a1 ∧ a1 < 5) ∧ (0 ≤ a2 ∧ a2 < 5) ∧ (0 ≤ a3 ∧ a3 < 5)
  · rw [if_pos h, if_pos h, clash_f a0 a1 a2 a3 b4 b5 b6 b7 b8 b9 b10 b11 b12 b13 k hk, Option.bind_some]
  · rw [if_neg h, if_neg h]
theorem awake_ok : naskhlaw10_awake.f 100 = some true := by decide +kernel
theorem haw (k : Nat) (hk : 100 ≤ k) : naskhlaw10_awake.f k = some true := at_rounds (fun k => naskhlaw10_awake.mono k) hk awake_ok

theorem bits_f (a0 a1 a2 a3 : Int) (b4 b5 b6 b7 b8 b9 b10 b11 b12 b13 : Bool) (k : Nat) (hk : 100 ≤ k) : option_Bits.f k a0 a1 a2 a3 b4 b5 b6 b7 b8 b9 b10 b11 b12 b13 = some (if (if (0 ≤ a0 ∧ a0 < 4) ∧ (0 ≤ a1 ∧ a1 < 5) ∧ (0 ≤ a2 ∧ a2 < 5) ∧ (0 ≤ a3 ∧ a3 < 5) then (if cl (a1 == 0) (a2 == 0) (a2 == 3) (a2 == 4) b5 b6 b7 b8 b9 b10 b11 = true then (3 : Int) else 0) else 1) = 0 then (a0 * 1 + a1 * 4 + a2 * 20 + a3 * 100 + option_Bits.bm b4 500 + option_Bits.bm b5 1000 + option_Bits.bm b6 2000 + option_Bits.bm b7 4000 + option_Bits.bm b8 8000 + option_Bits.bm b9 16000 + option_Bits.bm b10 32000 + option_Bits.bm b11 64000 + option_Bits.bm b12 128000 + option_Bits.bm b13 256000, 0) else (0, (if (0 ≤ a0 ∧ a0 < 4) ∧ (0 ≤ a1 ∧ a1 < 5) ∧ (0 ≤ a2 ∧ a2 < 5) ∧ (0 ≤ a3 ∧ a3 < 5) then (if cl (a1 == 0) (a2 == 0) (a2 == 3) (a2 == 4) b5 b6 b7 b8 b9 b10 b11 = true then (3 : Int) else 0) else 1))) := by
  unfold option_Bits.f
  rw [check_f a0 a1 a2 a3 b4 b5 b6 b7 b8 b9 b10 b11 b12 b13 k hk, Option.bind_some]
  by_cases he : (if (0 ≤ a0 ∧ a0 < 4) ∧ (0 ≤ a1 ∧ a1 < 5) ∧ (0 ≤ a2 ∧ a2 < 5) ∧ (0 ≤ a3 ∧ a3 < 5) then (if cl (a1 == 0) (a2 == 0) (a2 == 3) (a2 == 4) b5 b6 b7 b8 b9 b10 b11 = true then (3 : Int) else 0) else 1) = 0
  · rw [if_pos he, if_pos he]
    by_cases hd : (0 ≤ a0 ∧ a0 < 4) ∧ (0 ≤ a1 ∧ a1 < 5) ∧ (0 ≤ a2 ∧ a2 < 5) ∧ (0 ≤ a3 ∧ a3 < 5)
    · rw [if_pos hd]
    · rw [if_neg hd] at he; omega
  · rw [if_neg he, if_neg he]

theorem fl0 : ∀ x : Fin 1024, (Go.bits .and .i64 ((x : Nat) : Int) 1 != 0) = ((((x : Nat) : Int) / 1) % 2 == 1) := by decide +kernel
theorem flg0 (x : Int) (h0 : 0 ≤ x) (h1 : x < 1024) : (Go.bits .and .i64 x 1 != 0) = ((x / 1) % 2 == 1) := by
  have := fl0 ⟨x.toNat, by omega⟩
  rw [show ((x.toNat : Nat) : Int) = x by omega] at this
  exact this
theorem fl1 : ∀ x : Fin 1024, (Go.bits .and .i64 ((x : Nat) : Int) 2 != 0) = ((((x : Nat) : Int) / 2) % 2 == 1) := by decide +kernel
theorem flg1 (x : Int) (h0 : 0 ≤ x) (h1 : x < 1024) : (Go.bits .and .i64 x 2 != 0) = ((x / 2) % 2 == 1) := by
  have := fl1 ⟨x.toNat, by omega⟩
  rw [show ((x.toNat : Nat) : Int) = x by omega] at this
  exact this
theorem fl2 : ∀ x : Fin 1024, (Go.bits .and .i64 ((x : Nat) : Int) 4 != 0) = ((((x : Nat) : Int) / 4) % 2 == 1) := by decide +kernel
theorem flg2 (x : Int) (h0 : 0 ≤ x) (h1 : x < 1024) : (Go.bits .and .i64 x 4 != 0) = ((x / 4) % 2 == 1) := by
  have := fl2 ⟨x.toNat, by omega⟩
  rw [show ((x.toNat : Nat) : Int) = x by omega] at this
  exact this
theorem fl3 : ∀ x : Fin 1024, (Go.bits .and .i64 ((x : Nat) : Int) 8 != 0) = ((((x : Nat) : Int) / 8) % 2 == 1) := by decide +kernel
theorem flg3 (x : Int) (h0 : 0 ≤ x) (h1 : x < 1024) : (Go.bits .and .i64 x 8 != 0) = ((x / 8) % 2 == 1) := by
  have := fl3 ⟨x.toNat, by omega⟩
  rw [show ((x.toNat : Nat) : Int) = x by omega] at this
  exact this
theorem fl4 : ∀ x : Fin 1024, (Go.bits .and .i64 ((x : Nat) : Int) 16 != 0) = ((((x : Nat) : Int) / 16) % 2 == 1) := by decide +kernel
theorem flg4 (x : Int) (h0 : 0 ≤ x) (h1 : x < 1024) : (Go.bits .and .i64 x 16 != 0) = ((x / 16) % 2 == 1) := by
  have := fl4 ⟨x.toNat, by omega⟩
  rw [show ((x.toNat : Nat) : Int) = x by omega] at this
  exact this
theorem fl5 : ∀ x : Fin 1024, (Go.bits .and .i64 ((x : Nat) : Int) 32 != 0) = ((((x : Nat) : Int) / 32) % 2 == 1) := by decide +kernel
theorem flg5 (x : Int) (h0 : 0 ≤ x) (h1 : x < 1024) : (Go.bits .and .i64 x 32 != 0) = ((x / 32) % 2 == 1) := by
  have := fl5 ⟨x.toNat, by omega⟩
  rw [show ((x.toNat : Nat) : Int) = x by omega] at this
  exact this
theorem fl6 : ∀ x : Fin 1024, (Go.bits .and .i64 ((x : Nat) : Int) 64 != 0) = ((((x : Nat) : Int) / 64) % 2 == 1) := by decide +kernel
theorem flg6 (x : Int) (h0 : 0 ≤ x) (h1 : x < 1024) : (Go.bits .and .i64 x 64 != 0) = ((x / 64) % 2 == 1) := by
  have := fl6 ⟨x.toNat, by omega⟩
  rw [show ((x.toNat : Nat) : Int) = x by omega] at this
  exact this
theorem fl7 : ∀ x : Fin 1024, (Go.bits .and .i64 ((x : Nat) : Int) 128 != 0) = ((((x : Nat) : Int) / 128) % 2 == 1) := by decide +kernel
theorem flg7 (x : Int) (h0 : 0 ≤ x) (h1 : x < 1024) : (Go.bits .and .i64 x 128 != 0) = ((x / 128) % 2 == 1) := by
  have := fl7 ⟨x.toNat, by omega⟩
  rw [show ((x.toNat : Nat) : Int) = x by omega] at this
  exact this
theorem fl8 : ∀ x : Fin 1024, (Go.bits .and .i64 ((x : Nat) : Int) 256 != 0) = ((((x : Nat) : Int) / 256) % 2 == 1) := by decide +kernel
theorem flg8 (x : Int) (h0 : 0 ≤ x) (h1 : x < 1024) : (Go.bits .and .i64 x 256 != 0) = ((x / 256) % 2 == 1) := by
  have := fl8 ⟨x.toNat, by omega⟩
  rw [show ((x.toNat : Nat) : Int) = x by omega] at this
  exact this
theorem fl9 : ∀ x : Fin 1024, (Go.bits .and .i64 ((x : Nat) : Int) 512 != 0) = ((((x : Nat) : Int) / 512) % 2 == 1) := by decide +kernel
theorem flg9 (x : Int) (h0 : 0 ≤ x) (h1 : x < 1024) : (Go.bits .and .i64 x 512 != 0) = ((x / 512) % 2 == 1) := by
  have := fl9 ⟨x.toNat, by omega⟩
  rw [show ((x.toNat : Nat) : Int) = x by omega] at this
  exact this
theorem of_some (n : Int) (k : Nat) (hk : 100 ≤ k) : ∃ r, option_Of.f k n = some r := by
  unfold option_Of.f
  by_cases h : 0 ≤ n ∧ n < 512000
  · rw [if_pos h, check_f _ _ _ _ _ _ _ _ _ _ _ _ _ _ k hk, Option.bind_some]
    by_cases he : (if (0 ≤ (n) % 4 ∧ (n) % 4 < 4) ∧ (0 ≤ (n / 4) % 5 ∧ (n / 4) % 5 < 5) ∧ (0 ≤ (n / 4 / 5) % 5 ∧ (n / 4 / 5) % 5 < 5) ∧ (0 ≤ (n / 4 / 5 / 5) % 5 ∧ (n / 4 / 5 / 5) % 5 < 5) then (if cl ((n / 4) % 5 == 0) ((n / 4 / 5) % 5 == 0) ((n / 4 / 5) % 5 == 3) ((n / 4 / 5) % 5 == 4) (Go.bits .and .i64 (n / 4 / 5 / 5 / 5) 2 != 0) (Go.bits .and .i64 (n / 4 / 5 / 5 / 5) 4 != 0) (Go.bits .and .i64 (n / 4 / 5 / 5 / 5) 8 != 0) (Go.bits .and .i64 (n / 4 / 5 / 5 / 5) 16 != 0) (Go.bits .and .i64 (n / 4 / 5 / 5 / 5) 32 != 0) (Go.bits .and .i64 (n / 4 / 5 / 5 / 5) 64 != 0) (Go.bits .and .i64 (n / 4 / 5 / 5 / 5) 128 != 0) = true then (3 : Int) else 0) else 1) = 0
    · rw [if_pos he]; exact ⟨_, rfl⟩
    · rw [if_neg he]; exact ⟨_, rfl⟩
  · rw [if_neg h]; exact ⟨_, rfl⟩

theorem u64_nn (x : Int) : 0 ≤ IntKind.u64.wrap x := by
  simp [IntKind.wrap, IntKind.min, IntKind.max, IntKind.signed, IntKind.bits]; omega
theorem held_f (a m : Int) (h : m = 3 ∨ m = 4) : ∃ d, naskhplain_held.f a m = some d ∧ 0 ≤ d ∧ d < m + 1 := by
  have h0 := u64_nn a
  rcases h with rfl | rfl
  · have hu : IntKind.u64.wrap (wrap64 (3 + 1)) = 4 := by decide +kernel
    unfold naskhplain_held.f
    rw [hu, if_neg (by omega), Int.tmod_eq_emod_of_nonneg h0, w64 (by omega) (by omega)]
    exact ⟨_, rfl, by omega, by omega⟩
  · have hu : IntKind.u64.wrap (wrap64 (4 + 1)) = 5 := by decide +kernel
    unfold naskhplain_held.f
    rw [hu, if_neg (by omega), Int.tmod_eq_emod_of_nonneg h0, w64 (by omega) (by omega)]
    exact ⟨_, rfl, by omega, by omega⟩
def Good (d0 d1 d2 d3 : Int) (e5 e6 e7 e8 e9 e10 e11 : Bool) : Prop := ((0 ≤ d0 ∧ d0 < 4) ∧ (0 ≤ d1 ∧ d1 < 5) ∧ (0 ≤ d2 ∧ d2 < 5) ∧ (0 ≤ d3 ∧ d3 < 5)) ∧ cl (d1 == 0) (d2 == 0) (d2 == 3) (d2 == 4) e5 e6 e7 e8 e9 e10 e11 = false
theorem j2_f (g : Bool) (d0 d1 d2 d3 : Int) (e4 e5 e6 e7 e8 e9 e10 e11 e12 e13 : Bool) (k : Nat) (hd : (0 ≤ d0 ∧ d0 < 4) ∧ (0 ≤ d1 ∧ d1 < 5) ∧ (0 ≤ d2 ∧ d2 < 5) ∧ (0 ≤ d3 ∧ d3 < 5)) (h1 : ((!(d1 == 0) || !(d2 == 0) || e7 || e8 || e9) && !e5) = false) (h2 : (e6 && (d1 == 0)) = false) (h3 : g = ((d2 == 3) || (d2 == 4))) :
    ∃ f7 f11, naskhplain_Right.j2 (k + 1) g d0 d1 d2 d3 e4 e5 e6 e7 e8 e9 e10 e11 e12 e13 = some (d0, d1, d2, d3, e4, e5, e6, f7, e8, e9, e10, f11, e12, e13) ∧ Good d0 d1 d2 d3 e5 e6 f7 e8 e9 e10 f11 := by
  rw [naskhplain_Right.j2]
  unfold Good cl
  revert h1 h2
  rw [← h3]
  generalize (d1 == 0) = p
  generalize (d2 == 0) = q
  intro h1 h2
  cases g with
  | true =>
    rw [if_pos rfl]
    cases e10 with
    | true => rw [if_pos rfl]; exact ⟨false, e11, rfl, hd, by revert h1 h2; revert p q e5 e6 e7 e8 e9 e11; decide⟩
    | false => rw [if_neg (by simp)]; exact ⟨false, false, rfl, hd, by revert h1 h2; revert p q e5 e6 e7 e8 e9; decide⟩
  | false =>
    rw [if_neg (by simp)]
    cases e10 with
    | true => rw [if_pos rfl]; exact ⟨e7, e11, rfl, hd, by revert h1 h2; revert p q e5 e6 e7 e8 e9 e11; decide⟩
    | false => rw [if_neg (by simp)]; exact ⟨e7, false, rfl, hd, by revert h1 h2; revert p q e5 e6 e7 e8 e9; decide⟩
theorem j1_f (d0 d1 d2 d3 : Int) (e4 e5 e6 e7 e8 e9 e10 e11 e12 e13 : Bool) (k : Nat) (hd : (0 ≤ d0 ∧ d0 < 4) ∧ (0 ≤ d1 ∧ d1 < 5) ∧ (0 ≤ d2 ∧ d2 < 5) ∧ (0 ≤ d3 ∧ d3 < 5)) (h1 : ((!(d1 == 0) || !(d2 == 0) || e7 || e8 || e9) && !e5) = false) (h2 : (e6 && (d1 == 0)) = false) :
    ∃ f7 f11, naskhplain_Right.j1 (k + 2) d0 d1 d2 d3 e4 e5 e6 e7 e8 e9 e10 e11 e12 e13 = some (d0, d1, d2, d3, e4, e5, e6, f7, e8, e9, e10, f11, e12, e13) ∧ Good d0 d1 d2 d3 e5 e6 f7 e8 e9 e10 f11 := by
  rw [naskhplain_Right.j1]
  by_cases h : d2 = 3
  · rw [if_pos h]; exact j2_f true d0 d1 d2 d3 e4 e5 e6 e7 e8 e9 e10 e11 e12 e13 k hd h1 h2 (by rw [h]; rfl)
  · rw [if_neg h]; exact j2_f _ d0 d1 d2 d3 e4 e5 e6 e7 e8 e9 e10 e11 e12 e13 k hd h1 h2 (by rw [show (d2 == 3) = false from beq_eq_false_iff_ne.mpr h, Bool.false_or])
theorem j0_f (d0 d1 d2 d3 : Int) (e4 e5 e6 e7 e8 e9 e10 e11 e12 e13 : Bool) (k : Nat) (hd : (0 ≤ d0 ∧ d0 < 4) ∧ (0 ≤ d1 ∧ d1 < 5) ∧ (0 ≤ d2 ∧ d2 < 5) ∧ (0 ≤ d3 ∧ d3 < 5)) (h1 : ((!(d1 == 0) || !(d2 == 0) || e7 || e8 || e9) && !e5) = false) :
    ∃ f6 f7 f11, naskhplain_Right.j0 (k + 3) d0 d1 d2 d3 e4 e5 e6 e7 e8 e9 e10 e11 e12 e13 = some (d0, d1, d2, d3, e4, e5, f6, f7, e8, e9, e10, f11, e12, e13) ∧ Good d0 d1 d2 d3 e5 f6 f7 e8 e9 e10 f11 := by
  rw [naskhplain_Right.j0]
  by_cases h : d1 = 0
  · rw [if_pos h]
    obtain ⟨f7, f11, h3, h4⟩ := j1_f d0 d1 d2 d3 e4 e5 false e7 e8 e9 e10 e11 e12 e13 k hd h1 rfl
    exact ⟨false, f7, f11, h3, h4⟩
  · rw [if_neg h]
    obtain ⟨f7, f11, h3, h4⟩ := j1_f d0 d1 d2 d3 e4 e5 e6 e7 e8 e9 e10 e11 e12 e13 k hd h1 (by rw [show (d1 == 0) = false from beq_eq_false_iff_ne.mpr h, Bool.and_false])
    exact ⟨e6, f7, f11, h3, h4⟩
theorem right_f (a0 a1 a2 a3 : Int) (b4 b5 b6 b7 b8 b9 b10 b11 b12 b13 : Bool) (k : Nat) : ∃ (d0 d1 d2 d3 : Int) (e4 e5 e6 e7 e8 e9 e10 e11 e12 e13 : Bool), naskhplain_Right.f (k + 3) a0 a1 a2 a3 b4 b5 b6 b7 b8 b9 b10 b11 b12 b13 = some (d0, d1, d2, d3, e4, e5, e6, e7, e8, e9, e10, e11, e12, e13) ∧ Good d0 d1 d2 d3 e5 e6 e7 e8 e9 e10 e11 := by
  obtain ⟨x0, h0, p0⟩ := held_f a0 3 (Or.inl rfl)
  obtain ⟨x1, h1, p1⟩ := held_f a1 4 (Or.inr rfl)
  obtain ⟨x2, h2, p2⟩ := held_f a2 4 (Or.inr rfl)
  obtain ⟨x3, h3, p3⟩ := held_f a3 4 (Or.inr rfl)
  unfold naskhplain_Right.f
  rw [h0, Option.bind_some, h1, Option.bind_some, h2, Option.bind_some, h3, Option.bind_some]
  by_cases hb : b5 = true
  · rw [if_pos hb]
    obtain ⟨f6, f7, f11, h4, h5⟩ := j0_f x0 x1 x2 x3 b4 b5 b6 b7 b8 b9 b10 b11 b12 b13 k ⟨⟨p0.1, by omega⟩, ⟨p1.1, by omega⟩, ⟨p2.1, by omega⟩, ⟨p3.1, by omega⟩⟩ (by rw [hb]; simp)
    exact ⟨_, _, _, _, _, _, _, _, _, _, _, _, _, _, h4, h5⟩
  · rw [if_neg hb]
    obtain ⟨f6, f7, f11, h4, h5⟩ := j0_f x0 0 0 x3 b4 b5 b6 false false false b10 b11 b12 b13 k ⟨⟨p0.1, by omega⟩, ⟨by omega, by omega⟩, ⟨by omega, by omega⟩, ⟨p3.1, by omega⟩⟩ (by simp)
    exact ⟨_, _, _, _, _, _, _, _, _, _, _, _, _, _, h4, h5⟩

theorem bmy (b : Bool) (m : Int) : ∃ y : Int, option_Bits.bm b m = m * y ∧ 0 ≤ y ∧ y ≤ 1 ∧ b = (y == 1) := by
  cases b with
  | true => exact ⟨1, by show m = m * 1; omega, by omega, by omega, rfl⟩
  | false => exact ⟨0, by show (0 : Int) = m * 0; omega, by omega, by omega, rfl⟩
theorem of_back (d0 d1 d2 d3 : Int) (e4 e5 e6 e7 e8 e9 e10 e11 e12 e13 : Bool) (h : (0 ≤ d0 ∧ d0 < 4) ∧ (0 ≤ d1 ∧ d1 < 5) ∧ (0 ≤ d2 ∧ d2 < 5) ∧ (0 ≤ d3 ∧ d3 < 5)) (n : Int) (hn : n = d0 * 1 + d1 * 4 + d2 * 20 + d3 * 100 + option_Bits.bm e4 500 + option_Bits.bm e5 1000 + option_Bits.bm e6 2000 + option_Bits.bm e7 4000 + option_Bits.bm e8 8000 + option_Bits.bm e9 16000 + option_Bits.bm e10 32000 + option_Bits.bm e11 64000 + option_Bits.bm e12 128000 + option_Bits.bm e13 256000) : (0 ≤ n ∧ n < 512000) ∧ (n) % 4 = d0 ∧ (n / 4) % 5 = d1 ∧ (n / 4 / 5) % 5 = d2 ∧ (n / 4 / 5 / 5) % 5 = d3 ∧ (Go.bits .and .i64 (n / 4 / 5 / 5 / 5) 1 != 0) = e4 ∧ (Go.bits .and .i64 (n / 4 / 5 / 5 / 5) 2 != 0) = e5 ∧ (Go.bits .and .i64 (n / 4 / 5 / 5 / 5) 4 != 0) = e6 ∧ (Go.bits .and .i64 (n / 4 / 5 / 5 / 5) 8 != 0) = e7 ∧ (Go.bits .and .i64 (n / 4 / 5 / 5 / 5) 16 != 0) = e8 ∧ (Go.bits .and .i64 (n / 4 / 5 / 5 / 5) 32 != 0) = e9 ∧ (Go.bits .and .i64 (n / 4 / 5 / 5 / 5) 64 != 0) = e10 ∧ (Go.bits .and .i64 (n / 4 / 5 / 5 / 5) 128 != 0) = e11 ∧ (Go.bits .and .i64 (n / 4 / 5 / 5 / 5) 256 != 0) = e12 ∧ (Go.bits .and .i64 (n / 4 / 5 / 5 / 5) 512 != 0) = e13 := by
  obtain ⟨y0, g0, l0, u0, q0⟩ := bmy e4 500
  obtain ⟨y1, g1, l1, u1, q1⟩ := bmy e5 1000
  obtain ⟨y2, g2, l2, u2, q2⟩ := bmy e6 2000
  obtain ⟨y3, g3, l3, u3, q3⟩ := bmy e7 4000
  obtain ⟨y4, g4, l4, u4, q4⟩ := bmy e8 8000
  obtain ⟨y5, g5, l5, u5, q5⟩ := bmy e9 16000
  obtain ⟨y6, g6, l6, u6, q6⟩ := bmy e10 32000
  obtain ⟨y7, g7, l7, u7, q7⟩ := bmy e11 64000
  obtain ⟨y8, g8, l8, u8, q8⟩ := bmy e12 128000
  obtain ⟨y9, g9, l9, u9, q9⟩ := bmy e13 256000
  rw [g0, g1, g2, g3, g4, g5, g6, g7, g8, g9] at hn
  obtain ⟨x, hx⟩ : ∃ x, x = 1 * y0 + 2 * y1 + 4 * y2 + 8 * y3 + 16 * y4 + 32 * y5 + 64 * y6 + 128 * y7 + 256 * y8 + 512 * y9 := ⟨_, rfl⟩
  have hx2 : 0 ≤ x ∧ x < 1024 := by omega
  have hn2 : n = d0 + 4 * d1 + 20 * d2 + 100 * d3 + 500 * x := by omega
  have hq : n / 4 / 5 / 5 / 5 = x := by omega
  refine ⟨by omega, by omega, by omega, by omega, by omega, ?_, ?_, ?_, ?_, ?_, ?_, ?_, ?_, ?_, ?_⟩
  · rw [hq, flg0 x hx2.1 hx2.2, q0]
    have : x / 1 % 2 = y0 := by omega
    rw [this]
  · rw [hq, flg1 x hx2.1 hx2.2, q1]
    have : x / 2 % 2 = y1 := by omega
    rw [this]
  · rw [hq, flg2 x hx2.1 hx2.2, q2]
    have : x / 4 % 2 = y2 := by omega
    rw [this]
  · rw [hq, flg3 x hx2.1 hx2.2, q3]
    have : x / 8 % 2 = y3 := by omega
    rw [this]
  · rw [hq, flg4 x hx2.1 hx2.2, q4]
    have : x / 16 % 2 = y4 := by omega
    rw [this]
  · rw [hq, flg5 x hx2.1 hx2.2, q5]
    have : x / 32 % 2 = y5 := by omega
    rw [this]
  · rw [hq, flg6 x hx2.1 hx2.2, q6]
    have : x / 64 % 2 = y6 := by omega
    rw [this]
  · rw [hq, flg7 x hx2.1 hx2.2, q7]
    have : x / 128 % 2 = y7 := by omega
    rw [this]
  · rw [hq, flg8 x hx2.1 hx2.2, q8]
    have : x / 256 % 2 = y8 := by omega
    rw [this]
  · rw [hq, flg9 x hx2.1 hx2.2, q9]
    have : x / 512 % 2 = y9 := by omega
    rw [this]
theorem bits_back (n : Int) (h : 0 ≤ n ∧ n < 512000) : ((n) % 4) * 1 + ((n / 4) % 5) * 4 + ((n / 4 / 5) % 5) * 20 + ((n / 4 / 5 / 5) % 5) * 100 + option_Bits.bm (Go.bits .and .i64 (n / 4 / 5 / 5 / 5) 1 != 0) 500 + option_Bits.bm (Go.bits .and .i64 (n / 4 / 5 / 5 / 5) 2 != 0) 1000 + option_Bits.bm (Go.bits .and .i64 (n / 4 / 5 / 5 / 5) 4 != 0) 2000 + option_Bits.bm (Go.bits .and .i64 (n / 4 / 5 / 5 / 5) 8 != 0) 4000 + option_Bits.bm (Go.bits .and .i64 (n / 4 / 5 / 5 / 5) 16 != 0) 8000 + option_Bits.bm (Go.bits .and .i64 (n / 4 / 5 / 5 / 5) 32 != 0) 16000 + option_Bits.bm (Go.bits .and .i64 (n / 4 / 5 / 5 / 5) 64 != 0) 32000 + option_Bits.bm (Go.bits .and .i64 (n / 4 / 5 / 5 / 5) 128 != 0) 64000 + option_Bits.bm (Go.bits .and .i64 (n / 4 / 5 / 5 / 5) 256 != 0) 128000 + option_Bits.bm (Go.bits .and .i64 (n / 4 / 5 / 5 / 5) 512 != 0) 256000 = n := by
  have b5 : 0 ≤ n / 4 / 5 / 5 / 5 ∧ n / 4 / 5 / 5 / 5 < 1024 := by omega
  obtain ⟨x, hx⟩ : ∃ x, n / 4 / 5 / 5 / 5 = x := ⟨_, rfl⟩
  rw [hx] at b5 ⊢
  have z0 : option_Bits.bm (Go.bits .and .i64 x 1 != 0) 500 = 500 * (x / 1 % 2) := by
    rw [flg0 x b5.1 b5.2]
    rcases (show x / 1 % 2 = 0 ∨ x / 1 % 2 = 1 by omega) with e | e <;> rw [e] <;> rfl
  have z1 : option_Bits.bm (Go.bits .and .i64 x 2 != 0) 1000 = 1000 * (x / 2 % 2) := by
    rw [flg1 x b5.1 b5.2]
    rcases (show x / 2 % 2 = 0 ∨ x / 2 % 2 = 1 by omega) with e | e <;> rw [e] <;> rfl
  have z2 : option_Bits.bm (Go.bits .and .i64 x 4 != 0) 2000 = 2000 * (x / 4 % 2) := by
    rw [flg2 x b5.1 b5.2]
    rcases (show x / 4 % 2 = 0 ∨ x / 4 % 2 = 1 by omega) with e | e <;> rw [e] <;> rfl
  have z3 : option_Bits.bm (Go.bits .and .i64 x 8 != 0) 4000 = 4000 * (x / 8 % 2) := by
    rw [flg3 x b5.1 b5.2]
    rcases (show x / 8 % 2 = 0 ∨ x / 8 % 2 = 1 by omega) with e | e <;> rw [e] <;> rfl
  have z4 : option_Bits.bm (Go.bits .and .i64 x 16 != 0) 8000 = 8000 * (x / 16 % 2) := by
    rw [flg4 x b5.1 b5.2]
    rcases (show x / 16 % 2 = 0 ∨ x / 16 % 2 = 1 by omega) with e | e <;> rw [e] <;> rfl
  have z5 : option_Bits.bm (Go.bits .and .i64 x 32 != 0) 16000 = 16000 * (x / 32 % 2) := by
    rw [flg5 x b5.1 b5.2]
    rcases (show x / 32 % 2 = 0 ∨ x / 32 % 2 = 1 by omega) with e | e <;> rw [e] <;> rfl
  have z6 : option_Bits.bm (Go.bits .and .i64 x 64 != 0) 32000 = 32000 * (x / 64 % 2) := by
    rw [flg6 x b5.1 b5.2]
    rcases (show x / 64 % 2 = 0 ∨ x / 64 % 2 = 1 by omega) with e | e <;> rw [e] <;> rfl
  have z7 : option_Bits.bm (Go.bits .and .i64 x 128 != 0) 64000 = 64000 * (x / 128 % 2) := by
    rw [flg7 x b5.1 b5.2]
    rcases (show x / 128 % 2 = 0 ∨ x / 128 % 2 = 1 by omega) with e | e <;> rw [e] <;> rfl
  have z8 : option_Bits.bm (Go.bits .and .i64 x 256 != 0) 128000 = 128000 * (x / 256 % 2) := by
    rw [flg8 x b5.1 b5.2]
    rcases (show x / 256 % 2 = 0 ∨ x / 256 % 2 = 1 by omega) with e | e <;> rw [e] <;> rfl
  have z9 : option_Bits.bm (Go.bits .and .i64 x 512 != 0) 256000 = 256000 * (x / 512 % 2) := by
    rw [flg9 x b5.1 b5.2]
    rcases (show x / 512 % 2 = 0 ∨ x / 512 % 2 = 1 by omega) with e | e <;> rw [e] <;> rfl
  rw [z0, z1, z2, z3, z4, z5, z6, z7, z8, z9]
  omega
theorem f1 (x : Int) : x / 1 = x := by omega

theorem OptionBack_ok : naskhlaw10_OptionBack.Pure := by
  intro a0 a1 a2 a3 b4 b5 b6 b7 b8 b9 b10 b11 b12 b13 n h1 h2 h3 h4 h5
  refine ⟨1003, ?_⟩
  unfold naskhlaw10_OptionBack.f
  obtain ⟨d0, d1, d2, d3, e4, e5, e6, e7, e8, e9, e10, e11, e12, e13, hR, hD, hC⟩ := right_f a0 a1 a2 a3 b4 b5 b6 b7 b8 b9 b10 b11 b12 b13 1000
  rw [hR, Option.bind_some]
  dsimp only
  rw [bits_f d0 d1 d2 d3 e4 e5 e6 e7 e8 e9 e10 e11 e12 e13 1003 (by omega), if_pos (show (if (0 ≤ d0 ∧ d0 < 4) ∧ (0 ≤ d1 ∧ d1 < 5) ∧ (0 ≤ d2 ∧ d2 < 5) ∧ (0 ≤ d3 ∧ d3 < 5) then (if cl (d1 == 0) (d2 == 0) (d2 == 3) (d2 == 4) e5 e6 e7 e8 e9 e10 e11 = true then (3 : Int) else 0) else 1) = 0 from by rw [if_pos hD, if_neg (by rw [hC]; simp)]), Option.bind_some]
  dsimp only
  obtain ⟨s, hs⟩ : ∃ s, s = d0 * 1 + d1 * 4 + d2 * 20 + d3 * 100 + option_Bits.bm e4 500 + option_Bits.bm e5 1000 + option_Bits.bm e6 2000 + option_Bits.bm e7 4000 + option_Bits.bm e8 8000 + option_Bits.bm e9 16000 + option_Bits.bm e10 32000 + option_Bits.bm e11 64000 + option_Bits.bm e12 128000 + option_Bits.bm e13 256000 := ⟨_, rfl⟩
  rw [← hs]
  obtain ⟨hn, k0, k1, k2, k3, m4, m5, m6, m7, m8, m9, m10, m11, m12, m13⟩ := of_back d0 d1 d2 d3 e4 e5 e6 e7 e8 e9 e10 e11 e12 e13 hD s hs
  have hof : option_Of.f 1003 s = some (d0, d1, d2, d3, e4, e5, e6, e7, e8, e9, e10, e11, e12, e13, 0) := by
    unfold option_Of.f
    rw [if_pos hn, k0, k1, k2, k3, m4, m5, m6, m7, m8, m9, m10, m11, m12, m13, check_f d0 d1 d2 d3 e4 e5 e6 e7 e8 e9 e10 e11 e12 e13 1003 (by omega), if_pos hD, if_neg (by rw [hC]; simp), Option.bind_some, if_pos rfl]
  rw [hof, Option.bind_some]
  dsimp only
  rw [if_pos rfl, if_pos rfl]
  have hall : ((!(d0 == d0) || (!(d1 == d1) || (!(d2 == d2) || (!(d3 == d3) || (!(e4 == e4) || (!(e5 == e5) || (!(e6 == e6) || (!(e7 == e7) || (!(e8 == e8) || (!(e9 == e9) || (!(e10 == e10) || (!(e11 == e11) || (!(e12 == e12) || !(e13 == e13))))))))))))))) = false := by simp
  rw [hall, naskhlaw10_OptionBack.j0, if_neg (by simp)]
  by_cases hm : 0 ≤ n ∧ n < 512000
  · have hb := bits_back n hm
    obtain ⟨c, hc⟩ : ∃ c, option_Check.f 1002 ((n) % 4) ((n / 4) % 5) ((n / 4 / 5) % 5) ((n / 4 / 5 / 5) % 5) (Go.bits .and .i64 (n / 4 / 5 / 5 / 5) 1 != 0) (Go.bits .and .i64 (n / 4 / 5 / 5 / 5) 2 != 0) (Go.bits .and .i64 (n / 4 / 5 / 5 / 5) 4 != 0) (Go.bits .and .i64 (n / 4 / 5 / 5 / 5) 8 != 0) (Go.bits .and .i64 (n / 4 / 5 / 5 / 5) 16 != 0) (Go.bits .and .i64 (n / 4 / 5 / 5 / 5) 32 != 0) (Go.bits .and .i64 (n / 4 / 5 / 5 / 5) 64 != 0) (Go.bits .and .i64 (n / 4 / 5 / 5 / 5) 128 != 0) (Go.bits .and .i64 (n / 4 / 5 / 5 / 5) 256 != 0) (Go.bits .and .i64 (n / 4 / 5 / 5 / 5) 512 != 0) = some c := ⟨_, check_f _ _ _ _ _ _ _ _ _ _ _ _ _ _ 1002 (by omega)⟩
    have ho : option_Of.f 1002 n = (if c = 0 then some ((n) % 4, (n / 4) % 5, (n / 4 / 5) % 5, (n / 4 / 5 / 5) % 5, (Go.bits .and .i64 (n / 4 / 5 / 5 / 5) 1 != 0), (Go.bits .and .i64 (n / 4 / 5 / 5 / 5) 2 != 0), (Go.bits .and .i64 (n / 4 / 5 / 5 / 5) 4 != 0), (Go.bits .and .i64 (n / 4 / 5 / 5 / 5) 8 != 0), (Go.bits .and .i64 (n / 4 / 5 / 5 / 5) 16 != 0), (Go.bits .and .i64 (n / 4 / 5 / 5 / 5) 32 != 0), (Go.bits .and .i64 (n / 4 / 5 / 5 / 5) 64 != 0), (Go.bits .and .i64 (n / 4 / 5 / 5 / 5) 128 != 0), (Go.bits .and .i64 (n / 4 / 5 / 5 / 5) 256 != 0), (Go.bits .and .i64 (n / 4 / 5 / 5 / 5) 512 != 0), 0) else some (0, 0, 0, 0, false, false, false, false, false, false, false, false, false, false, c)) := by
      unfold option_Of.f
      rw [if_pos hm, hc, Option.bind_some]
    rw [ho]
    by_cases hcz : c = 0
    · rw [if_pos hcz, Option.bind_some]
      dsimp only
      rw [if_pos rfl]
      have hbt : option_Bits.f 1002 ((n) % 4) ((n / 4) % 5) ((n / 4 / 5) % 5) ((n / 4 / 5 / 5) % 5) (Go.bits .and .i64 (n / 4 / 5 / 5 / 5) 1 != 0) (Go.bits .and .i64 (n / 4 / 5 / 5 / 5) 2 != 0) (Go.bits .and .i64 (n / 4 / 5 / 5 / 5) 4 != 0) (Go.bits .and .i64 (n / 4 / 5 / 5 / 5) 8 != 0) (Go.bits .and .i64 (n / 4 / 5 / 5 / 5) 16 != 0) (Go.bits .and .i64 (n / 4 / 5 / 5 / 5) 32 != 0) (Go.bits .and .i64 (n / 4 / 5 / 5 / 5) 64 != 0) (Go.bits .and .i64 (n / 4 / 5 / 5 / 5) 128 != 0) (Go.bits .and .i64 (n / 4 / 5 / 5 / 5) 256 != 0) (Go.bits .and .i64 (n / 4 / 5 / 5 / 5) 512 != 0) = some (n, 0) := by
        unfold option_Bits.f
        rw [hc, Option.bind_some, if_pos hcz, if_pos ⟨⟨by omega, by omega⟩, ⟨by omega, by omega⟩, ⟨by omega, by omega⟩, by omega, by omega⟩, hb]
      rw [hbt, Option.bind_some, if_pos rfl, if_pos rfl, haw 1002 (by omega)]
      rfl
    · rw [if_neg hcz, Option.bind_some]
      dsimp only
      rw [if_neg hcz, haw 1002 (by omega)]
      rfl
  · have ho : option_Of.f 1002 n = some (0, 0, 0, 0, false, false, false, false, false, false, false, false, false, false, 1) := by
      unfold option_Of.f
      rw [if_neg hm]
    rw [ho, Option.bind_some]
    dsimp only
    rw [if_neg (by omega), haw 1002 (by omega)]
    rfl
end Go.Proofs.Ytjnhepgjkphkoaa.PureOptionBackAux
namespace Go.Proofs.Ytjnhepgjkphkoaa.Pure
open Go.Proofs.Ytjnhepgjkphkoaa.POptionBack
theorem OptionBack : naskhlaw10_OptionBack.Pure := PureOptionBackAux.OptionBack_ok
end Go.Proofs.Ytjnhepgjkphkoaa.Pure
