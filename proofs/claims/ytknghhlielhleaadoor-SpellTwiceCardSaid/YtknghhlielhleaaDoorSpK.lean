import Derived.Test.YtknghhlielhleaaDoorSpO
import Derived.Test.YtknghhlielhleaaDoorPSpellParsesx2b
import Derived.Test.YtknghhlielhleaaDoorPSpellParsesx3
namespace Go.Proofs.YtknghhlielhleaaDoor.Stk
open Go.RowKit Go.Proofs.YtknghhlielhleaaDoorW.PrintWords Go.Proofs.YtknghhlielhleaaDoorW.PrintLast Go.Proofs.YtknghhlielhleaaDoorW.PrintMore
attribute [local go_sem] max2_int min2_int max_two min_two max_three min_three max_four min_four   -- for this text's walks alone
set_option linter.unusedVariables false
set_option linter.unusedSimpArgs false
open Go.Proofs.YtknghhlielhleaaDoor.PSpellParses
theorem w64 {x : Int} (h0 : -9223372036854775808 ≤ x) (h1 : x ≤ 9223372036854775807) : wrap64 x = x := by unfold wrap64; omega
theorem any_loop : ∀ (rest pre : List Bool) (k : Nat), rest.length < k → pre.length + rest.length ≤ 100 → option_any.l0 k (pre ++ rest) ((pre ++ rest).length : Int) (pre.length : Int) = some (rest.any id)
  | [], pre, k, hk, hm => by
    obtain ⟨k, rfl⟩ : ∃ m, k = m + 1 := ⟨k - 1, by omega⟩
    rw [option_any.l0, if_neg (by simp)]
    rfl
  | x :: rest, pre, k, hk, hm => by
    obtain ⟨k, rfl⟩ : ∃ m, k = m + 1 := ⟨k - 1, by omega⟩
    rw [List.length_cons] at hk hm
    have hl : (pre ++ x :: rest).length = pre.length + rest.length + 1 := by simp; omega
    have hr : rdOf false (pre ++ x :: rest) (pre.length : Int) = x := by simp [rdOf]
    have step := any_loop rest (pre ++ [x]) k (by omega) (by simp; omega)
    have e1 : pre ++ [x] ++ rest = pre ++ x :: rest := by simp
    have e2 : ((pre ++ [x]).length : Int) = (pre.length : Int) + 1 := by simp
    rw [e1, e2] at step
    rw [option_any.l0, if_pos (by omega), if_pos (by omega), if_pos (by omega), hr, w64 (by omega) (by omega)]
    cases x with
    | true => rfl
    | false =>
      rw [if_neg (by simp)]
      exact step
theorem any_f (l : List Bool) (k : Nat) (hk : 100 ≤ k) (hl : l.length < 100) : option_any.f k l = some (l.any id) := any_loop l [] k (by omega) (by simp; omega)
def cl (p q r3 r4 b5 b6 b7 b8 b9 b10 b11 : Bool) : Bool := ((!p || !q || b7 || b8 || b9) && !b5) || (b6 && p) || (b7 && (r3 || r4)) || (b11 && !b10)
theorem clash_f (a0 a1 a2 a3 : Int) (b4 b5 b6 b7 b8 b9 b10 b11 b12 b13 : Bool) (k : Nat) (hk : 100 ≤ k) : option_clash.f k a0 a1 a2 a3 b4 b5 b6 b7 b8 b9 b10 b11 b12 b13 = some (cl (a1 == 0) (a2 == 0) (a2 == 3) (a2 == 4) b5 b6 b7 b8 b9 b10 b11) := by
  unfold option_clash.f
  rw [any_f _ k hk (by simp), Option.bind_some, any_f _ k hk (by simp), Option.bind_some]
  have h4 : ∀ a b c d : Bool, option_any.f k [a, b, c, d] = some ([a, b, c, d].any id) := fun a b c d => any_f _ k hk (by simp)
  simp only [h4, Option.bind_some]
  have e1 : (a1 != 0) = !(a1 == 0) := rfl
  have e2 : (a2 != 0) = !(a2 == 0) := rfl
  rw [e1, e2]
  generalize (a1 == 0) = p
  generalize (a2 == 0) = q
  generalize (a2 == 3) = r3
  generalize (a2 == 4) = r4
  revert p q r3 r4 b5 b6 b7 b8 b9 b10 b11
  decide +kernel
theorem check_f (a0 a1 a2 a3 : Int) (b4 b5 b6 b7 b8 b9 b10 b11 b12 b13 : Bool) (k : Nat) (hk : 100 ≤ k) : option_Check.f k a0 a1 a2 a3 b4 b5 b6 b7 b8 b9 b10 b11 b12 b13 = some (if (0 ≤ a0 ∧ a0 < 4) ∧ (0 ≤ a1 ∧ a1 < 5) ∧ (0 ≤ a2 ∧ a2 < 5) ∧ (0 ≤ a3 ∧ a3 < 5) then (if cl (a1 == 0) (a2 == 0) (a2 == 3) (a2 == 4) b5 b6 b7 b8 b9 b10 b11 = true then 3 else 0) else 1) := by
  unfold option_Check.f
  by_cases h : (0 ≤ a0 ∧ a0 < 4) ∧ (0 ≤ a1 ∧ a1 < 5) ∧ (0 ≤ a2 ∧ a2 < 5) ∧ (0 ≤ a3 ∧ a3 < 5)
  · rw [if_pos h, if_pos h, clash_f a0 a1 a2 a3 b4 b5 b6 b7 b8 b9 b10 b11 b12 b13 k hk, Option.bind_some]
  · rw [if_neg h, if_neg h]
theorem refj (a0 a1 a2 a3 : Int) (b4 b5 b6 b7 b8 b9 b10 b11 b12 b13 : Bool) (k : Nat) : naskhref10_Check.j0 (k + 1) false a0 a1 a2 a3 b4 b5 b6 b7 b8 b9 b10 b11 b12 b13 = some (if cl (a1 == 0) (a2 == 0) (a2 == 3) (a2 == 4) b5 b6 b7 b8 b9 b10 b11 = true then 3 else 0) := by
  rw [naskhref10_Check.j0, if_neg (by simp)]
  obtain ⟨p, hp, hp'⟩ : ∃ p : Bool, (a1 = 0) = (p = true) ∧ (a1 == 0) = p := ⟨a1 == 0, by simp, rfl⟩
  obtain ⟨q, hq, hq'⟩ : ∃ p : Bool, (a2 = 0) = (p = true) ∧ (a2 == 0) = p := ⟨a2 == 0, by simp, rfl⟩
  obtain ⟨r3, h3, h3'⟩ : ∃ p : Bool, (a2 = 3) = (p = true) ∧ (a2 == 3) = p := ⟨a2 == 3, by simp, rfl⟩
  obtain ⟨r4, h4, h4'⟩ : ∃ p : Bool, (a2 = 4) = (p = true) ∧ (a2 == 4) = p := ⟨a2 == 4, by simp, rfl⟩
  simp only [hp, hq, h3, h4, hp', hq', h3', h4']
  clear hp hq h3 h4 hp' hq' h3' h4'
  revert p q r3 r4 b5 b6 b7 b8 b9 b10 b11
  decide +kernel
theorem refj1 (a0 a1 a2 a3 : Int) (b4 b5 b6 b7 b8 b9 b10 b11 b12 b13 : Bool) (k : Nat) : naskhref10_Check.j0 (k + 1) true a0 a1 a2 a3 b4 b5 b6 b7 b8 b9 b10 b11 b12 b13 = some 1 := by rw [naskhref10_Check.j0, if_pos rfl]
theorem in_f (a b : Int) : naskhref10_in.f a b = some (decide (0 ≤ a ∧ a ≤ b)) := by
  unfold naskhref10_in.f
  by_cases h : a ≥ 0
  · rw [if_pos h]; congr 1; rw [decide_eq_decide]; omega
  · rw [if_neg h]; congr 1; symm; rw [decide_eq_false_iff_not]; omega
theorem refcheck_f (a0 a1 a2 a3 : Int) (b4 b5 b6 b7 b8 b9 b10 b11 b12 b13 : Bool) (k : Nat) : naskhref10_Check.f (k + 1) a0 a1 a2 a3 b4 b5 b6 b7 b8 b9 b10 b11 b12 b13 = some (if (0 ≤ a0 ∧ a0 < 4) ∧ (0 ≤ a1 ∧ a1 < 5) ∧ (0 ≤ a2 ∧ a2 < 5) ∧ (0 ≤ a3 ∧ a3 < 5) then (if cl (a1 == 0) (a2 == 0) (a2 == 3) (a2 == 4) b5 b6 b7 b8 b9 b10 b11 = true then 3 else 0) else 1) := by
  unfold naskhref10_Check.f
  rw [in_f, Option.bind_some, in_f, Option.bind_some, in_f, Option.bind_some, in_f, Option.bind_some]
  by_cases h0 : 0 ≤ a0 ∧ a0 ≤ 3
  · rw [decide_eq_true h0, if_pos rfl]
    by_cases h1 : 0 ≤ a1 ∧ a1 ≤ 4
    · rw [decide_eq_true h1, if_pos rfl]
      by_cases h2 : 0 ≤ a2 ∧ a2 ≤ 4
      · rw [decide_eq_true h2, if_pos rfl]
        by_cases h3 : 0 ≤ a3 ∧ a3 ≤ 4
        · rw [decide_eq_true h3, if_pos (by omega)]
          exact refj a0 a1 a2 a3 b4 b5 b6 b7 b8 b9 b10 b11 b12 b13 k
        · rw [decide_eq_false h3, if_neg (by omega)]
          exact refj1 a0 a1 a2 a3 b4 b5 b6 b7 b8 b9 b10 b11 b12 b13 k
      · rw [decide_eq_false h2, if_neg (by simp), if_neg (by omega), refj1]
    · rw [decide_eq_false h1, if_neg (by simp), if_neg (by omega), refj1]
  · rw [decide_eq_false h0, if_neg (by simp), if_neg (by omega), refj1]
def chkF (v : Nat → Int) : Int := if (0 ≤ v 0 ∧ v 0 < 4) ∧ (0 ≤ v 1 ∧ v 1 < 5) ∧ (0 ≤ v 2 ∧ v 2 < 5) ∧ (0 ≤ v 3 ∧ v 3 < 5) then (if cl (v 1 == 0) (v 2 == 0) (v 2 == 3) (v 2 == 4) (v 5 == 1) (v 6 == 1) (v 7 == 1) (v 8 == 1) (v 9 == 1) (v 10 == 1) (v 11 == 1) = true then 3 else 0) else 1
theorem p_check (v : Nat → Int) (w : World) : Calls Tryd.prog 21 #[.agg (ovc v)] w fun e w' => e = .returned (.int .i64 (chkF v)) ∧ Below w.heap.size w w' :=
  option_Check.calls 1000 (v 0) (v 1) (v 2) (v 3) (v 4 == 1) (v 5 == 1) (v 6 == 1) (v 7 == 1) (v 8 == 1) (v 9 == 1) (v 10 == 1) (v 11 == 1) (v 12 == 1) (v 13 == 1) (chkF v) w (check_f _ _ _ _ _ _ _ _ _ _ _ _ _ _ _ (by omega))
theorem p_rcheck (v : Nat → Int) (w : World) : Calls Tryd.prog 14 #[.agg (ovc v)] w fun e w' => e = .returned (.int .i64 (chkF v)) ∧ Below w.heap.size w w' :=
  naskhref10_Check.calls 1000 (v 0) (v 1) (v 2) (v 3) (v 4 == 1) (v 5 == 1) (v 6 == 1) (v 7 == 1) (v 8 == 1) (v 9 == 1) (v 10 == 1) (v 11 == 1) (v 12 == 1) (v 13 == 1) (chkF v) w (refcheck_f _ _ _ _ _ _ _ _ _ _ _ _ _ _ _)
end Go.Proofs.YtknghhlielhleaaDoor.Stk
