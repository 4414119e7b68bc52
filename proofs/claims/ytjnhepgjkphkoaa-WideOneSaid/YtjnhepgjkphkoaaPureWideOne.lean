/- What the code tells of one number (is it a whole code, how many units has it) is what the document tells, for every number. No condition. -/
import Derived.Test.YtjnhepgjkphkoaaPWideOnex
namespace Go.Proofs.Ytjnhepgjkphkoaa.PureWideOneAux
open Go.RowKit Go.Proofs.Ytjnhepgjkphkoaa.PWideOne Go.Proofs.YtjnhepgjkphkoaaW.PrintWords Go.Proofs.YtjnhepgjkphkoaaW.PrintLast

set_option linter.unusedSimpArgs false
set_option linter.unusedVariables false
theorem w64 {x : Int} (h0 : -9223372036854775808 ≤ x) (h1 : x ≤ 9223372036854775807) : wrap64 x = x := by unfold wrap64; omega
theorem rd_at (pre : List Int) (x : Int) (rest : List Int) : rd (pre ++ x :: rest) (pre.length : Int) = x := by simp [rd]
theorem rd_nat (l : List Int) (i : Nat) (h : i < l.length) : rd l (i : Int) = l[i] := by simp [rd, h]
theorem wf64 {x : Int} (h : (Lit.int .i64 x).wf = true) : -9223372036854775808 ≤ x ∧ x ≤ 9223372036854775807 := by
  simpa [Lit.wf, IntKind.min, IntKind.max, IntKind.signed, IntKind.bits] using h
theorem bsome {P : Prop} [Decidable P] {b : Bool} (h : b = true ↔ P) : some b = some (decide P) := by
  congr 1; rw [Bool.eq_iff_iff]; simpa using h
theorem u16w {x : Int} (h0 : 0 ≤ x) (h1 : x ≤ 65535) : IntKind.u16.wrap x = x := by
  simp [IntKind.wrap, IntKind.min, IntKind.max, IntKind.signed, IntKind.bits]; omega

theorem awake_ok : naskhlaw01_awake.f 20 = some true := by decide +kernel

theorem whole1 (a : Int) : wide_Whole.f 20 a = some (decide (0 ≤ a ∧ a ≤ 1114111 ∧ ¬ (55296 ≤ a ∧ a ≤ 57343))) := by
  unfold wide_Whole.f
  simp only [wide_Whole.j0]
  by_cases h0 : a < 0
  · rw [if_pos h0, if_pos (by simpa using h0)]; refine bsome ?_; simp; omega
  · rw [if_neg h0]
    by_cases h1 : a > 1114111
    · rw [if_pos (by simpa using h1)]; refine bsome ?_; simp; omega
    · rw [if_neg (by simpa using h1)]
      repeat' split
      all_goals refine bsome ?_
      all_goals simp only [true_iff, Bool.false_eq_true, false_iff]
      all_goals omega

theorem whole2 (a : Int) : naskhref01_Whole.f a = some (decide (0 ≤ a ∧ a ≤ 1114111 ∧ ¬ (55296 ≤ a ∧ a ≤ 57343))) := by
  unfold naskhref01_Whole.f
  repeat' split
  all_goals refine bsome ?_
  all_goals simp only [decide_eq_true_eq, true_iff, Bool.false_eq_true, false_iff]
  all_goals omega

theorem lone1 (a : Int) : wide_unit_lone.f a = some (decide (55296 ≤ a ∧ a ≤ 57343)) := by
  unfold wide_unit_lone.f wide_unit_first.f wide_unit_second.f
  by_cases h1 : 55296 ≤ a <;> by_cases h2 : a < 56320 <;> by_cases h3 : a ≤ 57343 <;> simp [h1, h2, h3] <;> omega

theorem ill1 (a : Int) (w : (Lit.int .i64 a).wf = true) : ∃ u, wide_ill.f a = some (u, decide (1169408 ≤ a ∧ a ≤ 1171455)) := by
  have := wf64 w
  unfold wide_ill.f
  by_cases h : a < 1114112
  · rw [if_pos h]; exact ⟨0, by simp; omega⟩
  · rw [if_neg h, w64 (by omega) (by omega)]
    by_cases h2 : a - 1114112 > 57343
    · rw [if_pos h2]; exact ⟨0, by simp; omega⟩
    · have e : IntKind.u16.wrap (a - 1114112) = a - 1114112 := u16w (by omega) (by omega)
      rw [if_neg h2, e, lone1, Option.bind_some]
      refine ⟨a - 1114112, ?_⟩
      congr 2
      rw [decide_eq_decide]
      omega

theorem ill2 (a : Int) : naskhref01_ill.f a = some (decide (1169408 ≤ a ∧ a ≤ 1171455)) := by
  unfold naskhref01_ill.f
  split <;> simp <;> omega

theorem size1 (a : Int) (w : (Lit.int .i64 a).wf = true) : wide_Size.f 20 a = naskhref01_Size.f 20 a := by
  obtain ⟨u, hu⟩ := ill1 a w
  unfold wide_Size.f naskhref01_Size.f
  rw [hu, ill2]
  simp only [whole1, whole2, naskhref01_Size.j0, Option.bind_some]
  by_cases h1 : 1169408 ≤ a <;> by_cases h2 : a ≤ 1171455 <;> by_cases h3 : 0 ≤ a <;> by_cases h4 : a ≤ 1114111 <;> by_cases h5 : 55296 ≤ a <;> by_cases h6 : a ≤ 57343 <;> by_cases h7 : 65536 ≤ a <;> simp [*] <;> omega

theorem size2 (a : Int) : ∃ r, naskhref01_Size.f 20 a = some r := by
  unfold naskhref01_Size.f
  rw [ill2]
  simp only [whole2, naskhref01_Size.j0, Option.bind_some]
  repeat' split
  all_goals exact ⟨_, rfl⟩

end Go.Proofs.Ytjnhepgjkphkoaa.PureWideOneAux
namespace Go.Proofs.Ytjnhepgjkphkoaa.Pure
open Go.RowKit Go.Proofs.Ytjnhepgjkphkoaa.PWideOne Go.Proofs.YtjnhepgjkphkoaaW.PrintWords Go.Proofs.YtjnhepgjkphkoaaW.PrintLast Go.Proofs.Ytjnhepgjkphkoaa.PureWideOneAux
theorem WideOne : naskhlaw01_WideOne.Pure := by
  intro a w
  refine ⟨20, ?_⟩
  obtain ⟨r, hr⟩ := size2 a
  unfold naskhlaw01_WideOne.f
  rw [whole1, whole2, size1 a w, hr, awake_ok]
  simp
end Go.Proofs.Ytjnhepgjkphkoaa.Pure
