/- How many bytes any number has is what the document says. No condition. -/
import Derived.Test.YtimkacnkmoofdaaPNarrowOnex
namespace Go.Proofs.Ytimkacnkmoofdaa.PureNarrowOneAux
open Go.RowKit Go.Proofs.Ytimkacnkmoofdaa.PNarrowOne Go.Proofs.YtimkacnkmoofdaaW.PrintWords Go.Proofs.YtimkacnkmoofdaaW.PrintLast

set_option linter.unusedSimpArgs false
set_option linter.unusedVariables false
theorem w64 {x : Int} (h0 : -9223372036854775808 ≤ x) (h1 : x ≤ 9223372036854775807) : wrap64 x = x := by unfold wrap64; omega
theorem rd_at (pre : List Int) (x : Int) (rest : List Int) : rd (pre ++ x :: rest) (pre.length : Int) = x := by simp [rd]
theorem rd_nat (l : List Int) (i : Nat) (h : i < l.length) : rd l (i : Int) = l[i] := by simp [rd, h]
theorem wf64 {x : Int} (h : (Lit.int .i64 x).wf = true) : -9223372036854775808 ≤ x ∧ x ≤ 9223372036854775807 := by
  simpa [Lit.wf, IntKind.min, IntKind.max, IntKind.signed, IntKind.bits] using h
theorem bsome {P : Prop} [Decidable P] {b : Bool} (h : b = true ↔ P) : some b = some (decide P) := by
  congr 1; rw [Bool.eq_iff_iff]; simpa using h
theorem u16w {x : Int} (h0 : 0 ≤ x) (h1 : x ≤ 65535) : IntKind.u16.wrap x = x := by
  simp [IntKind.wrap, IntKind.min, IntKind.max, IntKind.signed, IntKind.bits]; omega

def ill (c : Int) : Prop := 1114240 ≤ c ∧ c ≤ 1114367
def whole (c : Int) : Prop := 0 ≤ c ∧ c ≤ 1114111 ∧ ¬ (55296 ≤ c ∧ c ≤ 57343)
instance (a : Int) : Decidable (ill a) := by unfold ill; infer_instance
instance (a : Int) : Decidable (whole a) := by unfold whole; infer_instance
def tl (c : Int) : Int := if c < 128 then 0 else if c < 2048 then 1 else if c < 65536 then 2 else 3
def sz (c : Int) : Int := if ill c then 1 else if whole c then 1 + tl c else 0
def shOf (a : Int) : Int × Int × Int × Bool := if a ≥ 65536 then (65536, 240, 3, true) else if a ≥ 2048 then (2048, 224, 2, true) else if a ≥ 128 then (128, 192, 1, true) else (0, 0, 0, false)
def I64 (l : List Int) : Prop := ∀ x ∈ l, -9223372036854775808 ≤ x ∧ x ≤ 9223372036854775807
theorem I64.of {l : List Int} (h : ∀ x ∈ l, (Lit.int .i64 x).wf = true) : I64 l := fun x hx => wf64 (h x hx)
theorem shapeOf_4 (a : Int) : narrow_shapeOf.f 4 a = some (shOf a) := by
  unfold narrow_shapeOf.f narrow_shapes.f shOf
  rw [Option.bind_some]
  by_cases h1 : a ≥ 65536
  · have h2 : a ≥ 2048 := by omega
    have h3 : a ≥ 128 := by omega
    simp [narrow_shapeOf.l0, h1, h2, h3, wrap64]
  · by_cases h2 : a ≥ 2048
    · have h3 : a ≥ 128 := by omega
      simp [narrow_shapeOf.l0, h1, h2, h3, wrap64]
    · by_cases h3 : a ≥ 128
      · simp [narrow_shapeOf.l0, h1, h2, h3, wrap64]
      · simp [narrow_shapeOf.l0, h1, h2, h3, wrap64]
theorem shapeOf_f (a : Int) (k : Nat) (hk : 4 ≤ k) : narrow_shapeOf.f k a = some (shOf a) := at_rounds (fun k => narrow_shapeOf.mono a k) hk (shapeOf_4 a)
theorem shOf_tl (a : Int) : (shOf a).2.2.1 = tl a ∧ (shOf a).2.2.2 = decide (128 ≤ a) := by
  unfold shOf tl
  by_cases h1 : a ≥ 65536
  · rw [if_pos h1, if_neg (by omega), if_neg (by omega), if_neg (by omega)]; exact ⟨rfl, by simp; omega⟩
  · by_cases h2 : a ≥ 2048
    · rw [if_neg h1, if_pos h2, if_neg (by omega), if_neg (by omega), if_pos (by omega)]; exact ⟨rfl, by simp; omega⟩
    · by_cases h3 : a ≥ 128
      · rw [if_neg h1, if_neg h2, if_pos h3, if_neg (by omega), if_pos (by omega)]; exact ⟨rfl, by simp; omega⟩
      · rw [if_neg h1, if_neg h2, if_neg h3, if_pos (by omega)]; exact ⟨rfl, by simp; omega⟩
theorem whole_f (a : Int) (k : Nat) (hk : 1 ≤ k) : wide_Whole.f k a = some (decide (whole a)) := by
  obtain ⟨k, rfl⟩ : ∃ m, k = m + 1 := ⟨k - 1, by omega⟩
  unfold wide_Whole.f whole
  simp only [wide_Whole.j0]
  by_cases h0 : a < 0
  · rw [if_pos h0, if_pos (by simpa using h0)]; refine bsome ?_; simp; omega
  · rw [if_neg h0]
    by_cases h1 : a > 1114111
    · rw [if_pos (by simpa using h1)]; refine bsome ?_; simp; omega
    · rw [if_neg (by simpa using h1)]
      repeat' split
      all_goals refine bsome ?_
      all_goals simp only [true_iff, Bool.false_eq_true, false_iff]
      all_goals omega
theorem refwhole_f (a : Int) : naskhref01_Whole.f a = some (decide (whole a)) := by
  unfold naskhref01_Whole.f whole
  repeat' split
  all_goals refine bsome ?_
  all_goals simp only [decide_eq_true_eq, true_iff, Bool.false_eq_true, false_iff]
  all_goals omega
theorem ill_f (a : Int) (w0 : -9223372036854775808 ≤ a) (w1 : a ≤ 9223372036854775807) : narrow_ill.f a = some (if ill a then a - 1114112 else 0, decide (ill a)) := by
  unfold narrow_ill.f
  by_cases h : ill a
  · rw [if_pos h, decide_eq_true h]
    unfold ill at h
    rw [if_neg (by omega), w64 (by omega) (by omega), if_neg (by omega), if_neg (by omega)]
    congr 2
    omega
  · rw [if_neg h, decide_eq_false h]
    unfold ill at h
    by_cases h1 : a < 1114112
    · rw [if_pos h1]
    · rw [if_neg h1, w64 (by omega) (by omega)]
      by_cases h2 : a - 1114112 < 128
      · rw [if_pos h2]
      · rw [if_neg h2, if_pos (by omega)]
theorem size_f (a : Int) (w0 : -9223372036854775808 ≤ a) (w1 : a ≤ 9223372036854775807) (k : Nat) (hk : 4 ≤ k) : narrow_Size.f k a = some (sz a) := by
  unfold narrow_Size.f sz
  rw [ill_f a w0 w1, Option.bind_some, whole_f a k (by omega), Option.bind_some, shapeOf_f a k hk, Option.bind_some, (shOf_tl a).1, (shOf_tl a).2]
  by_cases h : ill a
  · rw [if_pos (by simpa using h), if_pos h]
  · rw [if_neg (by simpa using h), if_neg h]
    by_cases h2 : whole a
    · rw [if_pos (by simpa using h2), if_pos h2]
      unfold whole at h2
      have ht : 0 ≤ tl a ∧ tl a ≤ 3 := by unfold tl; repeat' split
                                          all_goals decide
      by_cases h3 : 128 ≤ a
      · rw [if_pos (by simpa using h3), w64 (by omega) (by omega)]
      · rw [if_neg (by simpa using h3)]; unfold tl; rw [if_pos (by omega)]; rfl
    · rw [if_neg (by simpa using h2), if_neg h2]
theorem refsize_f (a : Int) : naskhref02_Size.f a = some (sz a) := by
  unfold naskhref02_Size.f naskhref02_ill.f sz tl
  by_cases h : ill a
  · rw [if_pos h]
    unfold ill at h
    rw [if_pos (by omega), Option.bind_some, if_pos (by simp; omega)]
  · rw [if_neg h]
    have : (if a ≥ 1114240 then some (decide (a ≤ 1114367)) else some false) = some false := by
      unfold ill at h
      by_cases h2 : a ≥ 1114240
      · rw [if_pos h2]; simp; omega
      · rw [if_neg h2]
    rw [this, Option.bind_some, if_neg (by simp), refwhole_f, Option.bind_some]
    by_cases h2 : whole a
    · rw [if_pos (by simpa using h2), if_pos h2]
      repeat' split
      all_goals rfl
    · rw [if_neg (by simpa using h2), if_neg h2]

theorem awake_ok : naskhlaw02_awake.f 40 = some true := by decide +kernel
end Go.Proofs.Ytimkacnkmoofdaa.PureNarrowOneAux
namespace Go.Proofs.Ytimkacnkmoofdaa.Pure
open Go.RowKit Go.Proofs.Ytimkacnkmoofdaa.PNarrowOne Go.Proofs.YtimkacnkmoofdaaW.PrintWords Go.Proofs.YtimkacnkmoofdaaW.PrintLast Go.Proofs.Ytimkacnkmoofdaa.PureNarrowOneAux
theorem NarrowOne : naskhlaw02_NarrowOne.Pure := by
  intro a w
  have := wf64 w
  refine ⟨40, ?_⟩
  unfold naskhlaw02_NarrowOne.f
  rw [size_f a this.1 this.2 40 (by omega), refsize_f, Option.bind_some, Option.bind_some, if_pos rfl, awake_ok]
  rfl
end Go.Proofs.Ytimkacnkmoofdaa.Pure
