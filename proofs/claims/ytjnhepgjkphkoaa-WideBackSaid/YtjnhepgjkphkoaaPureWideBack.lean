/- Units that are read, and written, are the units, whatever they are; and so is the sum of the codes' sizes. No condition. -/
import Derived.Test.YtjnhepgjkphkoaaPWideBackx
namespace Go.Proofs.Ytjnhepgjkphkoaa.PureWideBackAux
open Go.RowKit Go.Proofs.Ytjnhepgjkphkoaa.PWideBack Go.Proofs.YtjnhepgjkphkoaaW.PrintWords Go.Proofs.YtjnhepgjkphkoaaW.PrintLast

set_option linter.unusedSimpArgs false
set_option linter.unusedVariables false
theorem w64 {x : Int} (h0 : -9223372036854775808 ≤ x) (h1 : x ≤ 9223372036854775807) : wrap64 x = x := by unfold wrap64; omega
theorem rd_at (pre : List Int) (x : Int) (rest : List Int) : rd (pre ++ x :: rest) (pre.length : Int) = x := by simp [rd]
theorem rd_nat (l : List Int) (i : Nat) (h : i < l.length) : rd l (i : Int) = l[i] := by simp [rd, h]
theorem wf64 {x : Int} (h : (Lit.int .i64 x).wf = true) : -9223372036854775808 ≤ x ∧ x ≤ 9223372036854775807 := by
  simpa [Lit.wf, IntKind.min, IntKind.max, IntKind.signed, IntKind.bits] using h
theorem bsome {P : Prop} [Decidable P] {b : Bool} (h : b = true ↔ P) : some b = some (decide P) := by
  congr 1; rw [Bool.eq_iff_iff]; simpa using h
theorem u16w {x : Int} (h0 : 0 ≤ x) (h1 : x ≤ 65535) : IntKind.u16.wrap x = x := by
  simp [IntKind.wrap, IntKind.min, IntKind.max, IntKind.signed, IntKind.bits]; omega

theorem eq_loop_uint16_uint16 (a b : List Int) (hl : a.length = b.length) (hm : a.length ≤ 9223372036854775806) : ∀ d k i : Nat, i + d = a.length → d < k →
    slices_Equal_uint16_uint16.l0 k a b a.length i = some (decide (a.drop i = b.drop i)) := by
  intro d
  induction d with
  | zero =>
    intro k i hi hk
    obtain ⟨k, rfl⟩ : ∃ m, k = m + 1 := ⟨k - 1, by omega⟩
    simp only [slices_Equal_uint16_uint16.l0]
    rw [if_neg (by omega), List.drop_eq_nil_of_le (by omega), List.drop_eq_nil_of_le (by omega)]
    simp
  | succ d ih =>
    intro k i hi hk
    obtain ⟨k, rfl⟩ : ∃ m, k = m + 1 := ⟨k - 1, by omega⟩
    simp only [slices_Equal_uint16_uint16.l0]
    rw [if_pos (by omega), if_pos (by omega), if_pos (by omega), if_pos (by omega), rd_nat a i (by omega), rd_nat b i (by omega),
      List.drop_eq_getElem_cons (by omega : i < a.length), List.drop_eq_getElem_cons (by omega : i < b.length)]
    by_cases h : a[i]'(by omega) = b[i]'(by omega)
    · rw [if_pos h, w64 (by omega) (by omega)]
      have := ih k (i + 1) (by omega) (by omega)
      rw [Int.natCast_add] at this
      rw [show ((1 : Nat) : Int) = 1 from rfl] at this
      rw [this]
      congr 1
      rw [decide_eq_decide, List.cons.injEq]
      simp only [h, true_and]
    · rw [if_neg h]
      congr 1
      symm
      rw [decide_eq_false_iff_not, List.cons.injEq]
      exact fun e => h e.1
theorem equal_f_uint16_uint16 (a b : List Int) (hm : a.length ≤ 9223372036854775806) (k : Nat) (hk : a.length < k) : slices_Equal_uint16_uint16.f k a b = some (decide (a = b)) := by
  unfold slices_Equal_uint16_uint16.f
  by_cases hl : a.length = b.length
  · rw [if_pos (by omega), show (0 : Int) = ((0 : Nat) : Int) from rfl, eq_loop_uint16_uint16 a b hl hm a.length k 0 (by omega) hk]
    simp
  · rw [if_neg (by omega)]
    have : a ≠ b := fun e => hl (by rw [e])
    simp [this]
theorem equal_self_uint16_uint16 (a : List Int) (hm : a.length ≤ 9223372036854775806) (k : Nat) (hk : a.length < k) : slices_Equal_uint16_uint16.f k a a = some true := by
  rw [equal_f_uint16_uint16 a a hm k hk]; simp

/-- What a unit is by itself. -/
def cd (a : Int) : Int := if 55296 ≤ a ∧ a ≤ 57343 then 1114112 + a else a
def isHi (a : Int) : Prop := 55296 ≤ a ∧ a < 56320
def isLo (a : Int) : Prop := 56320 ≤ a ∧ a ≤ 57343
instance (a : Int) : Decidable (isHi a) := by unfold isHi; infer_instance
instance (a : Int) : Decidable (isLo a) := by unfold isLo; infer_instance
def pr (a b : Int) : Int := 65536 + (a - 55296) * 1024 + (b - 56320)
/-- The codes of units. -/
def dec : List Int → List Int
  | [] => []
  | [a] => [cd a]
  | a :: b :: t => if isHi a ∧ isLo b then pr a b :: dec t else cd a :: dec (b :: t)
def U16 (l : List Int) : Prop := ∀ x ∈ l, 0 ≤ x ∧ x ≤ 65535
theorem U16.of {l : List Int} (h : ∀ x ∈ l, (Lit.int .u16 x).wf = true) : U16 l := fun x hx => by
  simpa [Lit.wf, IntKind.min, IntKind.max, IntKind.signed, IntKind.bits] using h x hx
theorem U16.tail {a : Int} {l : List Int} (h : U16 (a :: l)) : U16 l := fun x hx => h x (List.mem_cons_of_mem _ hx)
theorem dec_len : ∀ l : List Int, (dec l).length ≤ l.length
  | [] => by simp [dec]
  | [a] => by simp [dec]
  | a :: b :: t => by
    unfold dec
    have h1 := dec_len t
    have h2 := dec_len (b :: t)
    split <;> simp at * <;> omega
theorem first_f (a : Int) : wide_unit_first.f a = some (decide (isHi a)) := by
  unfold wide_unit_first.f isHi
  by_cases h : a ≥ 55296
  · rw [if_pos h]; refine bsome ?_; simp; omega
  · rw [if_neg h]; refine bsome ?_; simp; omega
theorem second_f (a : Int) : wide_unit_second.f a = some (decide (isLo a)) := by
  unfold wide_unit_second.f isLo
  by_cases h : a ≥ 56320
  · rw [if_pos h]; refine bsome ?_; simp; omega
  · rw [if_neg h]; refine bsome ?_; simp; omega
theorem code_f (a : Int) (h0 : 0 ≤ a) (h1 : a ≤ 65535) : wide_unit_code.f a = some (cd a) := by
  unfold wide_unit_code.f wide_unit_lone.f cd
  rw [first_f, second_f]
  simp only [Option.bind_some]
  by_cases hh : isHi a
  · rw [if_pos (by simpa using hh), Option.bind_some, if_pos rfl, if_pos (by unfold isHi at hh; omega), w64 (x := a) (by omega) (by omega), w64 (by omega) (by omega)]
  · rw [if_neg (by simpa using hh), Option.bind_some]
    by_cases hl : isLo a
    · rw [if_pos (by simpa using hl), if_pos (by unfold isLo at hl; omega), w64 (x := a) (by omega) (by omega), w64 (by omega) (by omega)]
    · rw [if_neg (by simpa using hl), if_neg (by unfold isHi isLo at *; omega), w64 (x := a) (by omega) (by omega)]
theorem pair_f (a b : Int) (ha : isHi a) (hb : isLo b) : wide_pair.f a b = some (pr a b) := by
  unfold isHi isLo at *
  unfold wide_pair.f pr
  rw [u16w (x := a - 55296) (by omega) (by omega), u16w (x := b - 56320) (by omega) (by omega), w64 (x := a - 55296) (by omega) (by omega), w64 (x := (a - 55296) * 1024) (by omega) (by omega), w64 (x := b - 56320) (by omega) (by omega), w64 (x := 65536 + (a - 55296) * 1024) (by omega) (by omega), w64 (by omega) (by omega)]
theorem next_1 (a : Int) (h0 : 0 ≤ a) (h1 : a ≤ 65535) (k : Nat) : wide_next.f (k + 1) [a] = some (cd a, 1) := by
  unfold wide_next.f
  rw [if_pos (by simp), show rd [a] 0 = a from rfl, first_f, Option.bind_some]
  by_cases hh : isHi a
  · rw [if_pos (by simpa using hh)]
    simp only [wide_next.j0]
    rw [if_neg (by simp), code_f a h0 h1]; rfl
  · rw [if_neg (by simpa using hh)]
    simp only [wide_next.j0]
    rw [if_neg (by simp), code_f a h0 h1]; rfl
theorem next_2 (a b : Int) (t : List Int) (h0 : 0 ≤ a) (h1 : a ≤ 65535) (k : Nat) : wide_next.f (k + 1) (a :: b :: t) = some (if isHi a ∧ isLo b then (pr a b, 2) else (cd a, 1)) := by
  unfold wide_next.f
  have hlen : (1 : Int) < ((a :: b :: t).length : Int) := by simp; omega
  rw [if_pos (by simp; omega), show rd (a :: b :: t) 0 = a from rfl, first_f, Option.bind_some]
  by_cases hh : isHi a
  · rw [if_pos (by simpa using hh)]
    simp only [wide_next.j0]
    rw [if_pos (by simpa using hlen), if_pos hlen, show rd (a :: b :: t) 1 = b from rfl, second_f, Option.bind_some]
    by_cases hl : isLo b
    · rw [if_pos (by simpa using hl), pair_f a b hh hl, if_pos ⟨hh, hl⟩]; rfl
    · rw [if_neg (by simpa using hl), code_f a h0 h1, if_neg (fun h => hl h.2)]; rfl
  · rw [if_neg (by simpa using hh)]
    simp only [wide_next.j0]
    rw [if_neg (by simp), code_f a h0 h1, if_neg (fun h => hh h.1)]; rfl
theorem decode_loop : ∀ (n : Nat) (u out : List Int) (k : Nat), u.length ≤ n → U16 u → out.length + u.length ≤ 1000000 → 2 * n + 2 ≤ k → wide_Decode.l0 k u out = some (out ++ dec u) := by
  intro n
  induction n with
  | zero =>
    intro u out k hn hu hl hk
    obtain ⟨k, rfl⟩ : ∃ m, k = m + 1 := ⟨k - 1, by omega⟩
    obtain rfl : u = [] := List.eq_nil_of_length_eq_zero (by omega)
    simp only [wide_Decode.l0]
    rw [if_neg (by simp)]; simp [dec]
  | succ n ih =>
    intro u out k hn hu hl hk
    obtain ⟨k, rfl⟩ : ∃ m, k = m + 2 := ⟨k - 2, by omega⟩
    match u, hn, hu, hl with
    | [], _, _, _ => simp only [wide_Decode.l0]; rw [if_neg (by simp)]; simp [dec]
    | [a], _, hu, hl =>
      have ha := hu a (by simp)
      have := ih [] (out ++ [cd a]) (k + 1) (by simp) (fun x hx => by simp at hx) (by simp at hl ⊢; omega) (by omega)
      rw [wide_Decode.l0, if_pos (by simp), next_1 a ha.1 ha.2, Option.bind_some]
      simp only []
      rw [if_pos (by simp at hl; omega), if_pos (by omega), if_pos (by simp)]
      simp only [show (1 : Int).toNat = 1 from rfl, List.drop_succ_cons, List.drop_zero]
      rw [this]; simp [dec]
    | a :: b :: t, hn, hu, hl =>
      have ha := hu a (by simp)
      rw [wide_Decode.l0, if_pos (by simp; omega), next_2 a b t ha.1 ha.2, Option.bind_some]
      by_cases h : isHi a ∧ isLo b
      · have := ih t (out ++ [pr a b]) (k + 1) (by simp at hn; omega) hu.tail.tail (by simp at hl ⊢; omega) (by omega)
        rw [if_pos h]
        simp only []
        rw [if_pos (by simp at hl; omega), if_pos (by omega), if_pos (by simp; omega)]
        simp only [show (2 : Int).toNat = 2 from rfl, List.drop_succ_cons, List.drop_zero]
        rw [this]
        conv => rhs; rw [dec, if_pos h]
        simp
      · have := ih (b :: t) (out ++ [cd a]) (k + 1) (by simp at hn ⊢; omega) hu.tail (by simp at hl ⊢; omega) (by omega)
        rw [if_neg h]
        simp only []
        rw [if_pos (by simp at hl; omega), if_pos (by omega), if_pos (by simp; omega)]
        simp only [show (1 : Int).toNat = 1 from rfl, List.drop_succ_cons, List.drop_zero]
        rw [this]
        conv => rhs; rw [dec, if_neg h]
        simp
theorem decode_f (u : List Int) (hu : U16 u) (hl : u.length ≤ 1000000) (k : Nat) (hk : 2 * u.length + 2 ≤ k) : wide_Decode.f k u = some (dec u) := by
  unfold wide_Decode.f
  rw [decode_loop u.length u [] k (Nat.le_refl _) hu (by simpa using hl) hk]; rfl

theorem wraps_i64' (n : Int) (h₀ : 0 ≤ n) (h₁ : n < 2 ^ 62) : IntKind.i64.wrap n = n := by rw [IntKind.wrap_i64]; omega
theorem and_mask (x : Int) (i : Nat) (hi : i ≤ 62) (h0 : 0 ≤ x) (h1 : x < 2 ^ 62) : Go.bits .and .i64 x (2 ^ i - 1) = x % 2 ^ i := bits_mask .i64 62 (by decide) wraps_i64' i hi x h0 h1

def ill (c : Int) : Prop := 1169408 ≤ c ∧ c ≤ 1171455
def whole (c : Int) : Prop := 0 ≤ c ∧ c ≤ 1114111 ∧ ¬ (55296 ≤ c ∧ c ≤ 57343)
instance (a : Int) : Decidable (ill a) := by unfold ill; infer_instance
instance (a : Int) : Decidable (whole a) := by unfold whole; infer_instance
def sz (c : Int) : Int := if ill c then 1 else if whole c then (if c < 65536 then 1 else 2) else 0
def un (c : Int) : List Int := if ill c then [c - 1114112] else if c < 65536 then [c] else [55296 + (c - 65536) / 1024, 56320 + (c - 65536) % 1024]
def I64 (l : List Int) : Prop := ∀ x ∈ l, -9223372036854775808 ≤ x ∧ x ≤ 9223372036854775807
theorem I64.of {l : List Int} (h : ∀ x ∈ l, (Lit.int .i64 x).wf = true) : I64 l := fun x hx => wf64 (h x hx)
theorem whole_f (a : Int) (k : Nat) (hk : 1 ≤ k) : wide_Whole.f k a = some (decide (whole a)) := by
  obtain ⟨k, rfl⟩ : ∃ m, k = m + 1 := ⟨k - 1, by omega⟩
  unfold wide_Whole.f whole
  simp only [wide_Whole.j0]
  by_cases h0 : a < 0
  · rw [if_pos h0, if_pos (by simpa using h0)]; refine bsome ?_; simp; omega
  · rw [if_neg h0]
    by_cases h1 : a > 1114111
    · rw [if_pos (by simpa using h1)]; refine bsome ?_; simp; omega
    · rw [if_neg (by simpa using h1)]
      repeat' split
      all_goals refine bsome ?_
      all_goals simp only [true_iff, Bool.false_eq_true, false_iff]
      all_goals omega
theorem lone_f (a : Int) : wide_unit_lone.f a = some (decide (55296 ≤ a ∧ a ≤ 57343)) := by
  unfold wide_unit_lone.f wide_unit_first.f wide_unit_second.f
  by_cases h1 : 55296 ≤ a <;> by_cases h2 : a < 56320 <;> by_cases h3 : a ≤ 57343 <;> simp [h1, h2, h3] <;> omega
theorem ill_f (a : Int) (w0 : -9223372036854775808 ≤ a) (w1 : a ≤ 9223372036854775807) : ∃ u, wide_ill.f a = some (u, decide (ill a)) ∧ (ill a → u = a - 1114112) := by
  unfold wide_ill.f
  by_cases h : a < 1114112
  · rw [if_pos h, show decide (ill a) = false from decide_eq_false (by unfold ill; omega)]; exact ⟨0, rfl, fun h => by unfold ill at h; omega⟩
  · rw [if_neg h, w64 (by omega) (by omega)]
    by_cases h2 : a - 1114112 > 57343
    · rw [if_pos h2, show decide (ill a) = false from decide_eq_false (by unfold ill; omega)]; exact ⟨0, rfl, fun h => by unfold ill at h; omega⟩
    · have e : IntKind.u16.wrap (a - 1114112) = a - 1114112 := u16w (by omega) (by omega)
      rw [if_neg h2, e, lone_f, Option.bind_some]
      refine ⟨a - 1114112, ?_, fun _ => rfl⟩
      rw [show decide (ill a) = decide (55296 ≤ a - 1114112 ∧ a - 1114112 ≤ 57343) from decide_eq_decide.2 (by unfold ill; omega)]
theorem size_f (a : Int) (w0 : -9223372036854775808 ≤ a) (w1 : a ≤ 9223372036854775807) (k : Nat) (hk : 1 ≤ k) : wide_Size.f k a = some (sz a) := by
  obtain ⟨u, hu, _⟩ := ill_f a w0 w1
  unfold wide_Size.f sz
  rw [hu, whole_f a k hk, Option.bind_some, Option.bind_some]
  by_cases h1 : ill a
  · rw [if_pos (by simpa using h1), if_pos h1]
  · rw [if_neg (by simpa using h1), if_neg h1]
    by_cases h2 : whole a
    · rw [if_pos (by simpa using h2), if_pos h2]; split <;> rfl
    · rw [if_neg (by simpa using h2), if_neg h2]
theorem sz_pos (c : Int) (h : sz c ≠ 0) : ill c ∨ whole c := by
  unfold sz at h
  by_cases h1 : ill c
  · exact .inl h1
  · by_cases h2 : whole c
    · exact .inr h2
    · rw [if_neg h1, if_neg h2] at h; exact absurd rfl h
theorem put_f (l : List Int) (c : Int) (h : sz c ≠ 0) (hl : l.length ≤ 10000000) : wide_put.f l c = some (l ++ un c) := by
  have hc := sz_pos c h
  have hb : 0 ≤ c ∧ c ≤ 1171455 := by unfold ill whole at hc; omega
  obtain ⟨u, hu, he⟩ := ill_f c (by omega) (by omega)
  unfold wide_put.f un
  rw [hu, Option.bind_some]
  by_cases h1 : ill c
  · rw [if_pos (by simpa using h1), if_pos (by omega), if_pos h1, he h1]
  · rw [if_neg (by simpa using h1), if_neg h1]
    have hw : whole c := hc.resolve_left h1
    unfold whole at hw
    by_cases h2 : c < 65536
    · rw [if_pos h2, if_pos (by omega), if_pos h2, u16w (by omega) (by omega)]
    · have hm := and_mask (c - 65536) 10 (by omega) (by omega) (by omega)
      rw [show (2 : Int) ^ 10 - 1 = 1023 by decide, show (2 : Int) ^ 10 = 1024 by decide] at hm
      rw [if_neg h2, if_neg h2, Option.bind_some, w64 (x := c - 65536) (by omega) (by omega), hm, w64 (by omega) (by omega), w64 (by omega) (by omega), u16w (by omega) (by omega), u16w (by omega) (by omega), if_pos (by simp; omega)]
theorem encode_loop (x0 : List Int) (hx : x0.length ≤ 2000) (hs : ∀ c ∈ x0, sz c ≠ 0) : ∀ (rest pre out : List Int) (k : Nat), x0 = pre ++ rest → out.length ≤ 2 * pre.length → rest.length < k →
    wide_Encode.l0 k out x0 x0.length pre.length = some (out ++ rest.flatMap un, 0) := by
  intro rest
  induction rest with
  | nil =>
    intro pre out k h ho hk
    obtain ⟨k, rfl⟩ : ∃ m, k = m + 1 := ⟨k - 1, by omega⟩
    simp at h
    subst h
    simp only [wide_Encode.l0]
    rw [if_neg (by omega)]; simp
  | cons c rest ih =>
    intro pre out k h ho hk
    obtain ⟨k, rfl⟩ : ∃ m, k = m + 1 := ⟨k - 1, by omega⟩
    have hlen : pre.length + 1 + rest.length = x0.length := by rw [h]; simp; omega
    have hr : rd x0 (pre.length : Int) = c := by rw [h]; exact rd_at pre c rest
    have hun : (un c).length ≤ 2 := by unfold un; repeat' split
                                       all_goals simp
    have := ih (pre ++ [c]) (out ++ un c) k (by rw [h]; simp) (by simp; omega) (by simp at hk; omega)
    simp only [List.length_append, List.length_cons, List.length_nil, Nat.zero_add, Int.natCast_add, Int.natCast_one] at this
    simp only [wide_Encode.l0]
    rw [if_pos (by omega), if_pos (by omega), if_pos (by omega), hr, put_f out c (hs c (by rw [h]; simp)) (by omega), Option.bind_some, w64 (by omega) (by omega), this]
    simp
theorem index_loop (x0 : List Int) (hx : x0.length ≤ 2000) (hi : I64 x0) : ∀ (rest pre : List Int) (k : Nat), x0 = pre ++ rest → rest.length + 1 < k →
    ∃ r, slices_IndexFunc_int_int.l0 k x0 x0.length pre.length = some r ∧ (0 ≤ r ↔ ∃ c ∈ rest, sz c = 0) := by
  intro rest
  induction rest with
  | nil =>
    intro pre k h hk
    obtain ⟨k, rfl⟩ : ∃ m, k = m + 1 := ⟨k - 1, by omega⟩
    simp at h
    subst h
    refine ⟨-1, ?_, by simp⟩
    simp only [slices_IndexFunc_int_int.l0]
    rw [if_neg (by omega)]
  | cons c rest ih =>
    intro pre k h hk
    obtain ⟨k, rfl⟩ : ∃ m, k = m + 1 := ⟨k - 1, by omega⟩
    have hlen : pre.length + 1 + rest.length = x0.length := by rw [h]; simp; omega
    have hr : rd x0 (pre.length : Int) = c := by rw [h]; exact rd_at pre c rest
    obtain ⟨r, h1, h2⟩ := ih (pre ++ [c]) k (by rw [h]; simp) (by simp at hk; omega)
    simp only [List.length_append, List.length_cons, List.length_nil, Nat.zero_add, Int.natCast_add, Int.natCast_one] at h1
    have hc := hi c (by rw [h]; simp)
    simp only [slices_IndexFunc_int_int.l0]
    rw [if_pos (by omega), if_pos (by omega), if_pos (by omega), hr, wide_Encode_1.f, size_f c hc.1 hc.2 k (by omega), Option.bind_some, Option.bind_some]
    by_cases hz : sz c = 0
    · rw [if_pos (by simpa using hz)]
      exact ⟨pre.length, rfl, by simp [hz]⟩
    · rw [if_neg (by simpa using hz), w64 (by omega) (by omega)]
      exact ⟨r, h1, by rw [h2]; simp [hz]⟩
theorem encode_f (x0 : List Int) (hx : x0.length ≤ 2000) (hi : I64 x0) (k : Nat) (hk : x0.length + 2 ≤ k) : wide_Encode.f k x0 = some (if ∃ c ∈ x0, sz c = 0 then ([], 2) else (x0.flatMap un, 0)) := by
  obtain ⟨r, h1, h2⟩ := index_loop x0 hx hi x0 [] k rfl (by omega)
  unfold wide_Encode.f slices_ContainsFunc_int_int.f slices_IndexFunc_int_int.f
  simp only [List.length_nil, Int.natCast_zero] at h1
  rw [h1, Option.bind_some, Option.bind_some]
  by_cases h : ∃ c ∈ x0, sz c = 0
  · rw [if_pos (by simpa using h2.2 h), if_pos h]
  · have hr : ¬ r ≥ 0 := fun hr => h (h2.1 hr)
    rw [if_neg (by simpa using hr), if_neg h]
    have := encode_loop x0 hx (fun c hc hz => h ⟨c, hc, hz⟩) x0 [] [] k rfl (by simp) (by omega)
    simp only [List.length_nil, Int.natCast_zero, List.nil_append] at this
    exact this
theorem sizes_loop (x0 : List Int) (hx : x0.length ≤ 2000000) (hi : I64 x0) : ∀ (rest pre : List Int) (k : Nat), x0 = pre ++ rest → rest.length + 1 < k →
    wide_Sizes.l0 k (pre.map sz ++ List.replicate rest.length 0) x0 x0.length pre.length = some (x0.map sz) := by
  intro rest
  induction rest with
  | nil =>
    intro pre k h hk
    obtain ⟨k, rfl⟩ : ∃ m, k = m + 1 := ⟨k - 1, by omega⟩
    simp at h
    subst h
    simp only [wide_Sizes.l0]
    rw [if_neg (by omega)]; simp
  | cons c rest ih =>
    intro pre k h hk
    obtain ⟨k, rfl⟩ : ∃ m, k = m + 1 := ⟨k - 1, by omega⟩
    have hlen : pre.length + 1 + rest.length = x0.length := by rw [h]; simp; omega
    have hr : rd x0 (pre.length : Int) = c := by rw [h]; exact rd_at pre c rest
    have := ih (pre ++ [c]) k (by rw [h]; simp) (by simp at hk; omega)
    simp only [List.length_append, List.length_cons, List.length_nil, Nat.zero_add, Int.natCast_add, Int.natCast_one] at this
    have hc := hi c (by rw [h]; simp)
    simp only [wide_Sizes.l0]
    rw [if_pos (by omega), if_pos (by omega), if_pos (by omega), hr, size_f c hc.1 hc.2 k (by omega), Option.bind_some, if_pos (by simp; omega), w64 (by omega) (by omega)]
    rw [← this]
    congr 1
    rw [Int.toNat_natCast, List.set_append_right (h := by simp), List.length_map, Nat.sub_self, List.length_cons, List.replicate_succ, List.set_cons_zero]
    simp
theorem sizes_f (x0 : List Int) (hx : x0.length ≤ 2000000) (hi : I64 x0) (k : Nat) (hk : x0.length + 2 ≤ k) : wide_Sizes.f k x0 = some (x0.map sz) := by
  unfold wide_Sizes.f
  rw [if_pos (by omega), if_pos (by omega)]
  have := sizes_loop x0 hx hi x0 [] k rfl (by omega)
  simpa using this

theorem awake_ok : naskhlaw01_awake.f 40 = some true := by decide +kernel
theorem un_cd (a : Int) (h0 : 0 ≤ a) (h1 : a ≤ 65535) : un (cd a) = [a] ∧ sz (cd a) = 1 := by
  unfold un cd sz
  by_cases h : 55296 ≤ a ∧ a ≤ 57343
  · have hi : ill (1114112 + a) := by unfold ill; omega
    rw [if_pos h, if_pos hi, if_pos hi]
    exact ⟨by congr 1; omega, rfl⟩
  · have hi : ¬ ill a := by unfold ill; omega
    have hw : whole a := by unfold whole; omega
    rw [if_neg h, if_neg hi, if_neg hi, if_pos (by omega), if_pos hw, if_pos (by omega)]
    exact ⟨rfl, rfl⟩
theorem un_pr (a b : Int) (ha : isHi a) (hb : isLo b) : un (pr a b) = [a, b] ∧ sz (pr a b) = 2 := by
  unfold isHi isLo at *
  unfold un sz pr
  have hi : ¬ ill (65536 + (a - 55296) * 1024 + (b - 56320)) := by unfold ill; omega
  have hw : whole (65536 + (a - 55296) * 1024 + (b - 56320)) := by unfold whole; omega
  rw [if_neg hi, if_neg hi, if_neg (by omega), if_pos hw, if_neg (by omega)]
  refine ⟨?_, rfl⟩
  rw [show 55296 + (65536 + (a - 55296) * 1024 + (b - 56320) - 65536) / 1024 = a by omega, show 56320 + (65536 + (a - 55296) * 1024 + (b - 56320) - 65536) % 1024 = b by omega]
theorem dec_un : ∀ u : List Int, U16 u → (dec u).flatMap un = u ∧ (∀ c ∈ dec u, sz c ≠ 0) ∧ ((dec u).map sz).sum = u.length
  | [], _ => by simp [dec]
  | [a], h => by
    have ha := h a (by simp)
    have := un_cd a ha.1 ha.2
    simp [dec, this.1, this.2]
  | a :: b :: t, h => by
    have ha := h a (by simp)
    rw [dec]
    by_cases h2 : isHi a ∧ isLo b
    · obtain ⟨h3, h4, h5⟩ := dec_un t h.tail.tail
      have := un_pr a b h2.1 h2.2
      rw [if_pos h2]
      refine ⟨by simp [this.1, h3], ?_, by simp [this.2, h5]; omega⟩
      intro c hc
      rcases List.mem_cons.1 hc with rfl | hc
      · rw [this.2]; decide
      · exact h4 c hc
    · obtain ⟨h3, h4, h5⟩ := dec_un (b :: t) h.tail
      have := un_cd a ha.1 ha.2
      rw [if_neg h2]
      refine ⟨by rw [List.flatMap_cons, this.1, h3]; rfl, ?_, by rw [List.map_cons, List.sum_cons, this.2, h5]; simp; omega⟩
      intro c hc
      rcases List.mem_cons.1 hc with rfl | hc
      · rw [this.2]; decide
      · exact h4 c hc
theorem dec_i64 : ∀ u : List Int, U16 u → I64 (dec u)
  | [], _ => by intro x hx; simp [dec] at hx
  | [a], h => by
    have ha := h a (by simp)
    intro x hx; simp [dec] at hx; subst hx; unfold cd; split <;> omega
  | a :: b :: t, h => by
    have ha := h a (by simp)
    have hb := h b (by simp)
    rw [dec]
    by_cases h2 : isHi a ∧ isLo b
    · rw [if_pos h2]
      intro x hx
      rcases List.mem_cons.1 hx with rfl | hx
      · unfold pr; omega
      · exact dec_i64 t h.tail.tail x hx
    · rw [if_neg h2]
      intro x hx
      rcases List.mem_cons.1 hx with rfl | hx
      · unfold cd; split <;> omega
      · exact dec_i64 (b :: t) h.tail x hx
theorem sz_small (c : Int) : 0 ≤ sz c ∧ sz c ≤ 2 := by
  unfold sz
  repeat' split
  all_goals decide
theorem sum_small (l : List Int) : 0 ≤ (l.map sz).sum ∧ (l.map sz).sum ≤ 2 * (l.length : Int) := by
  induction l with
  | nil => simp
  | cons c l ih => have := sz_small c; simp at ih ⊢; omega
theorem sum_loop (x0 x4 : List Int) (r : Option Bool) (K : Nat) (L : List Int) (hL : L.length ≤ 2000) (hr : ∀ k, K ≤ k → ((slices_Equal_uint16_uint16.f k x4 x0).bind fun t181 => (if t181 = true then (if (L.map sz).sum = (x0.length : Int) then ((naskhlaw01_awake.f k).bind fun t182 => (some t182)) else (some false)) else (some false))) = r) : ∀ (rest pre : List Int) (k : Nat), L = pre ++ rest → rest.length + K < k →
    naskhlaw01_WideBack.l0 k x0 x4 0 (pre.map sz).sum (L.map sz) (L.map sz).length pre.length = r := by
  intro rest
  induction rest with
  | nil =>
    intro pre k h hk
    obtain ⟨k, rfl⟩ : ∃ m, k = m + 1 := ⟨k - 1, by omega⟩
    simp at h
    subst h
    simp only [naskhlaw01_WideBack.l0]
    rw [if_neg (by simp), if_pos True.intro, hr k (by simp at hk; omega)]
  | cons c rest ih =>
    intro pre k h hk
    obtain ⟨k, rfl⟩ : ∃ m, k = m + 1 := ⟨k - 1, by omega⟩
    have hlen : pre.length + 1 + rest.length = L.length := by rw [h]; simp; omega
    have hrd : rd (L.map sz) (pre.length : Int) = sz c := by rw [h]; simp [rd]
    have h1 := sz_small c
    have h2 := sum_small pre
    have := ih (pre ++ [c]) k (by rw [h]; simp) (by simp at hk; omega)
    simp only [List.length_append, List.length_cons, List.length_nil, Nat.zero_add, Int.natCast_add, Int.natCast_one, List.map_append, List.map_cons, List.map_nil, List.sum_append, List.sum_cons, List.sum_nil, Int.add_zero] at this
    simp only [naskhlaw01_WideBack.l0]
    rw [List.length_map] at this ⊢
    rw [if_pos (by omega), if_pos (by omega), if_pos (by omega), hrd, w64 (by omega) (by omega), w64 (by omega) (by omega)]
    exact this
end Go.Proofs.Ytjnhepgjkphkoaa.PureWideBackAux
namespace Go.Proofs.Ytjnhepgjkphkoaa.Pure
open Go.RowKit Go.Proofs.Ytjnhepgjkphkoaa.PWideBack Go.Proofs.YtjnhepgjkphkoaaW.PrintWords Go.Proofs.YtjnhepgjkphkoaaW.PrintLast Go.Proofs.Ytjnhepgjkphkoaa.PureWideBackAux
set_option maxRecDepth 20000 in
theorem WideBack : naskhlaw01_WideBack.Pure := by
  intro l _ _ hw
  refine ⟨10000, ?_⟩
  have hu := U16.of hw
  have aw : ∀ k, 100 ≤ k → naskhlaw01_awake.f k = some true := fun k hk => at_rounds (fun k => naskhlaw01_awake.mono k) (by omega) awake_ok
  unfold naskhlaw01_WideBack.f
  by_cases h : (l.length : Int) > 2000
  · rw [if_pos h, aw _ (by omega)]; rfl
  · have hd := dec_len l
    obtain ⟨h1, h2, h3⟩ := dec_un l hu
    have hi := dec_i64 l hu
    have hno : ¬ ∃ c ∈ dec l, sz c = 0 := fun ⟨c, hc, hz⟩ => h2 c hc hz
    rw [if_neg h, decode_f l hu (by omega) _ (by omega), Option.bind_some, encode_f (dec l) (by omega) hi _ (by omega), Option.bind_some, sizes_f (dec l) (by omega) hi _ (by omega), Option.bind_some, if_neg hno, h1]
    exact sum_loop l l (some true) 3000 (dec l) (by omega) (fun k hk => by
      rw [equal_self_uint16_uint16 _ (by omega) _ (by omega), Option.bind_some, if_pos rfl, if_pos h3, aw k (by omega)]; rfl) (dec l) [] 10000 rfl (by omega)
end Go.Proofs.Ytjnhepgjkphkoaa.Pure
