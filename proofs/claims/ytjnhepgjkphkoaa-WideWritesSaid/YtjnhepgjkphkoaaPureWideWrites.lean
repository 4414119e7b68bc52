/- Any numbers are the units that the document says, or are refused; so are their sizes. No condition. -/
import Derived.Test.YtjnhepgjkphkoaaPWideWritesx
namespace Go.Proofs.Ytjnhepgjkphkoaa.PureWideWritesAux
open Go.RowKit Go.Proofs.Ytjnhepgjkphkoaa.PWideWrites Go.Proofs.YtjnhepgjkphkoaaW.PrintWords Go.Proofs.YtjnhepgjkphkoaaW.PrintLast

set_option linter.unusedSimpArgs false
set_option linter.unusedVariables false
theorem w64 {x : Int} (h0 : -9223372036854775808 ≤ x) (h1 : x ≤ 9223372036854775807) : wrap64 x = x := by unfold wrap64; omega
theorem rd_at (pre : List Int) (x : Int) (rest : List Int) : rd (pre ++ x :: rest) (pre.length : Int) = x := by simp [rd]
theorem rd_nat (l : List Int) (i : Nat) (h : i < l.length) : rd l (i : Int) = l[i] := by simp [rd, h]
theorem wf64 {x : Int} (h : (Lit.int .i64 x).wf = true) : -9223372036854775808 ≤ x ∧ x ≤ 9223372036854775807 := by
  simpa [Lit.wf, IntKind.min, IntKind.max, IntKind.signed, IntKind.bits] using h
theorem bsome {P : Prop} [Decidable P] {b : Bool} (h : b = true ↔ P) : some b = some (decide P) := by
  congr 1; rw [Bool.eq_iff_iff]; simpa using h
theorem u16w {x : Int} (h0 : 0 ≤ x) (h1 : x ≤ 65535) : IntKind.u16.wrap x = x := by
  simp [IntKind.wrap, IntKind.min, IntKind.max, IntKind.signed, IntKind.bits]; omega

theorem eq_loop_int_int (a b : List Int) (hl : a.length = b.length) (hm : a.length ≤ 9223372036854775806) : ∀ d k i : Nat, i + d = a.length → d < k →
    slices_Equal_int_int.l0 k a b a.length i = some (decide (a.drop i = b.drop i)) := by
  intro d
  induction d with
  | zero =>
    intro k i hi hk
    obtain ⟨k, rfl⟩ : ∃ m, k = m + 1 := ⟨k - 1, by omega⟩
    simp only [slices_Equal_int_int.l0]
    rw [if_neg (by omega), List.drop_eq_nil_of_le (by omega), List.drop_eq_nil_of_le (by omega)]
    simp
  | succ d ih =>
    intro k i hi hk
    obtain ⟨k, rfl⟩ : ∃ m, k = m + 1 := ⟨k - 1, by omega⟩
    simp only [slices_Equal_int_int.l0]
    rw [if_pos (by omega), if_pos (by omega), if_pos (by omega), if_pos (by omega), rd_nat a i (by omega), rd_nat b i (by omega),
      List.drop_eq_getElem_cons (by omega : i < a.length), List.drop_eq_getElem_cons (by omega : i < b.length)]
    by_cases h : a[i]'(by omega) = b[i]'(by omega)
    · rw [if_pos h, w64 (by omega) (by omega)]
      have := ih k (i + 1) (by omega) (by omega)
      rw [Int.natCast_add] at this
      rw [show ((1 : Nat) : Int) = 1 from rfl] at this
      rw [this]
      congr 1
      rw [decide_eq_decide, List.cons.injEq]
      simp only [h, true_and]
    · rw [if_neg h]
      congr 1
      symm
      rw [decide_eq_false_iff_not, List.cons.injEq]
      exact fun e => h e.1
theorem equal_f_int_int (a b : List Int) (hm : a.length ≤ 9223372036854775806) (k : Nat) (hk : a.length < k) : slices_Equal_int_int.f k a b = some (decide (a = b)) := by
  unfold slices_Equal_int_int.f
  by_cases hl : a.length = b.length
  · rw [if_pos (by omega), show (0 : Int) = ((0 : Nat) : Int) from rfl, eq_loop_int_int a b hl hm a.length k 0 (by omega) hk]
    simp
  · rw [if_neg (by omega)]
    have : a ≠ b := fun e => hl (by rw [e])
    simp [this]
theorem equal_self_int_int (a : List Int) (hm : a.length ≤ 9223372036854775806) (k : Nat) (hk : a.length < k) : slices_Equal_int_int.f k a a = some true := by
  rw [equal_f_int_int a a hm k hk]; simp

theorem eq_loop_uint16_uint16 (a b : List Int) (hl : a.length = b.length) (hm : a.length ≤ 9223372036854775806) : ∀ d k i : Nat, i + d = a.length → d < k →
    slices_Equal_uint16_uint16.l0 k a b a.length i = some (decide (a.drop i = b.drop i)) := by
  intro d
  induction d with
  | zero =>
    intro k i hi hk
    obtain ⟨k, rfl⟩ : ∃ m, k = m + 1 := ⟨k - 1, by omega⟩
    simp only [slices_Equal_uint16_uint16.l0]
    rw [if_neg (by omega), List.drop_eq_nil_of_le (by omega), List.drop_eq_nil_of_le (by omega)]
    simp
  | succ d ih =>
    intro k i hi hk
    obtain ⟨k, rfl⟩ : ∃ m, k = m + 1 := ⟨k - 1, by omega⟩
    simp only [slices_Equal_uint16_uint16.l0]
    rw [if_pos (by omega), if_pos (by omega), if_pos (by omega), if_pos (by omega), rd_nat a i (by omega), rd_nat b i (by omega),
      List.drop_eq_getElem_cons (by omega : i < a.length), List.drop_eq_getElem_cons (by omega : i < b.length)]
    by_cases h : a[i]'(by omega) = b[i]'(by omega)
    · rw [if_pos h, w64 (by omega) (by omega)]
      have := ih k (i + 1) (by omega) (by omega)
      rw [Int.natCast_add] at this
      rw [show ((1 : Nat) : Int) = 1 from rfl] at this
      rw [this]
      congr 1
      rw [decide_eq_decide, List.cons.injEq]
      simp only [h, true_and]
    · rw [if_neg h]
      congr 1
      symm
      rw [decide_eq_false_iff_not, List.cons.injEq]
      exact fun e => h e.1
theorem equal_f_uint16_uint16 (a b : List Int) (hm : a.length ≤ 9223372036854775806) (k : Nat) (hk : a.length < k) : slices_Equal_uint16_uint16.f k a b = some (decide (a = b)) := by
  unfold slices_Equal_uint16_uint16.f
  by_cases hl : a.length = b.length
  · rw [if_pos (by omega), show (0 : Int) = ((0 : Nat) : Int) from rfl, eq_loop_uint16_uint16 a b hl hm a.length k 0 (by omega) hk]
    simp
  · rw [if_neg (by omega)]
    have : a ≠ b := fun e => hl (by rw [e])
    simp [this]
theorem equal_self_uint16_uint16 (a : List Int) (hm : a.length ≤ 9223372036854775806) (k : Nat) (hk : a.length < k) : slices_Equal_uint16_uint16.f k a a = some true := by
  rw [equal_f_uint16_uint16 a a hm k hk]; simp

theorem wraps_i64' (n : Int) (h₀ : 0 ≤ n) (h₁ : n < 2 ^ 62) : IntKind.i64.wrap n = n := by rw [IntKind.wrap_i64]; omega
theorem and_mask (x : Int) (i : Nat) (hi : i ≤ 62) (h0 : 0 ≤ x) (h1 : x < 2 ^ 62) : Go.bits .and .i64 x (2 ^ i - 1) = x % 2 ^ i := bits_mask .i64 62 (by decide) wraps_i64' i hi x h0 h1

def ill (c : Int) : Prop := 1169408 ≤ c ∧ c ≤ 1171455
def whole (c : Int) : Prop := 0 ≤ c ∧ c ≤ 1114111 ∧ ¬ (55296 ≤ c ∧ c ≤ 57343)
instance (a : Int) : Decidable (ill a) := by unfold ill; infer_instance
instance (a : Int) : Decidable (whole a) := by unfold whole; infer_instance
def sz (c : Int) : Int := if ill c then 1 else if whole c then (if c < 65536 then 1 else 2) else 0
def un (c : Int) : List Int := if ill c then [c - 1114112] else if c < 65536 then [c] else [55296 + (c - 65536) / 1024, 56320 + (c - 65536) % 1024]
def I64 (l : List Int) : Prop := ∀ x ∈ l, -9223372036854775808 ≤ x ∧ x ≤ 9223372036854775807
theorem I64.of {l : List Int} (h : ∀ x ∈ l, (Lit.int .i64 x).wf = true) : I64 l := fun x hx => wf64 (h x hx)
theorem whole_f (a : Int) (k : Nat) (hk : 1 ≤ k) : wide_Whole.f k a = some (decide (whole a)) := by
  obtain ⟨k, rfl⟩ : ∃ m, k = m + 1 := ⟨k - 1, by omega⟩
  unfold wide_Whole.f whole
  simp only [wide_Whole.j0]
  by_cases h0 : a < 0
  · rw [if_pos h0, if_pos (by simpa using h0)]; refine bsome ?_; simp; omega
  · rw [if_neg h0]
    by_cases h1 : a > 1114111
    · rw [if_pos (by simpa using h1)]; refine bsome ?_; simp; omega
    · rw [if_neg (by simpa using h1)]
      repeat' split
      all_goals refine bsome ?_
      all_goals simp only [true_iff, Bool.false_eq_true, false_iff]
      all_goals omega
theorem lone_f (a : Int) : wide_unit_lone.f a = some (decide (55296 ≤ a ∧ a ≤ 57343)) := by
  unfold wide_unit_lone.f wide_unit_first.f wide_unit_second.f
  by_cases h1 : 55296 ≤ a <;> by_cases h2 : a < 56320 <;> by_cases h3 : a ≤ 57343 <;> simp [h1, h2, h3] <;> omega
theorem ill_f (a : Int) (w0 : -9223372036854775808 ≤ a) (w1 : a ≤ 9223372036854775807) : ∃ u, wide_ill.f a = some (u, decide (ill a)) ∧ (ill a → u = a - 1114112) := by
  unfold wide_ill.f
  by_cases h : a < 1114112
  · rw [if_pos h, show decide (ill a) = false from decide_eq_false (by unfold ill; omega)]; exact ⟨0, rfl, fun h => by unfold ill at h; omega⟩
  · rw [if_neg h, w64 (by omega) (by omega)]
    by_cases h2 : a - 1114112 > 57343
    · rw [if_pos h2, show decide (ill a) = false from decide_eq_false (by unfold ill; omega)]; exact ⟨0, rfl, fun h => by unfold ill at h; omega⟩
    · have e : IntKind.u16.wrap (a - 1114112) = a - 1114112 := u16w (by omega) (by omega)
      rw [if_neg h2, e, lone_f, Option.bind_some]
      refine ⟨a - 1114112, ?_, fun _ => rfl⟩
      rw [show decide (ill a) = decide (55296 ≤ a - 1114112 ∧ a - 1114112 ≤ 57343) from decide_eq_decide.2 (by unfold ill; omega)]
theorem size_f (a : Int) (w0 : -9223372036854775808 ≤ a) (w1 : a ≤ 9223372036854775807) (k : Nat) (hk : 1 ≤ k) : wide_Size.f k a = some (sz a) := by
  obtain ⟨u, hu, _⟩ := ill_f a w0 w1
  unfold wide_Size.f sz
  rw [hu, whole_f a k hk, Option.bind_some, Option.bind_some]
  by_cases h1 : ill a
  · rw [if_pos (by simpa using h1), if_pos h1]
  · rw [if_neg (by simpa using h1), if_neg h1]
    by_cases h2 : whole a
    · rw [if_pos (by simpa using h2), if_pos h2]; split <;> rfl
    · rw [if_neg (by simpa using h2), if_neg h2]
theorem sz_pos (c : Int) (h : sz c ≠ 0) : ill c ∨ whole c := by
  unfold sz at h
  by_cases h1 : ill c
  · exact .inl h1
  · by_cases h2 : whole c
    · exact .inr h2
    · rw [if_neg h1, if_neg h2] at h; exact absurd rfl h
theorem put_f (l : List Int) (c : Int) (h : sz c ≠ 0) (hl : l.length ≤ 10000000) : wide_put.f l c = some (l ++ un c) := by
  have hc := sz_pos c h
  have hb : 0 ≤ c ∧ c ≤ 1171455 := by unfold ill whole at hc; omega
  obtain ⟨u, hu, he⟩ := ill_f c (by omega) (by omega)
  unfold wide_put.f un
  rw [hu, Option.bind_some]
  by_cases h1 : ill c
  · rw [if_pos (by simpa using h1), if_pos (by omega), if_pos h1, he h1]
  · rw [if_neg (by simpa using h1), if_neg h1]
    have hw : whole c := hc.resolve_left h1
    unfold whole at hw
    by_cases h2 : c < 65536
    · rw [if_pos h2, if_pos (by omega), if_pos h2, u16w (by omega) (by omega)]
    · have hm := and_mask (c - 65536) 10 (by omega) (by omega) (by omega)
      rw [show (2 : Int) ^ 10 - 1 = 1023 by decide, show (2 : Int) ^ 10 = 1024 by decide] at hm
      rw [if_neg h2, if_neg h2, Option.bind_some, w64 (x := c - 65536) (by omega) (by omega), hm, w64 (by omega) (by omega), w64 (by omega) (by omega), u16w (by omega) (by omega), u16w (by omega) (by omega), if_pos (by simp; omega)]
theorem encode_loop (x0 : List Int) (hx : x0.length ≤ 2000) (hs : ∀ c ∈ x0, sz c ≠ 0) : ∀ (rest pre out : List Int) (k : Nat), x0 = pre ++ rest → out.length ≤ 2 * pre.length → rest.length < k →
    wide_Encode.l0 k out x0 x0.length pre.length = some (out ++ rest.flatMap un, 0) := by
  intro rest
  induction rest with
  | nil =>
    intro pre out k h ho hk
    obtain ⟨k, rfl⟩ : ∃ m, k = m + 1 := ⟨k - 1, by omega⟩
    simp at h
    subst h
    simp only [wide_Encode.l0]
    rw [if_neg (by omega)]; simp
  | cons c rest ih =>
    intro pre out k h ho hk
    obtain ⟨k, rfl⟩ : ∃ m, k = m + 1 := ⟨k - 1, by omega⟩
    have hlen : pre.length + 1 + rest.length = x0.length := by rw [h]; simp; omega
    have hr : rd x0 (pre.length : Int) = c := by rw [h]; exact rd_at pre c rest
    have hun : (un c).length ≤ 2 := by unfold un; repeat' split
                                       all_goals simp
    have := ih (pre ++ [c]) (out ++ un c) k (by rw [h]; simp) (by simp; omega) (by simp at hk; omega)
    simp only [List.length_append, List.length_cons, List.length_nil, Nat.zero_add, Int.natCast_add, Int.natCast_one] at this
    simp only [wide_Encode.l0]
    rw [if_pos (by omega), if_pos (by omega), if_pos (by omega), hr, put_f out c (hs c (by rw [h]; simp)) (by omega), Option.bind_some, w64 (by omega) (by omega), this]
    simp
theorem index_loop (x0 : List Int) (hx : x0.length ≤ 2000) (hi : I64 x0) : ∀ (rest pre : List Int) (k : Nat), x0 = pre ++ rest → rest.length + 1 < k →
    ∃ r, slices_IndexFunc_int_int.l0 k x0 x0.length pre.length = some r ∧ (0 ≤ r ↔ ∃ c ∈ rest, sz c = 0) := by
  intro rest
  induction rest with
  | nil =>
    intro pre k h hk
    obtain ⟨k, rfl⟩ : ∃ m, k = m + 1 := ⟨k - 1, by omega⟩
    simp at h
    subst h
    refine ⟨-1, ?_, by simp⟩
    simp only [slices_IndexFunc_int_int.l0]
    rw [if_neg (by omega)]
  | cons c rest ih =>
    intro pre k h hk
    obtain ⟨k, rfl⟩ : ∃ m, k = m + 1 := ⟨k - 1, by omega⟩
    have hlen : pre.length + 1 + rest.length = x0.length := by rw [h]; simp; omega
    have hr : rd x0 (pre.length : Int) = c := by rw [h]; exact rd_at pre c rest
    obtain ⟨r, h1, h2⟩ := ih (pre ++ [c]) k (by rw [h]; simp) (by simp at hk; omega)
    simp only [List.length_append, List.length_cons, List.length_nil, Nat.zero_add, Int.natCast_add, Int.natCast_one] at h1
    have hc := hi c (by rw [h]; simp)
    simp only [slices_IndexFunc_int_int.l0]
    rw [if_pos (by omega), if_pos (by omega), if_pos (by omega), hr, wide_Encode_1.f, size_f c hc.1 hc.2 k (by omega), Option.bind_some, Option.bind_some]
    by_cases hz : sz c = 0
    · rw [if_pos (by simpa using hz)]
      exact ⟨pre.length, rfl, by simp [hz]⟩
    · rw [if_neg (by simpa using hz), w64 (by omega) (by omega)]
      exact ⟨r, h1, by rw [h2]; simp [hz]⟩
theorem encode_f (x0 : List Int) (hx : x0.length ≤ 2000) (hi : I64 x0) (k : Nat) (hk : x0.length + 2 ≤ k) : wide_Encode.f k x0 = some (if ∃ c ∈ x0, sz c = 0 then ([], 2) else (x0.flatMap un, 0)) := by
  obtain ⟨r, h1, h2⟩ := index_loop x0 hx hi x0 [] k rfl (by omega)
  unfold wide_Encode.f slices_ContainsFunc_int_int.f slices_IndexFunc_int_int.f
  simp only [List.length_nil, Int.natCast_zero] at h1
  rw [h1, Option.bind_some, Option.bind_some]
  by_cases h : ∃ c ∈ x0, sz c = 0
  · rw [if_pos (by simpa using h2.2 h), if_pos h]
  · have hr : ¬ r ≥ 0 := fun hr => h (h2.1 hr)
    rw [if_neg (by simpa using hr), if_neg h]
    have := encode_loop x0 hx (fun c hc hz => h ⟨c, hc, hz⟩) x0 [] [] k rfl (by simp) (by omega)
    simp only [List.length_nil, Int.natCast_zero, List.nil_append] at this
    exact this
theorem sizes_loop (x0 : List Int) (hx : x0.length ≤ 2000000) (hi : I64 x0) : ∀ (rest pre : List Int) (k : Nat), x0 = pre ++ rest → rest.length + 1 < k →
    wide_Sizes.l0 k (pre.map sz ++ List.replicate rest.length 0) x0 x0.length pre.length = some (x0.map sz) := by
  intro rest
  induction rest with
  | nil =>
    intro pre k h hk
    obtain ⟨k, rfl⟩ : ∃ m, k = m + 1 := ⟨k - 1, by omega⟩
    simp at h
    subst h
    simp only [wide_Sizes.l0]
    rw [if_neg (by omega)]; simp
  | cons c rest ih =>
    intro pre k h hk
    obtain ⟨k, rfl⟩ : ∃ m, k = m + 1 := ⟨k - 1, by omega⟩
    have hlen : pre.length + 1 + rest.length = x0.length := by rw [h]; simp; omega
    have hr : rd x0 (pre.length : Int) = c := by rw [h]; exact rd_at pre c rest
    have := ih (pre ++ [c]) k (by rw [h]; simp) (by simp at hk; omega)
    simp only [List.length_append, List.length_cons, List.length_nil, Nat.zero_add, Int.natCast_add, Int.natCast_one] at this
    have hc := hi c (by rw [h]; simp)
    simp only [wide_Sizes.l0]
    rw [if_pos (by omega), if_pos (by omega), if_pos (by omega), hr, size_f c hc.1 hc.2 k (by omega), Option.bind_some, if_pos (by simp; omega), w64 (by omega) (by omega)]
    rw [← this]
    congr 1
    rw [Int.toNat_natCast, List.set_append_right (h := by simp), List.length_map, Nat.sub_self, List.length_cons, List.replicate_succ, List.set_cons_zero]
    simp
theorem sizes_f (x0 : List Int) (hx : x0.length ≤ 2000000) (hi : I64 x0) (k : Nat) (hk : x0.length + 2 ≤ k) : wide_Sizes.f k x0 = some (x0.map sz) := by
  unfold wide_Sizes.f
  rw [if_pos (by omega), if_pos (by omega)]
  have := sizes_loop x0 hx hi x0 [] k rfl (by omega)
  simpa using this

theorem refwhole_f (a : Int) : naskhref01_Whole.f a = some (decide (whole a)) := by
  unfold naskhref01_Whole.f whole
  repeat' split
  all_goals refine bsome ?_
  all_goals simp only [decide_eq_true_eq, true_iff, Bool.false_eq_true, false_iff]
  all_goals omega
theorem refill_f (a : Int) : naskhref01_ill.f a = some (decide (ill a)) := by
  unfold naskhref01_ill.f ill
  split <;> refine bsome ?_ <;> simp <;> omega
theorem refsize_f (a : Int) (k : Nat) (hk : 1 ≤ k) : naskhref01_Size.f k a = some (sz a) := by
  obtain ⟨k, rfl⟩ : ∃ m, k = m + 1 := ⟨k - 1, by omega⟩
  unfold naskhref01_Size.f sz
  rw [refwhole_f, refill_f, Option.bind_some, Option.bind_some]
  simp only [naskhref01_Size.j0, refwhole_f, Option.bind_some]
  by_cases h2 : whole a
  · have h1 : ¬ ill a := by unfold whole at h2; unfold ill; omega
    rw [if_pos (by simpa using h2), if_neg (by simp), if_pos (by simpa using h2), if_neg h1, if_pos h2]
    by_cases h3 : a < 65536
    · rw [if_neg (by omega), if_pos h3]
    · rw [if_pos (by omega), if_neg h3]
  · rw [if_neg (by simpa using h2), if_neg (c := decide (whole a) = true) (by simpa using h2)]
    by_cases h1 : ill a
    · rw [if_neg (by simpa using h1), if_pos h1]
    · rw [if_pos (by simpa using h1), if_neg h1, if_neg h2]
theorem refencode_loop (x0 : List Int) (hx : x0.length ≤ 2000) (hi : I64 x0) : ∀ (rest pre out : List Int) (k : Nat), x0 = pre ++ rest → out.length ≤ 2 * pre.length → rest.length + 1 < k →
    naskhref01_Encode.l0 k x0 out pre.length = some (if ∃ c ∈ rest, sz c = 0 then ([], 2) else (out ++ rest.flatMap un, 0)) := by
  intro rest
  induction rest with
  | nil =>
    intro pre out k h ho hk
    obtain ⟨k, rfl⟩ : ∃ m, k = m + 1 := ⟨k - 1, by omega⟩
    simp at h
    subst h
    simp only [naskhref01_Encode.l0]
    rw [if_neg (by omega)]; simp
  | cons c rest ih =>
    intro pre out k h ho hk
    obtain ⟨k, rfl⟩ : ∃ m, k = m + 1 := ⟨k - 1, by omega⟩
    have hlen : pre.length + 1 + rest.length = x0.length := by rw [h]; simp; omega
    have hr : rd x0 (pre.length : Int) = c := by rw [h]; exact rd_at pre c rest
    have hun : (un c).length ≤ 2 := by unfold un; repeat' split
                                       all_goals simp
    have step := ih (pre ++ [c]) (out ++ un c) k (by rw [h]; simp) (by simp; omega) (by simp at hk; omega)
    simp only [List.length_append, List.length_cons, List.length_nil, Nat.zero_add, Int.natCast_add, Int.natCast_one] at step
    have hc := hi c (by rw [h]; simp)
    simp only [naskhref01_Encode.l0]
    rw [if_pos (by omega), if_pos (by omega), hr, refsize_f c k (by omega), Option.bind_some]
    by_cases hz : sz c = 0
    · rw [if_pos hz, if_pos ⟨c, by simp, hz⟩]
    · have e : (∃ c' ∈ c :: rest, sz c' = 0) = (∃ c' ∈ rest, sz c' = 0) := by simp [hz]
      have hp := sz_pos c hz
      have hb : 0 ≤ c ∧ c ≤ 1171455 := by unfold ill whole at hp; omega
      simp only [e]
      have fin : out ++ List.flatMap un (c :: rest) = out ++ un c ++ List.flatMap un rest := by simp
      rw [if_neg hz, refill_f, Option.bind_some, fin, ← step, w64 (x := (pre.length : Int) + 1) (by omega) (by omega)]
      unfold un
      by_cases h1 : ill c
      · rw [if_pos (by simpa using h1), if_pos (by omega), if_pos h1, w64 (x := c - 1114112) (by omega) (by omega), u16w (by unfold ill at h1; omega) (by omega)]
      · rw [if_neg (by simpa using h1), if_neg h1]
        have hw : whole c := hp.resolve_left h1
        unfold whole at hw
        by_cases h2 : c < 65536
        · rw [if_neg (by omega), if_pos (by omega), if_pos h2, u16w (by omega) (by omega)]
        · rw [if_pos (by omega), if_neg h2, Option.bind_some, w64 (x := c - 65536) (by omega) (by omega), Int.tdiv_eq_ediv_of_nonneg (by omega), Int.tmod_eq_emod_of_nonneg (by omega), w64 (x := (c - 65536) / 1024) (by omega) (by omega), w64 (x := 55296 + (c - 65536) / 1024) (by omega) (by omega), w64 (x := 56320 + (c - 65536) % 1024) (by omega) (by omega), u16w (by omega) (by omega), u16w (by omega) (by omega), if_pos (by simp; omega)]
theorem refencode_f (x0 : List Int) (hx : x0.length ≤ 2000) (hi : I64 x0) (k : Nat) (hk : x0.length + 2 ≤ k) : naskhref01_Encode.f k x0 = some (if ∃ c ∈ x0, sz c = 0 then ([], 2) else (x0.flatMap un, 0)) := by
  unfold naskhref01_Encode.f
  have := refencode_loop x0 hx hi x0 [] [] k rfl (by simp) (by omega)
  simp only [List.length_nil, Int.natCast_zero, List.nil_append] at this
  exact this
theorem refsizes_loop (x0 : List Int) (hx : x0.length ≤ 2000000) : ∀ (rest pre : List Int) (k : Nat), x0 = pre ++ rest → rest.length + 1 < k →
    naskhref01_Sizes.l0 k x0 (pre.map sz) pre.length = some (x0.map sz) := by
  intro rest
  induction rest with
  | nil =>
    intro pre k h hk
    obtain ⟨k, rfl⟩ : ∃ m, k = m + 1 := ⟨k - 1, by omega⟩
    simp at h
    subst h
    simp only [naskhref01_Sizes.l0]
    rw [if_neg (by omega)]
  | cons c rest ih =>
    intro pre k h hk
    obtain ⟨k, rfl⟩ : ∃ m, k = m + 1 := ⟨k - 1, by omega⟩
    have hlen : pre.length + 1 + rest.length = x0.length := by rw [h]; simp; omega
    have hr : rd x0 (pre.length : Int) = c := by rw [h]; exact rd_at pre c rest
    have := ih (pre ++ [c]) k (by rw [h]; simp) (by simp at hk; omega)
    simp only [List.length_append, List.length_cons, List.length_nil, Nat.zero_add, Int.natCast_add, Int.natCast_one, List.map_append, List.map_cons, List.map_nil] at this
    simp only [naskhref01_Sizes.l0]
    rw [if_pos (by omega), if_pos (by omega), hr, refsize_f c k (by omega), Option.bind_some, if_pos (by simp; omega), w64 (by omega) (by omega), this]
theorem refsizes_f (x0 : List Int) (hx : x0.length ≤ 2000000) (k : Nat) (hk : x0.length + 2 ≤ k) : naskhref01_Sizes.f k x0 = some (x0.map sz) := by
  unfold naskhref01_Sizes.f
  have := refsizes_loop x0 hx x0 [] k rfl (by omega)
  simpa using this

theorem awake_ok : naskhlaw01_awake.f 40 = some true := by decide +kernel
theorem un_len (l : List Int) : (l.flatMap un).length ≤ 2 * l.length := by
  induction l with
  | nil => simp
  | cons c l ih =>
    have hun : (un c).length ≤ 2 := by unfold un; repeat' split
                                       all_goals simp
    simp at ih ⊢; omega
end Go.Proofs.Ytjnhepgjkphkoaa.PureWideWritesAux
namespace Go.Proofs.Ytjnhepgjkphkoaa.Pure
open Go.RowKit Go.Proofs.Ytjnhepgjkphkoaa.PWideWrites Go.Proofs.YtjnhepgjkphkoaaW.PrintWords Go.Proofs.YtjnhepgjkphkoaaW.PrintLast Go.Proofs.Ytjnhepgjkphkoaa.PureWideWritesAux
set_option maxRecDepth 20000 in
theorem WideWrites : naskhlaw01_WideWrites.Pure := by
  intro l _ _ hw
  refine ⟨10000, ?_⟩
  have hu := I64.of hw
  have aw : naskhlaw01_awake.f 10000 = some true := at_rounds (fun k => naskhlaw01_awake.mono k) (by omega) awake_ok
  unfold naskhlaw01_WideWrites.f
  by_cases h : (l.length : Int) > 2000
  · rw [if_pos h, aw]; rfl
  · have h2 := un_len l
    rw [if_neg h, encode_f l (by omega) hu _ (by omega), Option.bind_some, refencode_f l (by omega) hu _ (by omega), Option.bind_some, if_pos rfl]
    rw [equal_self_uint16_uint16 _ (by split <;> simp at * <;> omega) _ (by split <;> simp at * <;> omega), Option.bind_some, if_pos rfl, sizes_f l (by omega) hu _ (by omega), Option.bind_some, refsizes_f l (by omega) _ (by omega), Option.bind_some,
      equal_self_int_int _ (by simp; omega) _ (by simp; omega), Option.bind_some, if_pos rfl, aw]
    rfl
end Go.Proofs.Ytjnhepgjkphkoaa.Pure
