/- Any bytes are the codes that the document says, and the bytes stay as they were. No condition. -/
import Derived.Test.YtimkacnkmoofdaaPNarrowReadsx
namespace Go.Proofs.Ytimkacnkmoofdaa.PureNarrowReadsAux
open Go.RowKit Go.Proofs.Ytimkacnkmoofdaa.PNarrowReads Go.Proofs.YtimkacnkmoofdaaW.PrintWords Go.Proofs.YtimkacnkmoofdaaW.PrintLast

set_option linter.unusedSimpArgs false
set_option linter.unusedVariables false
theorem w64 {x : Int} (h0 : -9223372036854775808 ≤ x) (h1 : x ≤ 9223372036854775807) : wrap64 x = x := by unfold wrap64; omega
theorem rd_at (pre : List Int) (x : Int) (rest : List Int) : rd (pre ++ x :: rest) (pre.length : Int) = x := by simp [rd]
theorem rd_nat (l : List Int) (i : Nat) (h : i < l.length) : rd l (i : Int) = l[i] := by simp [rd, h]
theorem wf64 {x : Int} (h : (Lit.int .i64 x).wf = true) : -9223372036854775808 ≤ x ∧ x ≤ 9223372036854775807 := by
  simpa [Lit.wf, IntKind.min, IntKind.max, IntKind.signed, IntKind.bits] using h
theorem bsome {P : Prop} [Decidable P] {b : Bool} (h : b = true ↔ P) : some b = some (decide P) := by
  congr 1; rw [Bool.eq_iff_iff]; simpa using h
theorem u16w {x : Int} (h0 : 0 ≤ x) (h1 : x ≤ 65535) : IntKind.u16.wrap x = x := by
  simp [IntKind.wrap, IntKind.min, IntKind.max, IntKind.signed, IntKind.bits]; omega

theorem eq_loop_int_int (a b : List Int) (hl : a.length = b.length) (hm : a.length ≤ 9223372036854775806) : ∀ d k i : Nat, i + d = a.length → d < k →
    slices_Equal_int_int.l0 k a b a.length i = some (decide (a.drop i = b.drop i)) := by
  intro d
  induction d with
  | zero =>
    intro k i hi hk
    obtain ⟨k, rfl⟩ : ∃ m, k = m + 1 := ⟨k - 1, by omega⟩
    simp only [slices_Equal_int_int.l0]
    rw [if_neg (by omega), List.drop_eq_nil_of_le (by omega), List.drop_eq_nil_of_le (by omega)]
    simp
  | succ d ih =>
    intro k i hi hk
    obtain ⟨k, rfl⟩ : ∃ m, k = m + 1 := ⟨k - 1, by omega⟩
    simp only [slices_Equal_int_int.l0]
    rw [if_pos (by omega), if_pos (by omega), if_pos (by omega), if_pos (by omega), rd_nat a i (by omega), rd_nat b i (by omega),
      List.drop_eq_getElem_cons (by omega : i < a.length), List.drop_eq_getElem_cons (by omega : i < b.length)]
    by_cases h : a[i]'(by omega) = b[i]'(by omega)
    · rw [if_pos h, w64 (by omega) (by omega)]
      have := ih k (i + 1) (by omega) (by omega)
      rw [Int.natCast_add] at this
      rw [show ((1 : Nat) : Int) = 1 from rfl] at this
      rw [this]
      congr 1
      rw [decide_eq_decide, List.cons.injEq]
      simp only [h, true_and]
    · rw [if_neg h]
      congr 1
      symm
      rw [decide_eq_false_iff_not, List.cons.injEq]
      exact fun e => h e.1
theorem equal_f_int_int (a b : List Int) (hm : a.length ≤ 9223372036854775806) (k : Nat) (hk : a.length < k) : slices_Equal_int_int.f k a b = some (decide (a = b)) := by
  unfold slices_Equal_int_int.f
  by_cases hl : a.length = b.length
  · rw [if_pos (by omega), show (0 : Int) = ((0 : Nat) : Int) from rfl, eq_loop_int_int a b hl hm a.length k 0 (by omega) hk]
    simp
  · rw [if_neg (by omega)]
    have : a ≠ b := fun e => hl (by rw [e])
    simp [this]
theorem equal_self_int_int (a : List Int) (hm : a.length ≤ 9223372036854775806) (k : Nat) (hk : a.length < k) : slices_Equal_int_int.f k a a = some true := by
  rw [equal_f_int_int a a hm k hk]; simp

theorem eq_loop_byte_byte (a b : List Int) (hl : a.length = b.length) (hm : a.length ≤ 9223372036854775806) : ∀ d k i : Nat, i + d = a.length → d < k →
    slices_Equal_byte_byte.l0 k a b a.length i = some (decide (a.drop i = b.drop i)) := by
  intro d
  induction d with
  | zero =>
    intro k i hi hk
    obtain ⟨k, rfl⟩ : ∃ m, k = m + 1 := ⟨k - 1, by omega⟩
    simp only [slices_Equal_byte_byte.l0]
    rw [if_neg (by omega), List.drop_eq_nil_of_le (by omega), List.drop_eq_nil_of_le (by omega)]
    simp
  | succ d ih =>
    intro k i hi hk
    obtain ⟨k, rfl⟩ : ∃ m, k = m + 1 := ⟨k - 1, by omega⟩
    simp only [slices_Equal_byte_byte.l0]
    rw [if_pos (by omega), if_pos (by omega), if_pos (by omega), if_pos (by omega), rd_nat a i (by omega), rd_nat b i (by omega),
      List.drop_eq_getElem_cons (by omega : i < a.length), List.drop_eq_getElem_cons (by omega : i < b.length)]
    by_cases h : a[i]'(by omega) = b[i]'(by omega)
    · rw [if_pos h, w64 (by omega) (by omega)]
      have := ih k (i + 1) (by omega) (by omega)
      rw [Int.natCast_add] at this
      rw [show ((1 : Nat) : Int) = 1 from rfl] at this
      rw [this]
      congr 1
      rw [decide_eq_decide, List.cons.injEq]
      simp only [h, true_and]
    · rw [if_neg h]
      congr 1
      symm
      rw [decide_eq_false_iff_not, List.cons.injEq]
      exact fun e => h e.1
theorem equal_f_byte_byte (a b : List Int) (hm : a.length ≤ 9223372036854775806) (k : Nat) (hk : a.length < k) : slices_Equal_byte_byte.f k a b = some (decide (a = b)) := by
  unfold slices_Equal_byte_byte.f
  by_cases hl : a.length = b.length
  · rw [if_pos (by omega), show (0 : Int) = ((0 : Nat) : Int) from rfl, eq_loop_byte_byte a b hl hm a.length k 0 (by omega) hk]
    simp
  · rw [if_neg (by omega)]
    have : a ≠ b := fun e => hl (by rw [e])
    simp [this]
theorem equal_self_byte_byte (a : List Int) (hm : a.length ≤ 9223372036854775806) (k : Nat) (hk : a.length < k) : slices_Equal_byte_byte.f k a a = some true := by
  rw [equal_f_byte_byte a a hm k hk]; simp

def ill (c : Int) : Prop := 1114240 ≤ c ∧ c ≤ 1114367
def whole (c : Int) : Prop := 0 ≤ c ∧ c ≤ 1114111 ∧ ¬ (55296 ≤ c ∧ c ≤ 57343)
instance (a : Int) : Decidable (ill a) := by unfold ill; infer_instance
instance (a : Int) : Decidable (whole a) := by unfold whole; infer_instance
def tl (c : Int) : Int := if c < 128 then 0 else if c < 2048 then 1 else if c < 65536 then 2 else 3
def sz (c : Int) : Int := if ill c then 1 else if whole c then 1 + tl c else 0
def shOf (a : Int) : Int × Int × Int × Bool := if a ≥ 65536 then (65536, 240, 3, true) else if a ≥ 2048 then (2048, 224, 2, true) else if a ≥ 128 then (128, 192, 1, true) else (0, 0, 0, false)
def I64 (l : List Int) : Prop := ∀ x ∈ l, -9223372036854775808 ≤ x ∧ x ≤ 9223372036854775807
theorem I64.of {l : List Int} (h : ∀ x ∈ l, (Lit.int .i64 x).wf = true) : I64 l := fun x hx => wf64 (h x hx)
theorem shapeOf_4 (a : Int) : narrow_shapeOf.f 4 a = some (shOf a) := by
  unfold narrow_shapeOf.f narrow_shapes.f shOf
  rw [Option.bind_some]
  by_cases h1 : a ≥ 65536
  · have h2 : a ≥ 2048 := by omega
    have h3 : a ≥ 128 := by omega
    simp [narrow_shapeOf.l0, h1, h2, h3, wrap64]
  · by_cases h2 : a ≥ 2048
    · have h3 : a ≥ 128 := by omega
      simp [narrow_shapeOf.l0, h1, h2, h3, wrap64]
    · by_cases h3 : a ≥ 128
      · simp [narrow_shapeOf.l0, h1, h2, h3, wrap64]
      · simp [narrow_shapeOf.l0, h1, h2, h3, wrap64]
theorem shapeOf_f (a : Int) (k : Nat) (hk : 4 ≤ k) : narrow_shapeOf.f k a = some (shOf a) := at_rounds (fun k => narrow_shapeOf.mono a k) hk (shapeOf_4 a)
theorem shOf_tl (a : Int) : (shOf a).2.2.1 = tl a ∧ (shOf a).2.2.2 = decide (128 ≤ a) := by
  unfold shOf tl
  by_cases h1 : a ≥ 65536
  · rw [if_pos h1, if_neg (by omega), if_neg (by omega), if_neg (by omega)]; exact ⟨rfl, by simp; omega⟩
  · by_cases h2 : a ≥ 2048
    · rw [if_neg h1, if_pos h2, if_neg (by omega), if_neg (by omega), if_pos (by omega)]; exact ⟨rfl, by simp; omega⟩
    · by_cases h3 : a ≥ 128
      · rw [if_neg h1, if_neg h2, if_pos h3, if_neg (by omega), if_pos (by omega)]; exact ⟨rfl, by simp; omega⟩
      · rw [if_neg h1, if_neg h2, if_neg h3, if_pos (by omega)]; exact ⟨rfl, by simp; omega⟩
theorem whole_f (a : Int) (k : Nat) (hk : 1 ≤ k) : wide_Whole.f k a = some (decide (whole a)) := by
  obtain ⟨k, rfl⟩ : ∃ m, k = m + 1 := ⟨k - 1, by omega⟩
  unfold wide_Whole.f whole
  simp only [wide_Whole.j0]
  by_cases h0 : a < 0
  · rw [if_pos h0, if_pos (by simpa using h0)]; refine bsome ?_; simp; omega
  · rw [if_neg h0]
    by_cases h1 : a > 1114111
    · rw [if_pos (by simpa using h1)]; refine bsome ?_; simp; omega
    · rw [if_neg (by simpa using h1)]
      repeat' split
      all_goals refine bsome ?_
      all_goals simp only [true_iff, Bool.false_eq_true, false_iff]
      all_goals omega
theorem refwhole_f (a : Int) : naskhref01_Whole.f a = some (decide (whole a)) := by
  unfold naskhref01_Whole.f whole
  repeat' split
  all_goals refine bsome ?_
  all_goals simp only [decide_eq_true_eq, true_iff, Bool.false_eq_true, false_iff]
  all_goals omega
theorem ill_f (a : Int) (w0 : -9223372036854775808 ≤ a) (w1 : a ≤ 9223372036854775807) : narrow_ill.f a = some (if ill a then a - 1114112 else 0, decide (ill a)) := by
  unfold narrow_ill.f
  by_cases h : ill a
  · rw [if_pos h, decide_eq_true h]
    unfold ill at h
    rw [if_neg (by omega), w64 (by omega) (by omega), if_neg (by omega), if_neg (by omega)]
    congr 2
    omega
  · rw [if_neg h, decide_eq_false h]
    unfold ill at h
    by_cases h1 : a < 1114112
    · rw [if_pos h1]
    · rw [if_neg h1, w64 (by omega) (by omega)]
      by_cases h2 : a - 1114112 < 128
      · rw [if_pos h2]
      · rw [if_neg h2, if_pos (by omega)]
theorem size_f (a : Int) (w0 : -9223372036854775808 ≤ a) (w1 : a ≤ 9223372036854775807) (k : Nat) (hk : 4 ≤ k) : narrow_Size.f k a = some (sz a) := by
  unfold narrow_Size.f sz
  rw [ill_f a w0 w1, Option.bind_some, whole_f a k (by omega), Option.bind_some, shapeOf_f a k hk, Option.bind_some, (shOf_tl a).1, (shOf_tl a).2]
  by_cases h : ill a
  · rw [if_pos (by simpa using h), if_pos h]
  · rw [if_neg (by simpa using h), if_neg h]
    by_cases h2 : whole a
    · rw [if_pos (by simpa using h2), if_pos h2]
      unfold whole at h2
      have ht : 0 ≤ tl a ∧ tl a ≤ 3 := by unfold tl; repeat' split
                                          all_goals decide
      by_cases h3 : 128 ≤ a
      · rw [if_pos (by simpa using h3), w64 (by omega) (by omega)]
      · rw [if_neg (by simpa using h3)]; unfold tl; rw [if_pos (by omega)]; rfl
    · rw [if_neg (by simpa using h2), if_neg h2]
theorem refsize_f (a : Int) : naskhref02_Size.f a = some (sz a) := by
  unfold naskhref02_Size.f naskhref02_ill.f sz tl
  by_cases h : ill a
  · rw [if_pos h]
    unfold ill at h
    rw [if_pos (by omega), Option.bind_some, if_pos (by simp; omega)]
  · rw [if_neg h]
    have : (if a ≥ 1114240 then some (decide (a ≤ 1114367)) else some false) = some false := by
      unfold ill at h
      by_cases h2 : a ≥ 1114240
      · rw [if_pos h2]; simp; omega
      · rw [if_neg h2]
    rw [this, Option.bind_some, if_neg (by simp), refwhole_f, Option.bind_some]
    by_cases h2 : whole a
    · rw [if_pos (by simpa using h2), if_pos h2]
      repeat' split
      all_goals rfl
    · rw [if_neg (by simpa using h2), if_neg h2]

theorem wraps_i64' (n : Int) (h₀ : 0 ≤ n) (h₁ : n < 2 ^ 62) : IntKind.i64.wrap n = n := by rw [IntKind.wrap_i64]; omega
theorem and_mask (x : Int) (i : Nat) (hi : i ≤ 62) (h0 : 0 ≤ x) (h1 : x < 2 ^ 62) : Go.bits .and .i64 x (2 ^ i - 1) = x % 2 ^ i := bits_mask .i64 62 (by decide) wraps_i64' i hi x h0 h1

theorem or_join (x y : Int) (i : Nat) (hx0 : 0 ≤ x) (hx : x % 2 ^ i = 0) (hx1 : x < 2 ^ 62) (hy0 : 0 ≤ y) (hy : y < 2 ^ i) (hy1 : y < 2 ^ 62) : Go.bits .or .i64 x y = x + y :=
  bits_join .i64 62 (by decide) wraps_i64' i x y hx0 hx hx1 hy0 hy hy1
theorem andnot192 (b : Int) (h : b / 32 = 6) : Go.bits .andNot .i64 b 192 = b - 192 := by
  obtain ⟨n, rfl⟩ : ∃ n : Fin 32, b = 192 + (n.val : Int) := ⟨⟨(b - 192).toNat, by omega⟩, by simp; omega⟩
  revert n; decide +kernel
theorem andnot224 (b : Int) (h : b / 16 = 14) : Go.bits .andNot .i64 b 224 = b - 224 := by
  obtain ⟨n, rfl⟩ : ∃ n : Fin 16, b = 224 + (n.val : Int) := ⟨⟨(b - 224).toNat, by omega⟩, by simp; omega⟩
  revert n; decide +kernel
theorem andnot240 (b : Int) (h : b / 8 = 30) : Go.bits .andNot .i64 b 240 = b - 240 := by
  obtain ⟨n, rfl⟩ : ∃ n : Fin 8, b = 240 + (n.val : Int) := ⟨⟨(b - 240).toNat, by omega⟩, by simp; omega⟩
  revert n; decide +kernel
def Byt (l : List Int) : Prop := ∀ x ∈ l, 0 ≤ x ∧ x ≤ 255
theorem Byt.of {l : List Int} (h : ∀ x ∈ l, (Lit.int .u8 x).wf = true) : Byt l := fun x hx => by
  simpa [Lit.wf, IntKind.min, IntKind.max, IntKind.signed, IntKind.bits] using h x hx
theorem Byt.rdv {l : List Int} (h : Byt l) (i : Int) : 0 ≤ rd l i ∧ rd l i ≤ 255 := by
  unfold rd
  rw [List.getD_eq_getElem?_getD]
  cases hi : l[i.toNat]? with
  | none => simp
  | some x => exact h x (List.mem_of_getElem? hi)
theorem Byt.drop {l : List Int} (h : Byt l) (n : Nat) : Byt (l.drop n) := fun x hx => h x (List.mem_of_mem_drop hx)
theorem Byt.take {l : List Int} (h : Byt l) (n : Nat) : Byt (l.take n) := fun x hx => h x (List.mem_of_mem_take hx)
theorem rd_mid (l : List Int) (m i : Nat) (hi : i + 1 < m) : rd ((l.take m).drop 1) (i : Int) = rd l ((i + 1 : Nat) : Int) := by
  unfold rd
  rw [List.getD_eq_getElem?_getD, List.getD_eq_getElem?_getD, List.getElem?_drop, List.getElem?_take, Int.toNat_natCast, Int.toNat_natCast, if_pos (by omega), Nat.add_comm]
def c2 (l : List Int) : Int := (rd l 0 - 192) * 64 + rd l 1 % 64
def c3 (l : List Int) : Int := ((rd l 0 - 224) * 64 + rd l 1 % 64) * 64 + rd l 2 % 64
def c4 (l : List Int) : Int := (((rd l 0 - 240) * 64 + rd l 1 % 64) * 64 + rd l 2 % 64) * 64 + rd l 3 % 64
/-- The code of more than one byte with which bytes begin, if there is one. -/
def seqS (l : List Int) : Option Int :=
  if rd l 0 / 32 = 6 then (if 2 ≤ l.length ∧ rd l 1 / 64 = 2 ∧ 128 ≤ c2 l then some (c2 l) else none)
  else if rd l 0 / 16 = 14 then (if 3 ≤ l.length ∧ rd l 1 / 64 = 2 ∧ rd l 2 / 64 = 2 ∧ 2048 ≤ c3 l ∧ whole (c3 l) then some (c3 l) else none)
  else if rd l 0 / 8 = 30 then (if 4 ≤ l.length ∧ rd l 1 / 64 = 2 ∧ rd l 2 / 64 = 2 ∧ rd l 3 / 64 = 2 ∧ 65536 ≤ c4 l ∧ whole (c4 l) then some (c4 l) else none)
  else none
theorem begins_f (b : Int) : narrow_begins.f b = some (if b / 32 = 6 then (128, 192, 1, true) else if b / 16 = 14 then (2048, 224, 2, true) else if b / 8 = 30 then (65536, 240, 3, true) else (0, 0, 0, false)) := by
  unfold narrow_begins.f narrow_shapes.f
  repeat' split
  all_goals rfl
theorem seq_step (x39 : List Int) (hb : Byt x39) (hl : x39.length ≤ 10) (k : Nat) (x7 j f ld n : Int) (h0 : 0 ≤ j) (h1 : j < x39.length) (hx0 : 0 ≤ x7) (hx1 : x7 < 1000000000) :
    narrow_sequence.l0 (k + 1) x7 x39 x39.length j f ld n = if rd x39 j / 64 = 2 then narrow_sequence.l0 k (x7 * 64 + rd x39 j % 64) x39 x39.length (j + 1) f ld n else some (0, 0, false) := by
  have hr := hb.rdv j
  have hm := and_mask (rd x39 j) 6 (by omega) hr.1 (by omega)
  rw [show (2 : Int) ^ 6 - 1 = 63 by decide, show (2 : Int) ^ 6 = 64 by decide] at hm
  rw [narrow_sequence.l0, if_pos h1, if_pos h0, if_pos h1]
  by_cases h : rd x39 j / 64 = 2
  · rw [if_pos h, if_pos h, w64 (x := rd x39 j) (by omega) (by omega), hm, w64 (x := x7 * 64) (by omega) (by omega), w64 (x := j + 1) (by omega) (by omega),
      or_join (x7 * 64) (rd x39 j % 64) 6 (by omega) (by omega) (by omega) (by omega) (by omega) (by omega)]
  · rw [if_neg h, if_neg h]
theorem seq_end (x39 : List Int) (k : Nat) (x7 j f ld n : Int) (h1 : ¬ j < x39.length) (hk : 4 ≤ k) (hn0 : 0 ≤ n) (hn : n ≤ 3) :
    narrow_sequence.l0 (k + 1) x7 x39 x39.length j f ld n = some (if tl x7 = n ∧ whole x7 then (x7, 1 + n, true) else (0, 0, false)) := by
  rw [narrow_sequence.l0, if_neg h1, shapeOf_f x7 k hk, Option.bind_some, (shOf_tl x7).1, whole_f x7 k (by omega), Option.bind_some]
  by_cases h : tl x7 = n
  · rw [if_pos h]
    by_cases h2 : whole x7
    · rw [if_pos (by simpa using h2), if_pos ⟨h, h2⟩, w64 (by omega) (by omega)]
    · rw [if_neg (by simpa using h2), if_neg (fun h => h2 h.2)]
  · rw [if_neg h, if_neg (fun h2 => h h2.1)]
theorem mid_len (l : List Int) (m : Nat) (h : m ≤ l.length) : ((l.take m).drop 1).length = m - 1 := by rw [List.length_drop, List.length_take]; omega
theorem sz_tl (c n : Int) (h : tl c = n) (hw : whole c) : sz c = 1 + n := by
  unfold sz
  rw [if_neg (by unfold whole at hw; unfold ill; omega), if_pos hw, h]
theorem tl2 (c : Int) (h : c < 2048) : tl c = 1 ↔ 128 ≤ c := by
  unfold tl
  repeat' split
  all_goals omega
theorem tl3 (c : Int) (h : c < 65536) : tl c = 2 ↔ 2048 ≤ c := by
  unfold tl
  repeat' split
  all_goals omega
theorem tl4 (c : Int) : tl c = 3 ↔ 65536 ≤ c := by
  unfold tl
  repeat' split
  all_goals omega
theorem sequence_f (l : List Int) (hB : Byt l) (h0 : 0 < l.length) (k : Nat) (hk : 20 ≤ k) : narrow_sequence.f k l = some (match seqS l with | some c => (c, sz c, true) | none => (0, 0, false)) := by
  obtain ⟨k, rfl⟩ : ∃ m, k = m + 20 := ⟨k - 20, by omega⟩
  have r0 := hB.rdv 0
  have r1 := hB.rdv 1
  have r2 := hB.rdv 2
  have r3 := hB.rdv 3
  have step := fun m => seq_step ((l.take m).drop 1) ((hB.take m).drop 1)
  unfold narrow_sequence.f seqS
  rw [if_pos (by omega), begins_f, Option.bind_some]
  by_cases g1 : rd l 0 / 32 = 6
  · rw [if_pos g1, if_pos g1]
    simp only [if_true]
    rw [narrow_sequence.j0]
    by_cases hl : (l.length : Int) ≤ 1
    · rw [if_pos (by simpa using hl), if_neg (fun h => by omega)]
    · rw [if_neg (by simpa using hl), if_pos (by omega), w64 (x := 1 + 1) (by omega) (by omega), if_pos (by omega), if_pos (by omega), w64 (x := rd l 0) (by omega) (by omega), andnot192 _ g1]
      have hlen := mid_len l 2 (by omega)
      have e1 := rd_mid l 2 0 (by omega)
      simp only [show ((1 : Int) + 1).toNat = 2 from rfl]
      rw [step 2 (by omega) _ _ 0 _ _ _ (by omega) (by omega) (by omega) (by omega)]
      simp only [Int.natCast_zero, Nat.zero_add, Int.natCast_one] at e1
      rw [e1]
      by_cases q1 : rd l 1 / 64 = 2
      · rw [if_pos q1, seq_end _ _ _ _ _ _ _ (by omega) (by omega) (by omega) (by omega)]
        have hc : (rd l 0 - 192) * 64 + rd l 1 % 64 = c2 l := rfl
        rw [hc]
        have hlt : 0 ≤ c2 l ∧ c2 l < 2048 := by unfold c2; omega
        have ht := tl2 (c2 l) hlt.2
        have hw : whole (c2 l) := by unfold whole; omega
        by_cases q2 : 128 ≤ c2 l
        · rw [if_pos ⟨ht.2 q2, hw⟩, if_pos ⟨by omega, q1, q2⟩]
          show _ = some (c2 l, sz (c2 l), true)
          rw [sz_tl _ 1 (ht.2 q2) hw]
        · rw [if_neg (fun h => q2 (ht.1 h.1)), if_neg (fun h => q2 h.2.2)]
      · rw [if_neg q1, if_neg (fun h => q1 h.2.1)]
  · rw [if_neg g1, if_neg g1]
    by_cases g2 : rd l 0 / 16 = 14
    · rw [if_pos g2, if_pos g2]
      simp only [if_true]
      rw [narrow_sequence.j0]
      by_cases hl : (l.length : Int) ≤ 2
      · rw [if_pos (by simpa using hl), if_neg (fun h => by omega)]
      · rw [if_neg (by simpa using hl), if_pos (by omega), w64 (x := 1 + 2) (by omega) (by omega), if_pos (by omega), if_pos (by omega), w64 (x := rd l 0) (by omega) (by omega), andnot224 _ g2]
        have hlen := mid_len l 3 (by omega)
        have e1 := rd_mid l 3 0 (by omega)
        have e2 := rd_mid l 3 1 (by omega)
        simp only [show ((1 : Int) + 2).toNat = 3 from rfl]
        rw [step 3 (by omega) _ _ 0 _ _ _ (by omega) (by omega) (by omega) (by omega)]
        simp only [Int.natCast_zero, Nat.zero_add, Int.natCast_one] at e1 e2
        rw [e1]
        by_cases q1 : rd l 1 / 64 = 2
        · rw [if_pos q1, step 3 (by omega) _ _ (0 + 1) _ _ _ (by omega) (by omega) (by omega) (by omega), show ((0 : Int) + 1) = 1 from rfl, e2, show (((1 + 1 : Nat)) : Int) = 2 from rfl]
          by_cases q2 : rd l 2 / 64 = 2
          · rw [if_pos q2, seq_end _ _ _ _ _ _ _ (by omega) (by omega) (by omega) (by omega)]
            have hc : ((rd l 0 - 224) * 64 + rd l 1 % 64) * 64 + rd l 2 % 64 = c3 l := rfl
            rw [hc]
            have hlt : 0 ≤ c3 l ∧ c3 l < 65536 := by unfold c3; omega
            have ht := tl3 (c3 l) hlt.2
            by_cases q3 : 2048 ≤ c3 l ∧ whole (c3 l)
            · rw [if_pos ⟨ht.2 q3.1, q3.2⟩, if_pos ⟨by omega, q1, q2, q3.1, q3.2⟩]
              show _ = some (c3 l, sz (c3 l), true)
              rw [sz_tl _ 2 (ht.2 q3.1) q3.2]
            · rw [if_neg (fun h => q3 ⟨ht.1 h.1, h.2⟩), if_neg (fun h => q3 ⟨h.2.2.2.1, h.2.2.2.2⟩)]
          · rw [if_neg q2, if_neg (fun h => q2 h.2.2.1)]
        · rw [if_neg q1, if_neg (fun h => q1 h.2.1)]
    · rw [if_neg g2, if_neg g2]
      by_cases g3 : rd l 0 / 8 = 30
      · rw [if_pos g3, if_pos g3]
        simp only [if_true]
        rw [narrow_sequence.j0]
        by_cases hl : (l.length : Int) ≤ 3
        · rw [if_pos (by simpa using hl), if_neg (fun h => by omega)]
        · rw [if_neg (by simpa using hl), if_pos (by omega), w64 (x := 1 + 3) (by omega) (by omega), if_pos (by omega), if_pos (by omega), w64 (x := rd l 0) (by omega) (by omega), andnot240 _ g3]
          have hlen := mid_len l 4 (by omega)
          have e1 := rd_mid l 4 0 (by omega)
          have e2 := rd_mid l 4 1 (by omega)
          have e3 := rd_mid l 4 2 (by omega)
          simp only [show ((1 : Int) + 3).toNat = 4 from rfl]
          rw [step 4 (by omega) _ _ 0 _ _ _ (by omega) (by omega) (by omega) (by omega)]
          simp only [Int.natCast_zero, Nat.zero_add, Int.natCast_one] at e1 e2
          rw [e1]
          by_cases q1 : rd l 1 / 64 = 2
          · rw [if_pos q1, step 4 (by omega) _ _ (0 + 1) _ _ _ (by omega) (by omega) (by omega) (by omega), show ((0 : Int) + 1) = 1 from rfl, e2, show (((1 + 1 : Nat)) : Int) = 2 from rfl]
            by_cases q2 : rd l 2 / 64 = 2
            · rw [if_pos q2, step 4 (by omega) _ _ (1 + 1) _ _ _ (by omega) (by omega) (by omega) (by omega), show ((1 : Int) + 1) = ((2 : Nat) : Int) from rfl, e3, show (((2 + 1 : Nat)) : Int) = 3 from rfl]
              by_cases q4 : rd l 3 / 64 = 2
              · rw [if_pos q4, seq_end _ _ _ _ _ _ _ (by omega) (by omega) (by omega) (by omega)]
                have hc : (((rd l 0 - 240) * 64 + rd l 1 % 64) * 64 + rd l 2 % 64) * 64 + rd l 3 % 64 = c4 l := rfl
                rw [hc]
                have ht := tl4 (c4 l)
                by_cases q3 : 65536 ≤ c4 l ∧ whole (c4 l)
                · rw [if_pos ⟨ht.2 q3.1, q3.2⟩, if_pos ⟨by omega, q1, q2, q4, q3.1, q3.2⟩]
                  show _ = some (c4 l, sz (c4 l), true)
                  rw [sz_tl _ 3 (ht.2 q3.1) q3.2]
                · rw [if_neg (fun h => q3 ⟨ht.1 h.1, h.2⟩), if_neg (fun h => q3 ⟨h.2.2.2.2.1, h.2.2.2.2.2⟩)]
              · rw [if_neg q4, if_neg (fun h => q4 h.2.2.2.1)]
            · rw [if_neg q2, if_neg (fun h => q2 h.2.2.1)]
          · rw [if_neg q1, if_neg (fun h => q1 h.2.1)]
      · rw [if_neg g3, if_neg g3]
        simp only [Bool.false_eq_true, if_false]
        rw [narrow_sequence.j0, if_pos rfl]
/-- The code with which bytes begin. -/
def nx (l : List Int) : Int := match seqS l with | some c => c | none => if rd l 0 < 128 then rd l 0 else 1114112 + rd l 0
def decF : Nat → List Int → List Int
  | 0, _ => []
  | n + 1, l => if l = [] then [] else nx l :: decF n (l.drop (sz (nx l)).toNat)
theorem seqS_some (l : List Int) (c : Int) (hB : Byt l) (h : seqS l = some c) : 128 ≤ c ∧ whole c ∧ sz c ≤ l.length ∧ 2 ≤ sz c ∧ sz c ≤ 4 := by
  have r0 := hB.rdv 0
  have r1 := hB.rdv 1
  have r2 := hB.rdv 2
  have r3 := hB.rdv 3
  unfold seqS at h
  by_cases g1 : rd l 0 / 32 = 6
  · rw [if_pos g1] at h
    by_cases q : 2 ≤ l.length ∧ rd l 1 / 64 = 2 ∧ 128 ≤ c2 l
    · rw [if_pos q] at h
      obtain rfl := Option.some.inj h
      have hlt : 0 ≤ c2 l ∧ c2 l < 2048 := by unfold c2; omega
      have hw : whole (c2 l) := by unfold whole; omega
      rw [sz_tl _ 1 ((tl2 _ hlt.2).2 q.2.2) hw]
      exact ⟨q.2.2, hw, by omega, by omega, by omega⟩
    · rw [if_neg q] at h; cases h
  · rw [if_neg g1] at h
    by_cases g2 : rd l 0 / 16 = 14
    · rw [if_pos g2] at h
      by_cases q : 3 ≤ l.length ∧ rd l 1 / 64 = 2 ∧ rd l 2 / 64 = 2 ∧ 2048 ≤ c3 l ∧ whole (c3 l)
      · rw [if_pos q] at h
        obtain rfl := Option.some.inj h
        have hlt : 0 ≤ c3 l ∧ c3 l < 65536 := by unfold c3; omega
        rw [sz_tl _ 2 ((tl3 _ hlt.2).2 q.2.2.2.1) q.2.2.2.2]
        exact ⟨by omega, q.2.2.2.2, by omega, by omega, by omega⟩
      · rw [if_neg q] at h; cases h
    · rw [if_neg g2] at h
      by_cases g3 : rd l 0 / 8 = 30
      · rw [if_pos g3] at h
        by_cases q : 4 ≤ l.length ∧ rd l 1 / 64 = 2 ∧ rd l 2 / 64 = 2 ∧ rd l 3 / 64 = 2 ∧ 65536 ≤ c4 l ∧ whole (c4 l)
        · rw [if_pos q] at h
          obtain rfl := Option.some.inj h
          rw [sz_tl _ 3 ((tl4 _).2 q.2.2.2.2.1) q.2.2.2.2.2]
          exact ⟨by omega, q.2.2.2.2.2, by omega, by omega, by omega⟩
        · rw [if_neg q] at h; cases h
      · rw [if_neg g3] at h; cases h
theorem seqS_low (l : List Int) (h : rd l 0 < 128) (h0 : 0 ≤ rd l 0) : seqS l = none := by
  unfold seqS
  rw [if_neg (by omega), if_neg (by omega), if_neg (by omega)]
theorem sz_one (b : Int) (h0 : 0 ≤ b) (h1 : b ≤ 255) : sz (if b < 128 then b else 1114112 + b) = 1 := by
  unfold sz
  by_cases h : b < 128
  · rw [if_pos h, if_neg (by unfold ill; omega), if_pos (by unfold whole; omega)]; unfold tl; rw [if_pos h]; rfl
  · rw [if_neg h, if_pos (by unfold ill; omega)]
theorem decode_loop : ∀ (n : Nat) (l out : List Int) (k : Nat), l.length ≤ n → Byt l → out.length + l.length ≤ 1000000 → n + 22 ≤ k → narrow_Decode.l0 k l out = some (out ++ decF n l) := by
  intro n
  induction n with
  | zero =>
    intro l out k hn hB hl hk
    obtain ⟨k, rfl⟩ : ∃ m, k = m + 1 := ⟨k - 1, by omega⟩
    obtain rfl : l = [] := List.eq_nil_of_length_eq_zero (by omega)
    rw [narrow_Decode.l0, if_neg (by simp)]; simp [decF]
  | succ n ih =>
    intro l out k hn hB hl hk
    obtain ⟨k, rfl⟩ : ∃ m, k = m + 1 := ⟨k - 1, by omega⟩
    by_cases he : l = []
    · subst he
      rw [narrow_Decode.l0, if_neg (by simp), decF, if_pos rfl, List.append_nil]
    · have hpos : 0 < l.length := List.length_pos_iff.2 he
      have r0 := hB.rdv 0
      rw [narrow_Decode.l0, if_pos (by omega), sequence_f l hB hpos k (by omega), Option.bind_some, decF, if_neg he]
      unfold nx
      cases hs : seqS l with
      | some c =>
        have hc := seqS_some l c hB hs
        simp only [if_true]
        have := ih (l.drop (sz c).toNat) (out ++ [c]) k (by rw [List.length_drop]; omega) (hB.drop _) (by rw [List.length_drop]; simp; omega) (by omega)
        rw [if_pos (by omega), if_pos (by omega), if_pos (by omega), this]
        simp
      | none =>
        simp only [Bool.false_eq_true, if_false]
        have h1 := sz_one (rd l 0) r0.1 r0.2
        rw [if_pos (by omega), w64 (x := rd l 0) (by omega) (by omega), h1]
        by_cases hb : rd l 0 < 128
        · have := ih (l.drop 1) (out ++ [rd l 0]) k (by rw [List.length_drop]; omega) (hB.drop _) (by rw [List.length_drop]; simp; omega) (by omega)
          rw [if_pos hb, if_pos hb, if_pos (by omega), if_pos (by omega), this]
          simp
        · have := ih (l.drop 1) (out ++ [1114112 + rd l 0]) k (by rw [List.length_drop]; omega) (hB.drop _) (by rw [List.length_drop]; simp; omega) (by omega)
          rw [if_neg hb, if_neg hb, if_pos (by omega), if_pos (by omega), w64 (x := 1114112 + rd l 0) (by omega) (by omega), this]
          simp
theorem decode_f (l : List Int) (hB : Byt l) (hl : l.length ≤ 1000000) (k : Nat) (hk : l.length + 22 ≤ k) : narrow_Decode.f k l = some (decF l.length l) := by
  unfold narrow_Decode.f
  rw [decode_loop l.length l [] k (Nat.le_refl _) hB (by simpa using hl) hk]; rfl
theorem decF_len : ∀ (n : Nat) (l : List Int), (decF n l).length ≤ n
  | 0, _ => by simp [decF]
  | n + 1, l => by
    rw [decF]
    split
    · simp
    · have := decF_len n (l.drop (sz (nx l)).toNat)
      simp; omega

/-- The bytes of a code. -/
def en (c : Int) : List Int :=
  if ill c then [c - 1114112] else if c < 128 then [c] else if c < 2048 then [192 + c / 64, 128 + c % 64]
  else if c < 65536 then [224 + c / 4096, 128 + c / 64 % 64, 128 + c % 64] else [240 + c / 262144, 128 + c / 4096 % 64, 128 + c / 64 % 64, 128 + c % 64]
theorem sz_pos (c : Int) (h : sz c ≠ 0) : ill c ∨ whole c := by
  unfold sz at h
  by_cases h1 : ill c
  · exact .inl h1
  · by_cases h2 : whole c
    · exact .inr h2
    · rw [if_neg h1, if_neg h2] at h; exact absurd rfl h
theorem en_len (c : Int) (h : sz c ≠ 0) : ((en c).length : Int) = sz c := by
  have hp := sz_pos c h
  unfold en sz tl
  by_cases h1 : ill c
  · rw [if_pos h1, if_pos h1]; rfl
  · have hw : whole c := hp.resolve_left h1
    rw [if_neg h1, if_neg h1, if_pos hw]
    by_cases g1 : c < 128
    · rw [if_pos g1, if_pos g1]; rfl
    · by_cases g2 : c < 2048
      · rw [if_neg g1, if_pos g2, if_neg g1, if_pos g2]; rfl
      · by_cases g3 : c < 65536
        · rw [if_neg g1, if_neg g2, if_pos g3, if_neg g1, if_neg g2, if_pos g3]; rfl
        · rw [if_neg g1, if_neg g2, if_neg g3, if_neg g1, if_neg g2, if_neg g3]; rfl
theorem one_f (c : Int) : naskhref02_one.f c = some (if sz c = 0 then [] else en c) := by
  unfold naskhref02_one.f
  rw [refsize_f, Option.bind_some]
  by_cases h0 : sz c = 0
  · rw [if_pos h0, if_pos h0]
  · have hp := sz_pos c h0
    have hb : 0 ≤ c ∧ c ≤ 1114367 := by unfold ill whole at hp; omega
    rw [if_neg h0, if_neg h0, Int.tmod_eq_emod_of_nonneg (by omega), Int.tmod_eq_emod_of_nonneg (by omega), Int.tdiv_eq_ediv_of_nonneg (by omega), Int.tdiv_eq_ediv_of_nonneg (by omega), Int.tdiv_eq_ediv_of_nonneg (by omega),
      w64 (x := c / 64) (by omega) (by omega), w64 (x := c / 4096) (by omega) (by omega), w64 (x := c / 262144) (by omega) (by omega),
      Int.tmod_eq_emod_of_nonneg (by omega), Int.tmod_eq_emod_of_nonneg (by omega),
      w64 (x := 192 + c / 64) (by omega) (by omega), w64 (x := 128 + c % 64) (by omega) (by omega), w64 (x := 224 + c / 4096) (by omega) (by omega), w64 (x := 128 + c / 64 % 64) (by omega) (by omega), w64 (x := 240 + c / 262144) (by omega) (by omega), w64 (x := 128 + c / 4096 % 64) (by omega) (by omega)]
    unfold en sz tl
    by_cases h1 : ill c
    · have h1' := h1
      unfold ill at h1'
      rw [if_pos h1, if_pos rfl, if_pos h1]
      rw [show c % 256 % 256 = c - 1114112 by omega]
    · have hw : whole c := hp.resolve_left h1
      rw [if_neg h1, if_pos hw, if_neg h1]
      unfold whole at hw
      by_cases g1 : c < 128
      · rw [if_pos g1, if_pos (by omega), if_pos g1, show c % 256 % 256 = c by omega]
      · by_cases g2 : c < 2048
        · rw [if_neg g1, if_pos g2, if_neg (by omega), if_pos (by omega), if_neg g1, if_pos g2, show (192 + c / 64) % 256 = 192 + c / 64 by omega, show (128 + c % 64) % 256 = 128 + c % 64 by omega]
        · by_cases g3 : c < 65536
          · rw [if_neg g1, if_neg g2, if_pos g3, if_neg (by omega), if_neg (by omega), if_pos (by omega), if_neg g1, if_neg g2, if_pos g3, show (224 + c / 4096) % 256 = 224 + c / 4096 by omega, show (128 + c / 64 % 64) % 256 = 128 + c / 64 % 64 by omega, show (128 + c % 64) % 256 = 128 + c % 64 by omega]
          · rw [if_neg g1, if_neg g2, if_neg g3, if_neg (by omega), if_neg (by omega), if_neg (by omega), if_neg g1, if_neg g2, if_neg g3, show (240 + c / 262144) % 256 = 240 + c / 262144 by omega, show (128 + c / 4096 % 64) % 256 = 128 + c / 4096 % 64 by omega, show (128 + c / 64 % 64) % 256 = 128 + c / 64 % 64 by omega, show (128 + c % 64) % 256 = 128 + c % 64 by omega]
theorem str_inj (a b : List Int) (ha : Byt a) (hb : Byt b) : (strOfNums a).toList = (strOfNums b).toList ↔ a = b := by
  rw [Go.ByteArray.toList_eq, Go.ByteArray.toList_eq, strOfNums_data, strOfNums_data]
  constructor
  · intro h
    have := congrArg (List.map fun u : UInt8 => (u.toNat : Int)) h
    rw [List.map_map, List.map_map] at this
    have e : ∀ l : List Int, Byt l → List.map ((fun u : UInt8 => (u.toNat : Int)) ∘ fun n => UInt8.ofNat n.toNat) l = l := by
      intro l hl
      induction l with
      | nil => rfl
      | cons x l ih =>
        have hx := hl x (by simp)
        rw [List.map_cons, ih (fun y hy => hl y (List.mem_cons_of_mem _ hy))]
        congr 1
        simp; omega
    rw [e a ha, e b hb] at this
    exact this
  · intro h; rw [h]
theorem en_byt (c : Int) (h : sz c ≠ 0) : Byt (en c) := by
  have hp := sz_pos c h
  intro x hx
  unfold en at hx
  unfold ill whole at hp
  by_cases h1 : ill c
  · rw [if_pos h1] at hx; unfold ill at h1; simp at hx; omega
  · have hw := h1
    unfold ill at hw
    rw [if_neg h1] at hx
    repeat' split at hx
    all_goals simp at hx
    all_goals omega
theorem j3_f (l : List Int) (hB : Byt l) (c : Int) (k : Nat) : naskhref02_first.j3 (k + 1) l c = some (if 128 ≤ c ∧ whole c ∧ sz c ≤ l.length ∧ l.take (sz c).toNat = en c then c else -1) := by
  rw [naskhref02_first.j3, one_f, Option.bind_some]
  by_cases h1 : c < 128
  · rw [if_pos h1, if_neg (fun h => by omega)]
  · rw [if_neg h1, refwhole_f, Option.bind_some]
    by_cases h2 : whole c
    · have h0 : sz c ≠ 0 := by
        unfold sz
        rw [if_neg (by unfold whole at h2; unfold ill; omega), if_pos h2]
        unfold tl; repeat' split
        all_goals decide
      have hl := en_len c h0
      rw [if_pos (by simpa using h2), if_neg h0]
      by_cases h3 : ((en c).length : Int) > (l.length : Int)
      · rw [if_pos h3, if_neg (fun h => by omega)]
      · rw [if_neg h3, if_pos (by omega), if_pos (by omega)]
        have he := str_inj (en c) (l.take ((en c).length : Int).toNat) (en_byt c h0) (hB.take _)
        have hz : ((en c).length : Int).toNat = (sz c).toNat := by rw [hl]
        rw [hz] at he ⊢
        by_cases h4 : en c = l.take (sz c).toNat
        · rw [if_pos (he.2 h4), if_pos ⟨by omega, h2, by omega, h4.symm⟩]
        · rw [if_neg (fun h => h4 (he.1 h)), if_neg (fun h => h4 h.2.2.2.symm)]
    · rw [if_neg (by simpa using h2), if_neg (fun h => h2 h.2.1)]
theorem low_f (l : List Int) (hB : Byt l) (i : Nat) : naskhref02_low.f l (i : Int) = some (rd l i % 64) := by
  have r := hB.rdv i
  unfold naskhref02_low.f
  by_cases h : (i : Int) ≥ l.length
  · rw [if_pos h]
    have : rd l (i : Int) = 0 := by unfold rd; rw [List.getD_eq_getElem?_getD, List.getElem?_eq_none (by simp; omega)]; rfl
    rw [this]; rfl
  · rw [if_neg h, if_pos (by omega), if_pos (by omega), w64 (by omega) (by omega), Int.tmod_eq_emod_of_nonneg (by omega)]
theorem take2 (l : List Int) (h : 2 ≤ l.length) : l.take 2 = [rd l 0, rd l 1] := by
  match l, h with
  | a :: b :: t, _ => rfl
theorem take3 (l : List Int) (h : 3 ≤ l.length) : l.take 3 = [rd l 0, rd l 1, rd l 2] := by
  match l, h with
  | a :: b :: c :: t, _ => rfl
theorem take4 (l : List Int) (h : 4 ≤ l.length) : l.take 4 = [rd l 0, rd l 1, rd l 2, rd l 3] := by
  match l, h with
  | a :: b :: c :: d :: t, _ => rfl
/-- What is told of a prefix: a code's bytes stand there just where they are told so one by one. -/
theorem pre2 (l : List Int) (hB : Byt l) (g : rd l 0 / 32 = 6) : (128 ≤ c2 l ∧ whole (c2 l) ∧ sz (c2 l) ≤ l.length ∧ l.take (sz (c2 l)).toNat = en (c2 l)) ↔ (2 ≤ l.length ∧ rd l 1 / 64 = 2 ∧ 128 ≤ c2 l) := by
  have r0 := hB.rdv 0
  have r1 := hB.rdv 1
  have hlt : 0 ≤ c2 l ∧ c2 l < 2048 := by unfold c2; omega
  have hw : whole (c2 l) := by unfold whole; omega
  by_cases h : 128 ≤ c2 l
  · have hs := sz_tl _ 1 ((tl2 _ hlt.2).2 h) hw
    have he : en (c2 l) = [192 + c2 l / 64, 128 + c2 l % 64] := by
      unfold en; rw [if_neg (by unfold ill; omega), if_neg (by omega), if_pos hlt.2]
    rw [hs, he, show ((1 : Int) + 1).toNat = 2 from rfl]
    constructor
    · rintro ⟨_, _, h1, h2⟩
      rw [take2 l (by omega)] at h2
      simp only [List.cons.injEq, and_true] at h2
      refine ⟨by omega, ?_, h⟩
      have := h2.2
      unfold c2 at this
      omega
    · rintro ⟨h1, h2, _⟩
      refine ⟨h, hw, by omega, ?_⟩
      rw [take2 l h1]
      simp only [List.cons.injEq, and_true]
      unfold c2
      omega
  · constructor
    · intro hh; exact absurd hh.1 h
    · intro hh; exact absurd hh.2.2 h
theorem pre3 (l : List Int) (hB : Byt l) (g : rd l 0 / 16 = 14) : (128 ≤ c3 l ∧ whole (c3 l) ∧ sz (c3 l) ≤ l.length ∧ l.take (sz (c3 l)).toNat = en (c3 l)) ↔ (3 ≤ l.length ∧ rd l 1 / 64 = 2 ∧ rd l 2 / 64 = 2 ∧ 2048 ≤ c3 l ∧ whole (c3 l)) := by
  have r0 := hB.rdv 0
  have r1 := hB.rdv 1
  have r2 := hB.rdv 2
  have hlt : 0 ≤ c3 l ∧ c3 l < 65536 := by unfold c3; omega
  by_cases hw : whole (c3 l)
  · by_cases h : 2048 ≤ c3 l
    · have hs := sz_tl _ 2 ((tl3 _ hlt.2).2 h) hw
      have he : en (c3 l) = [224 + c3 l / 4096, 128 + c3 l / 64 % 64, 128 + c3 l % 64] := by
        unfold en; rw [if_neg (by unfold ill; omega), if_neg (by omega), if_neg (by omega), if_pos hlt.2]
      rw [hs, he, show ((1 : Int) + 2).toNat = 3 from rfl]
      constructor
      · rintro ⟨_, _, h1, h2⟩
        rw [take3 l (by omega)] at h2
        simp only [List.cons.injEq, and_true] at h2
        have h3 := h2.2.1
        have h4 := h2.2.2
        unfold c3 at h3 h4
        exact ⟨by omega, by omega, by omega, h, hw⟩
      · rintro ⟨h1, h2, h3, _⟩
        refine ⟨by omega, hw, by omega, ?_⟩
        rw [take3 l h1]
        simp only [List.cons.injEq, and_true]
        unfold c3
        omega
    · constructor
      · rintro ⟨h0, _, h1, h2⟩
        exfalso
        by_cases h5 : c3 l < 2048
        · have hs := sz_tl _ 1 ((tl2 _ h5).2 h0) hw
          have he : en (c3 l) = [192 + c3 l / 64, 128 + c3 l % 64] := by
            unfold en; rw [if_neg (by unfold ill; omega), if_neg (by omega), if_pos h5]
          rw [hs, show ((1 : Int) + 1).toNat = 2 from rfl, he, take2 l (by omega)] at h2
          simp only [List.cons.injEq, and_true] at h2
          omega
        · omega
      · intro hh; exact absurd hh.2.2.2.1 h
  · constructor
    · intro hh; exact absurd hh.2.1 hw
    · intro hh; exact absurd hh.2.2.2.2 hw
theorem pre4 (l : List Int) (hB : Byt l) (g : rd l 0 / 8 = 30) : (128 ≤ c4 l ∧ whole (c4 l) ∧ sz (c4 l) ≤ l.length ∧ l.take (sz (c4 l)).toNat = en (c4 l)) ↔ (4 ≤ l.length ∧ rd l 1 / 64 = 2 ∧ rd l 2 / 64 = 2 ∧ rd l 3 / 64 = 2 ∧ 65536 ≤ c4 l ∧ whole (c4 l)) := by
  have r0 := hB.rdv 0
  have r1 := hB.rdv 1
  have r2 := hB.rdv 2
  have r3 := hB.rdv 3
  by_cases hw : whole (c4 l)
  · have hb : 0 ≤ c4 l ∧ c4 l ≤ 1114111 := by unfold whole at hw; omega
    by_cases h : 65536 ≤ c4 l
    · have hs := sz_tl _ 3 ((tl4 _).2 h) hw
      have he : en (c4 l) = [240 + c4 l / 262144, 128 + c4 l / 4096 % 64, 128 + c4 l / 64 % 64, 128 + c4 l % 64] := by
        unfold en; rw [if_neg (by unfold ill; omega), if_neg (by omega), if_neg (by omega), if_neg (by omega)]
      rw [hs, he, show ((1 : Int) + 3).toNat = 4 from rfl]
      constructor
      · rintro ⟨_, _, h1, h2⟩
        rw [take4 l (by omega)] at h2
        simp only [List.cons.injEq, and_true] at h2
        have h3 := h2.2.1
        have h4 := h2.2.2.1
        have h5 := h2.2.2.2
        unfold c4 at h3 h4 h5
        exact ⟨by omega, by omega, by omega, by omega, h, hw⟩
      · rintro ⟨h1, h2, h3, h4, _⟩
        refine ⟨by omega, hw, by omega, ?_⟩
        rw [take4 l h1]
        simp only [List.cons.injEq, and_true]
        unfold c4
        omega
    · constructor
      · rintro ⟨h0, _, h1, h2⟩
        exfalso
        have hne : sz (c4 l) ≠ 0 := by
          unfold sz; rw [if_neg (by unfold ill; omega), if_pos hw]; unfold tl; repeat' split
          all_goals decide
        have hl := en_len (c4 l) hne
        have hx : (l.take (sz (c4 l)).toNat)[0]? = some (rd l 0) := by
          have h3 : 0 < l.length := by
            have : 1 ≤ sz (c4 l) := by
              unfold sz; rw [if_neg (by unfold ill; omega), if_pos hw]; unfold tl; repeat' split
              all_goals decide
            omega
          have h4 : 0 < (sz (c4 l)).toNat := by
            unfold sz; rw [if_neg (by unfold ill; omega), if_pos hw]; unfold tl; repeat' split
            all_goals decide
          rw [List.getElem?_take, if_pos h4]
          cases l with
          | nil => simp at h3
          | cons a t => rfl
        rw [h2] at hx
        unfold en at hx
        rw [if_neg (by unfold ill; omega), if_neg (by omega)] at hx
        by_cases h5 : c4 l < 2048
        · rw [if_pos h5] at hx; simp at hx; omega
        · rw [if_neg h5, if_pos (by omega)] at hx; simp at hx; omega
      · intro hh; exact absurd hh.2.2.2.2.1 h
  · constructor
    · intro hh; exact absurd hh.2.1 hw
    · intro hh; exact absurd hh.2.2.2.2.2 hw
theorem first_f (l : List Int) (hB : Byt l) (h0 : 0 < l.length) (k : Nat) (hk : 6 ≤ k) : naskhref02_first.f k l = some (match seqS l with | some c => c | none => -1) := by
  obtain ⟨k, rfl⟩ : ∃ m, k = m + 6 := ⟨k - 6, by omega⟩
  have r0 := hB.rdv 0
  have r1 := hB.rdv 1
  have r2 := hB.rdv 2
  have r3 := hB.rdv 3
  have l1 := low_f l hB 1
  have l2 := low_f l hB 2
  have l3 := low_f l hB 3
  simp only [Int.natCast_one, show ((2 : Nat) : Int) = 2 from rfl, show ((3 : Nat) : Int) = 3 from rfl] at l1 l2 l3
  have neg : ∀ k, naskhref02_first.j3 (k + 1) l (-1) = some (-1) := fun k => by rw [j3_f l hB, if_neg (fun h => by omega)]
  unfold naskhref02_first.f seqS
  rw [if_pos (by omega)]
  by_cases g1 : rd l 0 / 32 = 6
  · have e : (rd l 0 - 192) % 256 * 64 + rd l 1 % 64 = c2 l := by unfold c2; omega
    rw [if_pos (by omega), decide_eq_true (by omega : rd l 0 < 224), naskhref02_first.j0, if_pos rfl, if_pos (by omega), l1, Option.bind_some, if_pos g1, e, w64 (by unfold c2; omega) (by unfold c2; omega), j3_f l hB]
    have hp := pre2 l hB g1
    by_cases h : 2 ≤ l.length ∧ rd l 1 / 64 = 2 ∧ 128 ≤ c2 l
    · rw [if_pos (hp.2 h), if_pos h]
    · rw [if_neg (fun hh => h (hp.1 hh)), if_neg h]
  · rw [if_neg g1]
    have to0 : ∀ b : Bool, b = false → naskhref02_first.j0 (k + 6) l (-1) b = some (match (if rd l 0 / 16 = 14 then (if 3 ≤ l.length ∧ rd l 1 / 64 = 2 ∧ rd l 2 / 64 = 2 ∧ 2048 ≤ c3 l ∧ whole (c3 l) then some (c3 l) else none) else if rd l 0 / 8 = 30 then (if 4 ≤ l.length ∧ rd l 1 / 64 = 2 ∧ rd l 2 / 64 = 2 ∧ rd l 3 / 64 = 2 ∧ 65536 ≤ c4 l ∧ whole (c4 l) then some (c4 l) else none) else none) with | some c => c | none => -1) := by
      intro b hb
      subst hb
      rw [naskhref02_first.j0, if_neg (by simp), if_pos (by omega)]
      by_cases g2 : rd l 0 / 16 = 14
      · have e : wrap64 (wrap64 ((rd l 0 - 224) % 256 * 4096 + wrap64 (rd l 1 % 64 * 64)) + rd l 2 % 64) = c3 l := by
          rw [w64 (x := rd l 1 % 64 * 64) (by omega) (by omega), w64 (x := (rd l 0 - 224) % 256 * 4096 + rd l 1 % 64 * 64) (by omega) (by omega), w64 (by omega) (by omega)]
          unfold c3; omega
        rw [if_pos (by omega), decide_eq_true (by omega : rd l 0 < 240), naskhref02_first.j1, if_pos rfl, if_pos (by omega), l1, Option.bind_some, l2, Option.bind_some, if_pos g2, e, j3_f l hB]
        have hp := pre3 l hB g2
        by_cases h : 3 ≤ l.length ∧ rd l 1 / 64 = 2 ∧ rd l 2 / 64 = 2 ∧ 2048 ≤ c3 l ∧ whole (c3 l)
        · rw [if_pos (hp.2 h), if_pos h]
        · rw [if_neg (fun hh => h (hp.1 hh)), if_neg h]
      · rw [if_neg g2]
        have to1 : ∀ b : Bool, b = false → naskhref02_first.j1 (k + 5) l (-1) b = some (match (if rd l 0 / 8 = 30 then (if 4 ≤ l.length ∧ rd l 1 / 64 = 2 ∧ rd l 2 / 64 = 2 ∧ rd l 3 / 64 = 2 ∧ 65536 ≤ c4 l ∧ whole (c4 l) then some (c4 l) else none) else none) with | some c => c | none => -1) := by
          intro b hb
          subst hb
          rw [naskhref02_first.j1, if_neg (by simp), if_pos (by omega)]
          by_cases g3 : rd l 0 / 8 = 30
          · have e : wrap64 (wrap64 (wrap64 ((rd l 0 - 240) % 256 * 262144 + wrap64 (rd l 1 % 64 * 4096)) + wrap64 (rd l 2 % 64 * 64)) + rd l 3 % 64) = c4 l := by
              rw [w64 (x := rd l 1 % 64 * 4096) (by omega) (by omega), w64 (x := rd l 2 % 64 * 64) (by omega) (by omega), w64 (x := (rd l 0 - 240) % 256 * 262144 + rd l 1 % 64 * 4096) (by omega) (by omega), w64 (x := (rd l 0 - 240) % 256 * 262144 + rd l 1 % 64 * 4096 + rd l 2 % 64 * 64) (by omega) (by omega), w64 (by omega) (by omega)]
              unfold c4; omega
            rw [if_pos (by omega), decide_eq_true (by omega : rd l 0 < 248), naskhref02_first.j2, if_pos rfl, if_pos (by omega), l1, Option.bind_some, l2, Option.bind_some, l3, Option.bind_some, if_pos g3, e, j3_f l hB]
            have hp := pre4 l hB g3
            by_cases h : 4 ≤ l.length ∧ rd l 1 / 64 = 2 ∧ rd l 2 / 64 = 2 ∧ rd l 3 / 64 = 2 ∧ 65536 ≤ c4 l ∧ whole (c4 l)
            · rw [if_pos (hp.2 h), if_pos h]
            · rw [if_neg (fun hh => h (hp.1 hh)), if_neg h]
          · rw [if_neg g3]
            by_cases h : rd l 0 ≥ 240
            · rw [if_pos h, decide_eq_false (by omega : ¬ rd l 0 < 248), naskhref02_first.j2, if_neg (by simp), neg]
            · rw [if_neg h, naskhref02_first.j2, if_neg (by simp), neg]
        by_cases h : rd l 0 ≥ 224
        · rw [if_pos h]; exact to1 _ (decide_eq_false (by omega))
        · rw [if_neg h]; exact to1 _ rfl
    by_cases h : rd l 0 ≥ 192
    · rw [if_pos h]; exact to0 _ (decide_eq_false (by omega))
    · rw [if_neg h]; exact to0 _ rfl
theorem rd_drop0 (l : List Int) (i : Nat) : rd (l.drop i) 0 = rd l (i : Int) := by
  unfold rd; rw [List.getD_eq_getElem?_getD, List.getD_eq_getElem?_getD, List.getElem?_drop]; simp
theorem refdecode_loop (x0 : List Int) (hB : Byt x0) (hl : x0.length ≤ 1000000) : ∀ (n i : Nat) (out : List Int) (k : Nat), i ≤ x0.length → x0.length - i ≤ n → out.length ≤ i → n + 8 ≤ k →
    naskhref02_Decode.l0 k x0 out (i : Int) = some (out ++ decF n (x0.drop i)) := by
  intro n
  induction n with
  | zero =>
    intro i out k hi hn ho hk
    obtain ⟨k, rfl⟩ : ∃ m, k = m + 1 := ⟨k - 1, by omega⟩
    rw [naskhref02_Decode.l0, if_neg (by omega), decF, List.append_nil]
  | succ n ih =>
    intro i out k hi hn ho hk
    obtain ⟨k, rfl⟩ : ∃ m, k = m + 1 := ⟨k - 1, by omega⟩
    by_cases he : i = x0.length
    · rw [naskhref02_Decode.l0, if_neg (by omega), decF, if_pos (List.drop_eq_nil_of_le (by omega)), List.append_nil]
    · have hpos : 0 < (x0.drop i).length := by rw [List.length_drop]; omega
      have hne : x0.drop i ≠ [] := List.length_pos_iff.1 hpos
      have r0 := hB.rdv (i : Int)
      have hD := hB.drop i
      rw [naskhref02_Decode.l0, if_pos (by omega), if_pos (by omega), if_pos (by omega), Int.toNat_natCast, first_f (x0.drop i) hD hpos k (by omega), Option.bind_some, decF, if_neg hne]
      have e0 := rd_drop0 x0 i
      unfold nx
      rw [e0]
      have go : ∀ c : Int, 1 ≤ sz c → sz c ≤ x0.length - i → naskhref02_Decode.l0 k x0 (out ++ [c]) (wrap64 ((i : Int) + sz c)) = some (out ++ (c :: decF n ((x0.drop i).drop (sz c).toNat))) := by
        intro c h1 h2
        have := ih (i + (sz c).toNat) (out ++ [c]) k (by omega) (by omega) (by simp; omega) (by omega)
        rw [w64 (by omega) (by omega), show (i : Int) + sz c = ((i + (sz c).toNat : Nat) : Int) by omega, this, List.drop_drop]
        simp
      have h1 := sz_one (rd x0 (i : Int)) r0.1 r0.2
      have hlen : ((x0.drop i).length : Int) = x0.length - i := by rw [List.length_drop]; omega
      by_cases hb : rd x0 (i : Int) < 128
      · have hs := seqS_low (x0.drop i) (by rw [e0]; exact hb) (by rw [e0]; exact r0.1)
        rw [if_pos hb] at h1
        rw [if_pos hb, if_pos (by omega), w64 (x := rd x0 (i : Int)) (by omega) (by omega), refsize_f, Option.bind_some, hs]
        simp only []
        rw [if_pos hb]
        exact go _ (by omega) (by omega)
      · rw [if_neg hb] at h1
        rw [if_neg hb]
        cases hs : seqS (x0.drop i) with
        | none =>
          simp only []
          rw [if_pos (by omega), if_pos (by omega), w64 (x := rd x0 (i : Int)) (by omega) (by omega), w64 (x := 1114112 + rd x0 (i : Int)) (by omega) (by omega), refsize_f, Option.bind_some, if_neg hb]
          exact go _ (by omega) (by omega)
        | some c =>
          have hc := seqS_some (x0.drop i) c hD hs
          simp only []
          rw [if_neg (by omega), if_pos (by omega), refsize_f, Option.bind_some]
          exact go _ (by omega) (by omega)
theorem refdecode_f (l : List Int) (hB : Byt l) (hl : l.length ≤ 1000000) (k : Nat) (hk : l.length + 8 ≤ k) : naskhref02_Decode.f k l = some (decF l.length l) := by
  unfold naskhref02_Decode.f
  have := refdecode_loop l hB hl l.length 0 [] k (by omega) (by omega) (by simp) hk
  simpa using this

theorem awake_ok : naskhlaw02_awake.f 60 = some true := by decide +kernel
end Go.Proofs.Ytimkacnkmoofdaa.PureNarrowReadsAux
namespace Go.Proofs.Ytimkacnkmoofdaa.Pure
open Go.RowKit Go.Proofs.Ytimkacnkmoofdaa.PNarrowReads Go.Proofs.YtimkacnkmoofdaaW.PrintWords Go.Proofs.YtimkacnkmoofdaaW.PrintLast Go.Proofs.Ytimkacnkmoofdaa.PureNarrowReadsAux
set_option maxRecDepth 20000 in
theorem NarrowReads : naskhlaw02_NarrowReads.Pure := by
  intro l _ _ hw
  refine ⟨10000, ?_⟩
  have hB := Byt.of hw
  have aw : naskhlaw02_awake.f 10000 = some true := at_rounds (fun k => naskhlaw02_awake.mono k) (by omega) awake_ok
  unfold naskhlaw02_NarrowReads.f
  by_cases h : (l.length : Int) > 2000
  · rw [if_pos h, aw]; rfl
  · have hd := decF_len l.length l
    rw [if_neg h, slices_Clone_byte_byte.f, Option.bind_some, if_pos (by simp; omega), Option.bind_some, decode_f l hB (by omega) _ (by omega), Option.bind_some, refdecode_f l hB (by omega) _ (by omega), Option.bind_some,
      equal_self_int_int _ (by omega) _ (by omega), Option.bind_some, if_pos rfl, List.nil_append, equal_self_byte_byte _ (by omega) _ (by omega), Option.bind_some, if_pos rfl, aw]
    rfl
end Go.Proofs.Ytimkacnkmoofdaa.Pure
