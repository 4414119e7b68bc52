/- Any numbers are the bytes that the document says, or are refused; so are their sizes. No condition. -/
import Derived.Test.YtimkacnkmoofdaaPNarrowWritesx
namespace Go.Proofs.Ytimkacnkmoofdaa.PureNarrowWritesAux
open Go.RowKit Go.Proofs.Ytimkacnkmoofdaa.PNarrowWrites Go.Proofs.YtimkacnkmoofdaaW.PrintWords Go.Proofs.YtimkacnkmoofdaaW.PrintLast

set_option linter.unusedSimpArgs false
set_option linter.unusedVariables false
theorem w64 {x : Int} (h0 : -9223372036854775808 ≤ x) (h1 : x ≤ 9223372036854775807) : wrap64 x = x := by unfold wrap64; omega
theorem rd_at (pre : List Int) (x : Int) (rest : List Int) : rd (pre ++ x :: rest) (pre.length : Int) = x := by simp [rd]
theorem rd_nat (l : List Int) (i : Nat) (h : i < l.length) : rd l (i : Int) = l[i] := by simp [rd, h]
theorem wf64 {x : Int} (h : (Lit.int .i64 x).wf = true) : -9223372036854775808 ≤ x ∧ x ≤ 9223372036854775807 := by
  simpa [Lit.wf, IntKind.min, IntKind.max, IntKind.signed, IntKind.bits] using h
theorem bsome {P : Prop} [Decidable P] {b : Bool} (h : b = true ↔ P) : some b = some (decide P) := by
  congr 1; rw [Bool.eq_iff_iff]; simpa using h
theorem u16w {x : Int} (h0 : 0 ≤ x) (h1 : x ≤ 65535) : IntKind.u16.wrap x = x := by
  simp [IntKind.wrap, IntKind.min, IntKind.max, IntKind.signed, IntKind.bits]; omega

theorem eq_loop_int_int (a b : List Int) (hl : a.length = b.length) (hm : a.length ≤ 9223372036854775806) : ∀ d k i : Nat, i + d = a.length → d < k →
    slices_Equal_int_int.l0 k a b a.length i = some (decide (a.drop i = b.drop i)) := by
  intro d
  induction d with
  | zero =>
    intro k i hi hk
    obtain ⟨k, rfl⟩ : ∃ m, k = m + 1 := ⟨k - 1, by omega⟩
    simp only [slices_Equal_int_int.l0]
    rw [if_neg (by omega), List.drop_eq_nil_of_le (by omega), List.drop_eq_nil_of_le (by omega)]
    simp
  | succ d ih =>
    intro k i hi hk
    obtain ⟨k, rfl⟩ : ∃ m, k = m + 1 := ⟨k - 1, by omega⟩
    simp only [slices_Equal_int_int.l0]
    rw [if_pos (by omega), if_pos (by omega), if_pos (by omega), if_pos (by omega), rd_nat a i (by omega), rd_nat b i (by omega),
      List.drop_eq_getElem_cons (by omega : i < a.length), List.drop_eq_getElem_cons (by omega : i < b.length)]
    by_cases h : a[i]'(by omega) = b[i]'(by omega)
    · rw [if_pos h, w64 (by omega) (by omega)]
      have := ih k (i + 1) (by omega) (by omega)
      rw [Int.natCast_add] at this
      rw [show ((1 : Nat) : Int) = 1 from rfl] at this
      rw [this]
      congr 1
      rw [decide_eq_decide, List.cons.injEq]
      simp only [h, true_and]
    · rw [if_neg h]
      congr 1
      symm
      rw [decide_eq_false_iff_not, List.cons.injEq]
      exact fun e => h e.1
theorem equal_f_int_int (a b : List Int) (hm : a.length ≤ 9223372036854775806) (k : Nat) (hk : a.length < k) : slices_Equal_int_int.f k a b = some (decide (a = b)) := by
  unfold slices_Equal_int_int.f
  by_cases hl : a.length = b.length
  · rw [if_pos (by omega), show (0 : Int) = ((0 : Nat) : Int) from rfl, eq_loop_int_int a b hl hm a.length k 0 (by omega) hk]
    simp
  · rw [if_neg (by omega)]
    have : a ≠ b := fun e => hl (by rw [e])
    simp [this]
theorem equal_self_int_int (a : List Int) (hm : a.length ≤ 9223372036854775806) (k : Nat) (hk : a.length < k) : slices_Equal_int_int.f k a a = some true := by
  rw [equal_f_int_int a a hm k hk]; simp

theorem eq_loop_byte_byte (a b : List Int) (hl : a.length = b.length) (hm : a.length ≤ 9223372036854775806) : ∀ d k i : Nat, i + d = a.length → d < k →
    slices_Equal_byte_byte.l0 k a b a.length i = some (decide (a.drop i = b.drop i)) := by
  intro d
  induction d with
  | zero =>
    intro k i hi hk
    obtain ⟨k, rfl⟩ : ∃ m, k = m + 1 := ⟨k - 1, by omega⟩
    simp only [slices_Equal_byte_byte.l0]
    rw [if_neg (by omega), List.drop_eq_nil_of_le (by omega), List.drop_eq_nil_of_le (by omega)]
    simp
  | succ d ih =>
    intro k i hi hk
    obtain ⟨k, rfl⟩ : ∃ m, k = m + 1 := ⟨k - 1, by omega⟩
    simp only [slices_Equal_byte_byte.l0]
    rw [if_pos (by omega), if_pos (by omega), if_pos (by omega), if_pos (by omega), rd_nat a i (by omega), rd_nat b i (by omega),
      List.drop_eq_getElem_cons (by omega : i < a.length), List.drop_eq_getElem_cons (by omega : i < b.length)]
    by_cases h : a[i]'(by omega) = b[i]'(by omega)
    · rw [if_pos h, w64 (by omega) (by omega)]
      have := ih k (i + 1) (by omega) (by omega)
      rw [Int.natCast_add] at this
      rw [show ((1 : Nat) : Int) = 1 from rfl] at this
      rw [this]
      congr 1
      rw [decide_eq_decide, List.cons.injEq]
      simp only [h, true_and]
    · rw [if_neg h]
      congr 1
      symm
      rw [decide_eq_false_iff_not, List.cons.injEq]
      exact fun e => h e.1
theorem equal_f_byte_byte (a b : List Int) (hm : a.length ≤ 9223372036854775806) (k : Nat) (hk : a.length < k) : slices_Equal_byte_byte.f k a b = some (decide (a = b)) := by
  unfold slices_Equal_byte_byte.f
  by_cases hl : a.length = b.length
  · rw [if_pos (by omega), show (0 : Int) = ((0 : Nat) : Int) from rfl, eq_loop_byte_byte a b hl hm a.length k 0 (by omega) hk]
    simp
  · rw [if_neg (by omega)]
    have : a ≠ b := fun e => hl (by rw [e])
    simp [this]
theorem equal_self_byte_byte (a : List Int) (hm : a.length ≤ 9223372036854775806) (k : Nat) (hk : a.length < k) : slices_Equal_byte_byte.f k a a = some true := by
  rw [equal_f_byte_byte a a hm k hk]; simp

def ill (c : Int) : Prop := 1114240 ≤ c ∧ c ≤ 1114367
def whole (c : Int) : Prop := 0 ≤ c ∧ c ≤ 1114111 ∧ ¬ (55296 ≤ c ∧ c ≤ 57343)
instance (a : Int) : Decidable (ill a) := by unfold ill; infer_instance
instance (a : Int) : Decidable (whole a) := by unfold whole; infer_instance
def tl (c : Int) : Int := if c < 128 then 0 else if c < 2048 then 1 else if c < 65536 then 2 else 3
def sz (c : Int) : Int := if ill c then 1 else if whole c then 1 + tl c else 0
def shOf (a : Int) : Int × Int × Int × Bool := if a ≥ 65536 then (65536, 240, 3, true) else if a ≥ 2048 then (2048, 224, 2, true) else if a ≥ 128 then (128, 192, 1, true) else (0, 0, 0, false)
def I64 (l : List Int) : Prop := ∀ x ∈ l, -9223372036854775808 ≤ x ∧ x ≤ 9223372036854775807
theorem I64.of {l : List Int} (h : ∀ x ∈ l, (Lit.int .i64 x).wf = true) : I64 l := fun x hx => wf64 (h x hx)
theorem shapeOf_4 (a : Int) : narrow_shapeOf.f 4 a = some (shOf a) := by
  unfold narrow_shapeOf.f narrow_shapes.f shOf
  rw [Option.bind_some]
  by_cases h1 : a ≥ 65536
  · have h2 : a ≥ 2048 := by omega
    have h3 : a ≥ 128 := by omega
    simp [narrow_shapeOf.l0, h1, h2, h3, wrap64]
  · by_cases h2 : a ≥ 2048
    · have h3 : a ≥ 128 := by omega
      simp [narrow_shapeOf.l0, h1, h2, h3, wrap64]
    · by_cases h3 : a ≥ 128
      · simp [narrow_shapeOf.l0, h1, h2, h3, wrap64]
      · simp [narrow_shapeOf.l0, h1, h2, h3, wrap64]
theorem shapeOf_f (a : Int) (k : Nat) (hk : 4 ≤ k) : narrow_shapeOf.f k a = some (shOf a) := at_rounds (fun k => narrow_shapeOf.mono a k) hk (shapeOf_4 a)
theorem shOf_tl (a : Int) : (shOf a).2.2.1 = tl a ∧ (shOf a).2.2.2 = decide (128 ≤ a) := by
  unfold shOf tl
  by_cases h1 : a ≥ 65536
  · rw [if_pos h1, if_neg (by omega), if_neg (by omega), if_neg (by omega)]; exact ⟨rfl, by simp; omega⟩
  · by_cases h2 : a ≥ 2048
    · rw [if_neg h1, if_pos h2, if_neg (by omega), if_neg (by omega), if_pos (by omega)]; exact ⟨rfl, by simp; omega⟩
    · by_cases h3 : a ≥ 128
      · rw [if_neg h1, if_neg h2, if_pos h3, if_neg (by omega), if_pos (by omega)]; exact ⟨rfl, by simp; omega⟩
      · rw [if_neg h1, if_neg h2, if_neg h3, if_pos (by omega)]; exact ⟨rfl, by simp; omega⟩
theorem whole_f (a : Int) (k : Nat) (hk : 1 ≤ k) : wide_Whole.f k a = some (decide (whole a)) := by
  obtain ⟨k, rfl⟩ : ∃ m, k = m + 1 := ⟨k - 1, by omega⟩
  unfold wide_Whole.f whole
  simp only [wide_Whole.j0]
  by_cases h0 : a < 0
  · rw [if_pos h0, if_pos (by simpa using h0)]; refine bsome ?_; simp; omega
  · rw [if_neg h0]
    by_cases h1 : a > 1114111
    · rw [if_pos (by simpa using h1)]; refine bsome ?_; simp; omega
    · rw [if_neg (by simpa using h1)]
      repeat' split
      all_goals refine bsome ?_
      all_goals simp only [true_iff, Bool.false_eq_true, false_iff]
      all_goals omega
theorem refwhole_f (a : Int) : naskhref01_Whole.f a = some (decide (whole a)) := by
  unfold naskhref01_Whole.f whole
  repeat' split
  all_goals refine bsome ?_
  all_goals simp only [decide_eq_true_eq, true_iff, Bool.false_eq_true, false_iff]
  all_goals omega
theorem ill_f (a : Int) (w0 : -9223372036854775808 ≤ a) (w1 : a ≤ 9223372036854775807) : narrow_ill.f a = some (if ill a then a - 1114112 else 0, decide (ill a)) := by
  unfold narrow_ill.f
  by_cases h : ill a
  · rw [if_pos h, decide_eq_true h]
    unfold ill at h
    rw [if_neg (by omega), w64 (by omega) (by omega), if_neg (by omega), if_neg (by omega)]
    congr 2
    omega
  · rw [if_neg h, decide_eq_false h]
    unfold ill at h
    by_cases h1 : a < 1114112
    · rw [if_pos h1]
    · rw [if_neg h1, w64 (by omega) (by omega)]
      by_cases h2 : a - 1114112 < 128
      · rw [if_pos h2]
      · rw [if_neg h2, if_pos (by omega)]
theorem size_f (a : Int) (w0 : -9223372036854775808 ≤ a) (w1 : a ≤ 9223372036854775807) (k : Nat) (hk : 4 ≤ k) : narrow_Size.f k a = some (sz a) := by
  unfold narrow_Size.f sz
  rw [ill_f a w0 w1, Option.bind_some, whole_f a k (by omega), Option.bind_some, shapeOf_f a k hk, Option.bind_some, (shOf_tl a).1, (shOf_tl a).2]
  by_cases h : ill a
  · rw [if_pos (by simpa using h), if_pos h]
  · rw [if_neg (by simpa using h), if_neg h]
    by_cases h2 : whole a
    · rw [if_pos (by simpa using h2), if_pos h2]
      unfold whole at h2
      have ht : 0 ≤ tl a ∧ tl a ≤ 3 := by unfold tl; repeat' split
                                          all_goals decide
      by_cases h3 : 128 ≤ a
      · rw [if_pos (by simpa using h3), w64 (by omega) (by omega)]
      · rw [if_neg (by simpa using h3)]; unfold tl; rw [if_pos (by omega)]; rfl
    · rw [if_neg (by simpa using h2), if_neg h2]

theorem refsize_f (a : Int) : naskhref02_Size.f a = some (sz a) := by
  unfold naskhref02_Size.f naskhref02_ill.f sz tl
  by_cases h : ill a
  · rw [if_pos h]
    unfold ill at h
    rw [if_pos (by omega), Option.bind_some, if_pos (by simp; omega)]
  · rw [if_neg h]
    have : (if a ≥ 1114240 then some (decide (a ≤ 1114367)) else some false) = some false := by
      unfold ill at h
      by_cases h2 : a ≥ 1114240
      · rw [if_pos h2]; simp; omega
      · rw [if_neg h2]
    rw [this, Option.bind_some, if_neg (by simp), refwhole_f, Option.bind_some]
    by_cases h2 : whole a
    · rw [if_pos (by simpa using h2), if_pos h2]
      repeat' split
      all_goals rfl
    · rw [if_neg (by simpa using h2), if_neg h2]

theorem wraps_i64' (n : Int) (h₀ : 0 ≤ n) (h₁ : n < 2 ^ 62) : IntKind.i64.wrap n = n := by rw [IntKind.wrap_i64]; omega
theorem and_mask (x : Int) (i : Nat) (hi : i ≤ 62) (h0 : 0 ≤ x) (h1 : x < 2 ^ 62) : Go.bits .and .i64 x (2 ^ i - 1) = x % 2 ^ i := bits_mask .i64 62 (by decide) wraps_i64' i hi x h0 h1

theorem or_join (x y : Int) (i : Nat) (hx0 : 0 ≤ x) (hx : x % 2 ^ i = 0) (hx1 : x < 2 ^ 62) (hy0 : 0 ≤ y) (hy : y < 2 ^ i) (hy1 : y < 2 ^ 62) : Go.bits .or .i64 x y = x + y :=
  bits_join .i64 62 (by decide) wraps_i64' i x y hx0 hx hx1 hy0 hy hy1
theorem andnot192 (b : Int) (h : b / 32 = 6) : Go.bits .andNot .i64 b 192 = b - 192 := by
  obtain ⟨n, rfl⟩ : ∃ n : Fin 32, b = 192 + (n.val : Int) := ⟨⟨(b - 192).toNat, by omega⟩, by simp; omega⟩
  revert n; decide +kernel
theorem andnot224 (b : Int) (h : b / 16 = 14) : Go.bits .andNot .i64 b 224 = b - 224 := by
  obtain ⟨n, rfl⟩ : ∃ n : Fin 16, b = 224 + (n.val : Int) := ⟨⟨(b - 224).toNat, by omega⟩, by simp; omega⟩
  revert n; decide +kernel
theorem andnot240 (b : Int) (h : b / 8 = 30) : Go.bits .andNot .i64 b 240 = b - 240 := by
  obtain ⟨n, rfl⟩ : ∃ n : Fin 8, b = 240 + (n.val : Int) := ⟨⟨(b - 240).toNat, by omega⟩, by simp; omega⟩
  revert n; decide +kernel
def Byt (l : List Int) : Prop := ∀ x ∈ l, 0 ≤ x ∧ x ≤ 255
theorem Byt.of {l : List Int} (h : ∀ x ∈ l, (Lit.int .u8 x).wf = true) : Byt l := fun x hx => by
  simpa [Lit.wf, IntKind.min, IntKind.max, IntKind.signed, IntKind.bits] using h x hx
theorem Byt.rdv {l : List Int} (h : Byt l) (i : Int) : 0 ≤ rd l i ∧ rd l i ≤ 255 := by
  unfold rd
  rw [List.getD_eq_getElem?_getD]
  cases hi : l[i.toNat]? with
  | none => simp
  | some x => exact h x (List.mem_of_getElem? hi)
theorem Byt.drop {l : List Int} (h : Byt l) (n : Nat) : Byt (l.drop n) := fun x hx => h x (List.mem_of_mem_drop hx)
theorem Byt.take {l : List Int} (h : Byt l) (n : Nat) : Byt (l.take n) := fun x hx => h x (List.mem_of_mem_take hx)
theorem rd_mid (l : List Int) (m i : Nat) (hi : i + 1 < m) : rd ((l.take m).drop 1) (i : Int) = rd l ((i + 1 : Nat) : Int) := by
  unfold rd
  rw [List.getD_eq_getElem?_getD, List.getD_eq_getElem?_getD, List.getElem?_drop, List.getElem?_take, Int.toNat_natCast, Int.toNat_natCast, if_pos (by omega), Nat.add_comm]
def c2 (l : List Int) : Int := (rd l 0 - 192) * 64 + rd l 1 % 64
def c3 (l : List Int) : Int := ((rd l 0 - 224) * 64 + rd l 1 % 64) * 64 + rd l 2 % 64
def c4 (l : List Int) : Int := (((rd l 0 - 240) * 64 + rd l 1 % 64) * 64 + rd l 2 % 64) * 64 + rd l 3 % 64
/-- The code of more than one byte with which bytes begin, if there is one. -/
def seqS (l : List Int) : Option Int :=
  if rd l 0 / 32 = 6 then (if 2 ≤ l.length ∧ rd l 1 / 64 = 2 ∧ 128 ≤ c2 l then some (c2 l) else none)
  else if rd l 0 / 16 = 14 then (if 3 ≤ l.length ∧ rd l 1 / 64 = 2 ∧ rd l 2 / 64 = 2 ∧ 2048 ≤ c3 l ∧ whole (c3 l) then some (c3 l) else none)
  else if rd l 0 / 8 = 30 then (if 4 ≤ l.length ∧ rd l 1 / 64 = 2 ∧ rd l 2 / 64 = 2 ∧ rd l 3 / 64 = 2 ∧ 65536 ≤ c4 l ∧ whole (c4 l) then some (c4 l) else none)
  else none
theorem begins_f (b : Int) : narrow_begins.f b = some (if b / 32 = 6 then (128, 192, 1, true) else if b / 16 = 14 then (2048, 224, 2, true) else if b / 8 = 30 then (65536, 240, 3, true) else (0, 0, 0, false)) := by
  unfold narrow_begins.f narrow_shapes.f
  repeat' split
  all_goals rfl
theorem seq_step (x39 : List Int) (hb : Byt x39) (hl : x39.length ≤ 10) (k : Nat) (x7 j f ld n : Int) (h0 : 0 ≤ j) (h1 : j < x39.length) (hx0 : 0 ≤ x7) (hx1 : x7 < 1000000000) :
    narrow_sequence.l0 (k + 1) x7 x39 x39.length j f ld n = if rd x39 j / 64 = 2 then narrow_sequence.l0 k (x7 * 64 + rd x39 j % 64) x39 x39.length (j + 1) f ld n else some (0, 0, false) := by
  have hr := hb.rdv j
  have hm := and_mask (rd x39 j) 6 (by omega) hr.1 (by omega)
  rw [show (2 : Int) ^ 6 - 1 = 63 by decide, show (2 : Int) ^ 6 = 64 by decide] at hm
  rw [narrow_sequence.l0, if_pos h1, if_pos h0, if_pos h1]
  by_cases h : rd x39 j / 64 = 2
  · rw [if_pos h, if_pos h, w64 (x := rd x39 j) (by omega) (by omega), hm, w64 (x := x7 * 64) (by omega) (by omega), w64 (x := j + 1) (by omega) (by omega),
      or_join (x7 * 64) (rd x39 j % 64) 6 (by omega) (by omega) (by omega) (by omega) (by omega) (by omega)]
  · rw [if_neg h, if_neg h]
theorem seq_end (x39 : List Int) (k : Nat) (x7 j f ld n : Int) (h1 : ¬ j < x39.length) (hk : 4 ≤ k) (hn0 : 0 ≤ n) (hn : n ≤ 3) :
    narrow_sequence.l0 (k + 1) x7 x39 x39.length j f ld n = some (if tl x7 = n ∧ whole x7 then (x7, 1 + n, true) else (0, 0, false)) := by
  rw [narrow_sequence.l0, if_neg h1, shapeOf_f x7 k hk, Option.bind_some, (shOf_tl x7).1, whole_f x7 k (by omega), Option.bind_some]
  by_cases h : tl x7 = n
  · rw [if_pos h]
    by_cases h2 : whole x7
    · rw [if_pos (by simpa using h2), if_pos ⟨h, h2⟩, w64 (by omega) (by omega)]
    · rw [if_neg (by simpa using h2), if_neg (fun h => h2 h.2)]
  · rw [if_neg h, if_neg (fun h2 => h h2.1)]
theorem mid_len (l : List Int) (m : Nat) (h : m ≤ l.length) : ((l.take m).drop 1).length = m - 1 := by rw [List.length_drop, List.length_take]; omega
theorem sz_tl (c n : Int) (h : tl c = n) (hw : whole c) : sz c = 1 + n := by
  unfold sz
  rw [if_neg (by unfold whole at hw; unfold ill; omega), if_pos hw, h]
theorem tl2 (c : Int) (h : c < 2048) : tl c = 1 ↔ 128 ≤ c := by
  unfold tl
  repeat' split
  all_goals omega
theorem tl3 (c : Int) (h : c < 65536) : tl c = 2 ↔ 2048 ≤ c := by
  unfold tl
  repeat' split
  all_goals omega
theorem tl4 (c : Int) : tl c = 3 ↔ 65536 ≤ c := by
  unfold tl
  repeat' split
  all_goals omega
theorem sequence_f (l : List Int) (hB : Byt l) (h0 : 0 < l.length) (k : Nat) (hk : 20 ≤ k) : narrow_sequence.f k l = some (match seqS l with | some c => (c, sz c, true) | none => (0, 0, false)) := by
  obtain ⟨k, rfl⟩ : ∃ m, k = m + 20 := ⟨k - 20, by omega⟩
  have r0 := hB.rdv 0
  have r1 := hB.rdv 1
  have r2 := hB.rdv 2
  have r3 := hB.rdv 3
  have step := fun m => seq_step ((l.take m).drop 1) ((hB.take m).drop 1)
  unfold narrow_sequence.f seqS
  rw [if_pos (by omega), begins_f, Option.bind_some]
  by_cases g1 : rd l 0 / 32 = 6
  · rw [if_pos g1, if_pos g1]
    simp only [if_true]
    rw [narrow_sequence.j0]
    by_cases hl : (l.length : Int) ≤ 1
    · rw [if_pos (by simpa using hl), if_neg (fun h => by omega)]
    · rw [if_neg (by simpa using hl), if_pos (by omega), w64 (x := 1 + 1) (by omega) (by omega), if_pos (by omega), if_pos (by omega), w64 (x := rd l 0) (by omega) (by omega), andnot192 _ g1]
      have hlen := mid_len l 2 (by omega)
      have e1 := rd_mid l 2 0 (by omega)
      simp only [show ((1 : Int) + 1).toNat = 2 from rfl]
      rw [step 2 (by omega) _ _ 0 _ _ _ (by omega) (by omega) (by omega) (by omega)]
      simp only [Int.natCast_zero, Nat.zero_add, Int.natCast_one] at e1
      rw [e1]
      by_cases q1 : rd l 1 / 64 = 2
      · rw [if_pos q1, seq_end _ _ _ _ _ _ _ (by omega) (by omega) (by omega) (by omega)]
        have hc : (rd l 0 - 192) * 64 + rd l 1 % 64 = c2 l := rfl
        rw [hc]
        have hlt : 0 ≤ c2 l ∧ c2 l < 2048 := by unfold c2; omega
        have ht := tl2 (c2 l) hlt.2
        have hw : whole (c2 l) := by unfold whole; omega
        by_cases q2 : 128 ≤ c2 l
        · rw [if_pos ⟨ht.2 q2, hw⟩, if_pos ⟨by omega, q1, q2⟩]
          show _ = some (c2 l, sz (c2 l), true)
          rw [sz_tl _ 1 (ht.2 q2) hw]
        · rw [if_neg (fun h => q2 (ht.1 h.1)), if_neg (fun h => q2 h.2.2)]
      · rw [if_neg q1, if_neg (fun h => q1 h.2.1)]
  · rw [if_neg g1, if_neg g1]
    by_cases g2 : rd l 0 / 16 = 14
    · rw [if_pos g2, if_pos g2]
      simp only [if_true]
      rw [narrow_sequence.j0]
      by_cases hl : (l.length : Int) ≤ 2
      · rw [if_pos (by simpa using hl), if_neg (fun h => by omega)]
      · rw [if_neg (by simpa using hl), if_pos (by omega), w64 (x := 1 + 2) (by omega) (by omega), if_pos (by omega), if_pos (by omega), w64 (x := rd l 0) (by omega) (by omega), andnot224 _ g2]
        have hlen := mid_len l 3 (by omega)
        have e1 := rd_mid l 3 0 (by omega)
        have e2 := rd_mid l 3 1 (by omega)
        simp only [show ((1 : Int) + 2).toNat = 3 from rfl]
        rw [step 3 (by omega) _ _ 0 _ _ _ (by omega) (by omega) (by omega) (by omega)]
        simp only [Int.natCast_zero, Nat.zero_add, Int.natCast_one] at e1 e2
        rw [e1]
        by_cases q1 : rd l 1 / 64 = 2
        · rw [if_pos q1, step 3 (by omega) _ _ (0 + 1) _ _ _ (by omega) (by omega) (by omega) (by omega), show ((0 : Int) + 1) = 1 from rfl, e2, show (((1 + 1 : Nat)) : Int) = 2 from rfl]
          by_cases q2 : rd l 2 / 64 = 2
          · rw [if_pos q2, seq_end _ _ _ _ _ _ _ (by omega) (by omega) (by omega) (by omega)]
            have hc : ((rd l 0 - 224) * 64 + rd l 1 % 64) * 64 + rd l 2 % 64 = c3 l := rfl
            rw [hc]
            have hlt : 0 ≤ c3 l ∧ c3 l < 65536 := by unfold c3; omega
            have ht := tl3 (c3 l) hlt.2
            by_cases q3 : 2048 ≤ c3 l ∧ whole (c3 l)
            · rw [if_pos ⟨ht.2 q3.1, q3.2⟩, if_pos ⟨by omega, q1, q2, q3.1, q3.2⟩]
              show _ = some (c3 l, sz (c3 l), true)
              rw [sz_tl _ 2 (ht.2 q3.1) q3.2]
            · rw [if_neg (fun h => q3 ⟨ht.1 h.1, h.2⟩), if_neg (fun h => q3 ⟨h.2.2.2.1, h.2.2.2.2⟩)]
          · rw [if_neg q2, if_neg (fun h => q2 h.2.2.1)]
        · rw [if_neg q1, if_neg (fun h => q1 h.2.1)]
    · rw [if_neg g2, if_neg g2]
      by_cases g3 : rd l 0 / 8 = 30
      · rw [if_pos g3, if_pos g3]
        simp only [if_true]
        rw [narrow_sequence.j0]
        by_cases hl : (l.length : Int) ≤ 3
        · rw [if_pos (by simpa using hl), if_neg (fun h => by omega)]
        · rw [if_neg (by simpa using hl), if_pos (by omega), w64 (x := 1 + 3) (by omega) (by omega), if_pos (by omega), if_pos (by omega), w64 (x := rd l 0) (by omega) (by omega), andnot240 _ g3]
          have hlen := mid_len l 4 (by omega)
          have e1 := rd_mid l 4 0 (by omega)
          have e2 := rd_mid l 4 1 (by omega)
          have e3 := rd_mid l 4 2 (by omega)
          simp only [show ((1 : Int) + 3).toNat = 4 from rfl]
          rw [step 4 (by omega) _ _ 0 _ _ _ (by omega) (by omega) (by omega) (by omega)]
          simp only [Int.natCast_zero, Nat.zero_add, Int.natCast_one] at e1 e2
          rw [e1]
          by_cases q1 : rd l 1 / 64 = 2
          · rw [if_pos q1, step 4 (by omega) _ _ (0 + 1) _ _ _ (by omega) (by omega) (by omega) (by omega), show ((0 : Int) + 1) = 1 from rfl, e2, show (((1 + 1 : Nat)) : Int) = 2 from rfl]
            by_cases q2 : rd l 2 / 64 = 2
            · rw [if_pos q2, step 4 (by omega) _ _ (1 + 1) _ _ _ (by omega) (by omega) (by omega) (by omega), show ((1 : Int) + 1) = ((2 : Nat) : Int) from rfl, e3, show (((2 + 1 : Nat)) : Int) = 3 from rfl]
              by_cases q4 : rd l 3 / 64 = 2
              · rw [if_pos q4, seq_end _ _ _ _ _ _ _ (by omega) (by omega) (by omega) (by omega)]
                have hc : (((rd l 0 - 240) * 64 + rd l 1 % 64) * 64 + rd l 2 % 64) * 64 + rd l 3 % 64 = c4 l := rfl
                rw [hc]
                have ht := tl4 (c4 l)
                by_cases q3 : 65536 ≤ c4 l ∧ whole (c4 l)
                · rw [if_pos ⟨ht.2 q3.1, q3.2⟩, if_pos ⟨by omega, q1, q2, q4, q3.1, q3.2⟩]
                  show _ = some (c4 l, sz (c4 l), true)
                  rw [sz_tl _ 3 (ht.2 q3.1) q3.2]
                · rw [if_neg (fun h => q3 ⟨ht.1 h.1, h.2⟩), if_neg (fun h => q3 ⟨h.2.2.2.2.1, h.2.2.2.2.2⟩)]
              · rw [if_neg q4, if_neg (fun h => q4 h.2.2.2.1)]
            · rw [if_neg q2, if_neg (fun h => q2 h.2.2.1)]
          · rw [if_neg q1, if_neg (fun h => q1 h.2.1)]
      · rw [if_neg g3, if_neg g3]
        simp only [Bool.false_eq_true, if_false]
        rw [narrow_sequence.j0, if_pos rfl]
/-- The code with which bytes begin. -/
def nx (l : List Int) : Int := match seqS l with | some c => c | none => if rd l 0 < 128 then rd l 0 else 1114112 + rd l 0
def decF : Nat → List Int → List Int
  | 0, _ => []
  | n + 1, l => if l = [] then [] else nx l :: decF n (l.drop (sz (nx l)).toNat)
theorem seqS_some (l : List Int) (c : Int) (hB : Byt l) (h : seqS l = some c) : 128 ≤ c ∧ whole c ∧ sz c ≤ l.length ∧ 2 ≤ sz c ∧ sz c ≤ 4 := by
  have r0 := hB.rdv 0
  have r1 := hB.rdv 1
  have r2 := hB.rdv 2
  have r3 := hB.rdv 3
  unfold seqS at h
  by_cases g1 : rd l 0 / 32 = 6
  · rw [if_pos g1] at h
    by_cases q : 2 ≤ l.length ∧ rd l 1 / 64 = 2 ∧ 128 ≤ c2 l
    · rw [if_pos q] at h
      obtain rfl := Option.some.inj h
      have hlt : 0 ≤ c2 l ∧ c2 l < 2048 := by unfold c2; omega
      have hw : whole (c2 l) := by unfold whole; omega
      rw [sz_tl _ 1 ((tl2 _ hlt.2).2 q.2.2) hw]
      exact ⟨q.2.2, hw, by omega, by omega, by omega⟩
    · rw [if_neg q] at h; cases h
  · rw [if_neg g1] at h
    by_cases g2 : rd l 0 / 16 = 14
    · rw [if_pos g2] at h
      by_cases q : 3 ≤ l.length ∧ rd l 1 / 64 = 2 ∧ rd l 2 / 64 = 2 ∧ 2048 ≤ c3 l ∧ whole (c3 l)
      · rw [if_pos q] at h
        obtain rfl := Option.some.inj h
        have hlt : 0 ≤ c3 l ∧ c3 l < 65536 := by unfold c3; omega
        rw [sz_tl _ 2 ((tl3 _ hlt.2).2 q.2.2.2.1) q.2.2.2.2]
        exact ⟨by omega, q.2.2.2.2, by omega, by omega, by omega⟩
      · rw [if_neg q] at h; cases h
    · rw [if_neg g2] at h
      by_cases g3 : rd l 0 / 8 = 30
      · rw [if_pos g3] at h
        by_cases q : 4 ≤ l.length ∧ rd l 1 / 64 = 2 ∧ rd l 2 / 64 = 2 ∧ rd l 3 / 64 = 2 ∧ 65536 ≤ c4 l ∧ whole (c4 l)
        · rw [if_pos q] at h
          obtain rfl := Option.some.inj h
          rw [sz_tl _ 3 ((tl4 _).2 q.2.2.2.2.1) q.2.2.2.2.2]
          exact ⟨by omega, q.2.2.2.2.2, by omega, by omega, by omega⟩
        · rw [if_neg q] at h; cases h
      · rw [if_neg g3] at h; cases h
theorem seqS_low (l : List Int) (h : rd l 0 < 128) (h0 : 0 ≤ rd l 0) : seqS l = none := by
  unfold seqS
  rw [if_neg (by omega), if_neg (by omega), if_neg (by omega)]
theorem sz_one (b : Int) (h0 : 0 ≤ b) (h1 : b ≤ 255) : sz (if b < 128 then b else 1114112 + b) = 1 := by
  unfold sz
  by_cases h : b < 128
  · rw [if_pos h, if_neg (by unfold ill; omega), if_pos (by unfold whole; omega)]; unfold tl; rw [if_pos h]; rfl
  · rw [if_neg h, if_pos (by unfold ill; omega)]
theorem decode_loop : ∀ (n : Nat) (l out : List Int) (k : Nat), l.length ≤ n → Byt l → out.length + l.length ≤ 1000000 → n + 22 ≤ k → narrow_Decode.l0 k l out = some (out ++ decF n l) := by
  intro n
  induction n with
  | zero =>
    intro l out k hn hB hl hk
    obtain ⟨k, rfl⟩ : ∃ m, k = m + 1 := ⟨k - 1, by omega⟩
    obtain rfl : l = [] := List.eq_nil_of_length_eq_zero (by omega)
    rw [narrow_Decode.l0, if_neg (by simp)]; simp [decF]
  | succ n ih =>
    intro l out k hn hB hl hk
    obtain ⟨k, rfl⟩ : ∃ m, k = m + 1 := ⟨k - 1, by omega⟩
    by_cases he : l = []
    · subst he
      rw [narrow_Decode.l0, if_neg (by simp), decF, if_pos rfl, List.append_nil]
    · have hpos : 0 < l.length := List.length_pos_iff.2 he
      have r0 := hB.rdv 0
      rw [narrow_Decode.l0, if_pos (by omega), sequence_f l hB hpos k (by omega), Option.bind_some, decF, if_neg he]
      unfold nx
      cases hs : seqS l with
      | some c =>
        have hc := seqS_some l c hB hs
        simp only [if_true]
        have := ih (l.drop (sz c).toNat) (out ++ [c]) k (by rw [List.length_drop]; omega) (hB.drop _) (by rw [List.length_drop]; simp; omega) (by omega)
        rw [if_pos (by omega), if_pos (by omega), if_pos (by omega), this]
        simp
      | none =>
        simp only [Bool.false_eq_true, if_false]
        have h1 := sz_one (rd l 0) r0.1 r0.2
        rw [if_pos (by omega), w64 (x := rd l 0) (by omega) (by omega), h1]
        by_cases hb : rd l 0 < 128
        · have := ih (l.drop 1) (out ++ [rd l 0]) k (by rw [List.length_drop]; omega) (hB.drop _) (by rw [List.length_drop]; simp; omega) (by omega)
          rw [if_pos hb, if_pos hb, if_pos (by omega), if_pos (by omega), this]
          simp
        · have := ih (l.drop 1) (out ++ [1114112 + rd l 0]) k (by rw [List.length_drop]; omega) (hB.drop _) (by rw [List.length_drop]; simp; omega) (by omega)
          rw [if_neg hb, if_neg hb, if_pos (by omega), if_pos (by omega), w64 (x := 1114112 + rd l 0) (by omega) (by omega), this]
          simp
theorem decode_f (l : List Int) (hB : Byt l) (hl : l.length ≤ 1000000) (k : Nat) (hk : l.length + 22 ≤ k) : narrow_Decode.f k l = some (decF l.length l) := by
  unfold narrow_Decode.f
  rw [decode_loop l.length l [] k (Nat.le_refl _) hB (by simpa using hl) hk]; rfl
theorem decF_len : ∀ (n : Nat) (l : List Int), (decF n l).length ≤ n
  | 0, _ => by simp [decF]
  | n + 1, l => by
    rw [decF]
    split
    · simp
    · have := decF_len n (l.drop (sz (nx l)).toNat)
      simp; omega

/-- The bytes of a code. -/
def en (c : Int) : List Int :=
  if ill c then [c - 1114112] else if c < 128 then [c] else if c < 2048 then [192 + c / 64, 128 + c % 64]
  else if c < 65536 then [224 + c / 4096, 128 + c / 64 % 64, 128 + c % 64] else [240 + c / 262144, 128 + c / 4096 % 64, 128 + c / 64 % 64, 128 + c % 64]
theorem sz_pos (c : Int) (h : sz c ≠ 0) : ill c ∨ whole c := by
  unfold sz at h
  by_cases h1 : ill c
  · exact .inl h1
  · by_cases h2 : whole c
    · exact .inr h2
    · rw [if_neg h1, if_neg h2] at h; exact absurd rfl h

theorem shr6 (a : Int) : shr .i64 a 6 = a / 64 := rfl
theorem shr12 (a : Int) : shr .i64 a 12 = a / 4096 := rfl
theorem shr18 (a : Int) : shr .i64 a 18 = a / 262144 := rfl
theorem shr0 (a : Int) : shr .i64 a 0 = a := by show a / 1 = a; omega
theorem put_step (l : List Int) (c : Int) (k : Nat) (j s : Int) (hl : l.length ≤ 100000000) (hj : 0 ≤ j) (hj2 : j ≤ 3) (hc : 0 ≤ c) (hc2 : c ≤ 1114111) (hs : shr .i64 c (6 * j) = s) (hs0 : 0 ≤ s) (hs1 : s ≤ 1114111) :
    narrow_put.l0 (k + 1) l c j = narrow_put.l0 k (l ++ [128 + s % 64]) c (j - 1) := by
  have hm := and_mask s 6 (by omega) hs0 (by omega)
  rw [show (2 : Int) ^ 6 - 1 = 63 by decide, show (2 : Int) ^ 6 = 64 by decide] at hm
  rw [narrow_put.l0, if_pos (by omega), w64 (x := 6 * j) (by omega) (by omega), if_pos (by omega), if_pos (by omega), hs, hm, or_join 128 (s % 64) 6 (by omega) (by omega) (by omega) (by omega) (by omega) (by omega), w64 (x := j - 1) (by omega) (by omega),
    show (128 + s % 64) % 256 = 128 + s % 64 by omega]
theorem put_end (l : List Int) (c : Int) (k : Nat) : narrow_put.l0 (k + 1) l c (-1) = some l := by rw [narrow_put.l0, if_neg (by omega)]
theorem put_f (l : List Int) (c : Int) (h : sz c ≠ 0) (hl : l.length ≤ 10000000) (k : Nat) (hk : 10 ≤ k) : narrow_put.f k l c = some (l ++ en c) := by
  obtain ⟨k, rfl⟩ : ∃ m, k = m + 10 := ⟨k - 10, by omega⟩
  have hp := sz_pos c h
  have hb : 0 ≤ c ∧ c ≤ 1114367 := by unfold ill whole at hp; omega
  unfold narrow_put.f en
  rw [ill_f c (by omega) (by omega), Option.bind_some, shapeOf_f c _ (by omega), Option.bind_some]
  by_cases h1 : ill c
  · rw [if_pos (by simpa using h1), if_pos (by omega), if_pos h1, if_pos h1]
  · have hw : whole c := hp.resolve_left h1
    unfold whole at hw
    rw [if_neg (by simpa using h1), if_neg h1]
    by_cases g1 : c < 128
    · have hs : shOf c = (0, 0, 0, false) := by unfold shOf; rw [if_neg (by omega), if_neg (by omega), if_neg (by omega)]
      rw [hs, if_pos g1]
      simp only [Bool.false_eq_true, if_false]
      rw [if_pos (by omega), show c % 256 = c by omega]
    · by_cases g2 : c < 2048
      · have hs : shOf c = (128, 192, 1, true) := by unfold shOf; rw [if_neg (by omega), if_neg (by omega), if_pos (by omega)]
        rw [hs, if_neg g1, if_pos g2]
        simp only [if_true]
        rw [w64 (x := 6 * 1) (by omega) (by omega), if_pos (by omega), if_pos (by omega), show (6 : Int) * 1 = 6 from rfl, shr6, or_join 192 (c / 64) 6 (by omega) (by omega) (by omega) (by omega) (by omega) (by omega), w64 (x := 1 - 1) (by omega) (by omega), show (192 + c / 64) % 256 = 192 + c / 64 by omega,
          put_step _ c _ (1 - 1) c (by simp; omega) (by omega) (by omega) (by omega) (by omega) (by rw [show (6 : Int) * (1 - 1) = 0 by decide]; exact shr0 c) (by omega) (by omega), show (1 : Int) - 1 - 1 = -1 from rfl, put_end]
        simp
      · by_cases g3 : c < 65536
        · have hs : shOf c = (2048, 224, 2, true) := by unfold shOf; rw [if_neg (by omega), if_pos (by omega)]
          rw [hs, if_neg g1, if_neg g2, if_pos g3]
          simp only [if_true]
          rw [w64 (x := 6 * 2) (by omega) (by omega), if_pos (by omega), if_pos (by omega), show (6 : Int) * 2 = 12 from rfl, shr12, or_join 224 (c / 4096) 5 (by omega) (by omega) (by omega) (by omega) (by omega) (by omega), w64 (x := 2 - 1) (by omega) (by omega), show (224 + c / 4096) % 256 = 224 + c / 4096 by omega,
            put_step _ c _ (2 - 1) (c / 64) (by simp; omega) (by omega) (by omega) (by omega) (by omega) (shr6 c) (by omega) (by omega),
            put_step _ c _ (2 - 1 - 1) c (by simp; omega) (by omega) (by omega) (by omega) (by omega) (by rw [show (6 : Int) * (2 - 1 - 1) = 0 by decide]; exact shr0 c) (by omega) (by omega), show (2 : Int) - 1 - 1 - 1 = -1 from rfl, put_end]
          simp
        · have hs : shOf c = (65536, 240, 3, true) := by unfold shOf; rw [if_pos (by omega)]
          rw [hs, if_neg g1, if_neg g2, if_neg g3]
          simp only [if_true]
          rw [w64 (x := 6 * 3) (by omega) (by omega), if_pos (by omega), if_pos (by omega), show (6 : Int) * 3 = 18 from rfl, shr18, or_join 240 (c / 262144) 4 (by omega) (by omega) (by omega) (by omega) (by omega) (by omega), w64 (x := 3 - 1) (by omega) (by omega), show (240 + c / 262144) % 256 = 240 + c / 262144 by omega,
            put_step _ c _ (3 - 1) (c / 4096) (by simp; omega) (by omega) (by omega) (by omega) (by omega) (shr12 c) (by omega) (by omega),
            put_step _ c _ (3 - 1 - 1) (c / 64) (by simp; omega) (by omega) (by omega) (by omega) (by omega) (shr6 c) (by omega) (by omega),
            put_step _ c _ (3 - 1 - 1 - 1) c (by simp; omega) (by omega) (by omega) (by omega) (by omega) (by rw [show (6 : Int) * (3 - 1 - 1 - 1) = 0 by decide]; exact shr0 c) (by omega) (by omega), show (3 : Int) - 1 - 1 - 1 - 1 = -1 from rfl, put_end]
          simp
theorem en_small (c : Int) : (en c).length ≤ 4 := by
  unfold en
  repeat' split
  all_goals simp
theorem encode_loop (x0 : List Int) (hx : x0.length ≤ 2000) (hi : I64 x0) : ∀ (rest pre out : List Int) (k : Nat), x0 = pre ++ rest → out.length ≤ 4 * pre.length → rest.length + 10 < k →
    narrow_Encode.l0 k out x0 x0.length pre.length = some (if ∃ c ∈ rest, sz c = 0 then ([], 2) else (out ++ rest.flatMap en, 0)) := by
  intro rest
  induction rest with
  | nil =>
    intro pre out k h ho hk
    obtain ⟨k, rfl⟩ : ∃ m, k = m + 1 := ⟨k - 1, by omega⟩
    simp at h
    subst h
    rw [narrow_Encode.l0, if_neg (by omega)]; simp
  | cons c rest ih =>
    intro pre out k h ho hk
    obtain ⟨k, rfl⟩ : ∃ m, k = m + 1 := ⟨k - 1, by omega⟩
    have hlen : pre.length + 1 + rest.length = x0.length := by rw [h]; simp; omega
    have hr : rd x0 (pre.length : Int) = c := by rw [h]; exact rd_at pre c rest
    have hen := en_small c
    rw [List.length_cons] at hk
    have step := ih (pre ++ [c]) (out ++ en c) k (by rw [h]; simp) (by simp; omega) (by omega)
    simp only [List.length_append, List.length_cons, List.length_nil, Nat.zero_add, Int.natCast_add, Int.natCast_one] at step
    have hc := hi c (by rw [h]; simp)
    rw [narrow_Encode.l0, if_pos (by omega), if_pos (by omega), if_pos (by omega), hr, size_f c hc.1 hc.2 k (by omega), Option.bind_some]
    by_cases hz : sz c = 0
    · rw [if_pos hz, if_pos ⟨c, by simp, hz⟩]
    · have e : (∃ c' ∈ c :: rest, sz c' = 0) = (∃ c' ∈ rest, sz c' = 0) := by simp [hz]
      simp only [e]
      rw [if_neg hz, put_f out c hz (by omega) k (by omega), Option.bind_some, w64 (x := (pre.length : Int) + 1) (by omega) (by omega), step]
      simp
theorem encode_f (x0 : List Int) (hx : x0.length ≤ 2000) (hi : I64 x0) (k : Nat) (hk : x0.length + 12 ≤ k) : narrow_Encode.f k x0 = some (if ∃ c ∈ x0, sz c = 0 then ([], 2) else (x0.flatMap en, 0)) := by
  unfold narrow_Encode.f
  have := encode_loop x0 hx hi x0 [] [] k rfl (by simp) (by omega)
  simp only [List.length_nil, Int.natCast_zero, List.nil_append] at this
  exact this
theorem take2 (l : List Int) (h : 2 ≤ l.length) : l.take 2 = [rd l 0, rd l 1] := by
  match l, h with
  | a :: b :: t, _ => rfl
theorem take3 (l : List Int) (h : 3 ≤ l.length) : l.take 3 = [rd l 0, rd l 1, rd l 2] := by
  match l, h with
  | a :: b :: c :: t, _ => rfl
theorem take4 (l : List Int) (h : 4 ≤ l.length) : l.take 4 = [rd l 0, rd l 1, rd l 2, rd l 3] := by
  match l, h with
  | a :: b :: c :: d :: t, _ => rfl
/-- The first bytes are those of the code. -/
theorem en_nx (l : List Int) (hB : Byt l) (h0 : 0 < l.length) : en (nx l) = l.take (sz (nx l)).toNat ∧ sz (nx l) ≤ l.length ∧ 1 ≤ sz (nx l) ∧ (whole (nx l) ∨ ill (nx l)) := by
  have r0 := hB.rdv 0
  have r1 := hB.rdv 1
  have r2 := hB.rdv 2
  have r3 := hB.rdv 3
  unfold nx
  have low : seqS l = none → en (if rd l 0 < 128 then rd l 0 else 1114112 + rd l 0) = l.take 1 := by
    intro _
    have ht : l.take 1 = [rd l 0] := by
      match l, h0 with
      | a :: t, _ => rfl
    rw [ht]
    unfold en
    by_cases h : rd l 0 < 128
    · rw [if_pos h, if_neg (by unfold ill; omega), if_pos h]
    · rw [if_neg h, if_pos (by unfold ill; omega)]
      congr 1; omega
  cases hs : seqS l with
  | none =>
    simp only []
    have h1 := sz_one (rd l 0) r0.1 r0.2
    rw [h1]
    refine ⟨low hs, by omega, by omega, ?_⟩
    by_cases h : rd l 0 < 128
    · rw [if_pos h]; exact .inl (by unfold whole; omega)
    · rw [if_neg h]; exact .inr (by unfold ill; omega)
  | some c =>
    have hc := seqS_some l c hB hs
    simp only []
    refine ⟨?_, hc.2.2.1, by omega, .inl hc.2.1⟩
    unfold seqS at hs
    by_cases g1 : rd l 0 / 32 = 6
    · rw [if_pos g1] at hs
      by_cases q : 2 ≤ l.length ∧ rd l 1 / 64 = 2 ∧ 128 ≤ c2 l
      · rw [if_pos q] at hs
        obtain rfl := Option.some.inj hs
        have hlt : 0 ≤ c2 l ∧ c2 l < 2048 := by unfold c2; omega
        have hw : whole (c2 l) := by unfold whole; omega
        rw [sz_tl _ 1 ((tl2 _ hlt.2).2 q.2.2) hw, show ((1 : Int) + 1).toNat = 2 from rfl, take2 l q.1]
        unfold en
        rw [if_neg (by unfold ill; omega), if_neg (by omega), if_pos hlt.2]
        unfold c2
        rw [show 192 + ((rd l 0 - 192) * 64 + rd l 1 % 64) / 64 = rd l 0 by omega, show 128 + ((rd l 0 - 192) * 64 + rd l 1 % 64) % 64 = rd l 1 by omega]
      · rw [if_neg q] at hs; cases hs
    · rw [if_neg g1] at hs
      by_cases g2 : rd l 0 / 16 = 14
      · rw [if_pos g2] at hs
        by_cases q : 3 ≤ l.length ∧ rd l 1 / 64 = 2 ∧ rd l 2 / 64 = 2 ∧ 2048 ≤ c3 l ∧ whole (c3 l)
        · rw [if_pos q] at hs
          obtain rfl := Option.some.inj hs
          have hlt : 0 ≤ c3 l ∧ c3 l < 65536 := by unfold c3; omega
          rw [sz_tl _ 2 ((tl3 _ hlt.2).2 q.2.2.2.1) q.2.2.2.2, show ((1 : Int) + 2).toNat = 3 from rfl, take3 l q.1]
          have q4 := q.2.2.2.1
          unfold en
          rw [if_neg (by unfold ill; omega), if_neg (by omega), if_neg (by omega), if_pos hlt.2]
          unfold c3
          rw [show 224 + (((rd l 0 - 224) * 64 + rd l 1 % 64) * 64 + rd l 2 % 64) / 4096 = rd l 0 by omega, show 128 + (((rd l 0 - 224) * 64 + rd l 1 % 64) * 64 + rd l 2 % 64) / 64 % 64 = rd l 1 by omega, show 128 + (((rd l 0 - 224) * 64 + rd l 1 % 64) * 64 + rd l 2 % 64) % 64 = rd l 2 by omega]
        · rw [if_neg q] at hs; cases hs
      · rw [if_neg g2] at hs
        by_cases g3 : rd l 0 / 8 = 30
        · rw [if_pos g3] at hs
          by_cases q : 4 ≤ l.length ∧ rd l 1 / 64 = 2 ∧ rd l 2 / 64 = 2 ∧ rd l 3 / 64 = 2 ∧ 65536 ≤ c4 l ∧ whole (c4 l)
          · rw [if_pos q] at hs
            obtain rfl := Option.some.inj hs
            have hw := q.2.2.2.2.2
            rw [sz_tl _ 3 ((tl4 _).2 q.2.2.2.2.1) hw, show ((1 : Int) + 3).toNat = 4 from rfl, take4 l q.1]
            have q5 := q.2.2.2.2.1
            unfold whole at hw
            unfold en
            rw [if_neg (by unfold ill; omega), if_neg (by omega), if_neg (by omega), if_neg (by omega)]
            unfold c4
            rw [show 240 + ((((rd l 0 - 240) * 64 + rd l 1 % 64) * 64 + rd l 2 % 64) * 64 + rd l 3 % 64) / 262144 = rd l 0 by omega, show 128 + ((((rd l 0 - 240) * 64 + rd l 1 % 64) * 64 + rd l 2 % 64) * 64 + rd l 3 % 64) / 4096 % 64 = rd l 1 by omega, show 128 + ((((rd l 0 - 240) * 64 + rd l 1 % 64) * 64 + rd l 2 % 64) * 64 + rd l 3 % 64) / 64 % 64 = rd l 2 by omega, show 128 + ((((rd l 0 - 240) * 64 + rd l 1 % 64) * 64 + rd l 2 % 64) * 64 + rd l 3 % 64) % 64 = rd l 3 by omega]
          · rw [if_neg q] at hs; cases hs
        · rw [if_neg g3] at hs; cases hs


theorem en_len (c : Int) (h : sz c ≠ 0) : ((en c).length : Int) = sz c := by
  have hp := sz_pos c h
  unfold en sz tl
  by_cases h1 : ill c
  · rw [if_pos h1, if_pos h1]; rfl
  · have hw : whole c := hp.resolve_left h1
    rw [if_neg h1, if_neg h1, if_pos hw]
    by_cases g1 : c < 128
    · rw [if_pos g1, if_pos g1]; rfl
    · by_cases g2 : c < 2048
      · rw [if_neg g1, if_pos g2, if_neg g1, if_pos g2]; rfl
      · by_cases g3 : c < 65536
        · rw [if_neg g1, if_neg g2, if_pos g3, if_neg g1, if_neg g2, if_pos g3]; rfl
        · rw [if_neg g1, if_neg g2, if_neg g3, if_neg g1, if_neg g2, if_neg g3]; rfl
theorem one_f (c : Int) : naskhref02_one.f c = some (if sz c = 0 then [] else en c) := by
  unfold naskhref02_one.f
  rw [refsize_f, Option.bind_some]
  by_cases h0 : sz c = 0
  · rw [if_pos h0, if_pos h0]
  · have hp := sz_pos c h0
    have hb : 0 ≤ c ∧ c ≤ 1114367 := by unfold ill whole at hp; omega
    rw [if_neg h0, if_neg h0, Int.tmod_eq_emod_of_nonneg (by omega), Int.tmod_eq_emod_of_nonneg (by omega), Int.tdiv_eq_ediv_of_nonneg (by omega), Int.tdiv_eq_ediv_of_nonneg (by omega), Int.tdiv_eq_ediv_of_nonneg (by omega),
      w64 (x := c / 64) (by omega) (by omega), w64 (x := c / 4096) (by omega) (by omega), w64 (x := c / 262144) (by omega) (by omega),
      Int.tmod_eq_emod_of_nonneg (by omega), Int.tmod_eq_emod_of_nonneg (by omega),
      w64 (x := 192 + c / 64) (by omega) (by omega), w64 (x := 128 + c % 64) (by omega) (by omega), w64 (x := 224 + c / 4096) (by omega) (by omega), w64 (x := 128 + c / 64 % 64) (by omega) (by omega), w64 (x := 240 + c / 262144) (by omega) (by omega), w64 (x := 128 + c / 4096 % 64) (by omega) (by omega)]
    unfold en sz tl
    by_cases h1 : ill c
    · have h1' := h1
      unfold ill at h1'
      rw [if_pos h1, if_pos rfl, if_pos h1]
      rw [show c % 256 % 256 = c - 1114112 by omega]
    · have hw : whole c := hp.resolve_left h1
      rw [if_neg h1, if_pos hw, if_neg h1]
      unfold whole at hw
      by_cases g1 : c < 128
      · rw [if_pos g1, if_pos (by omega), if_pos g1, show c % 256 % 256 = c by omega]
      · by_cases g2 : c < 2048
        · rw [if_neg g1, if_pos g2, if_neg (by omega), if_pos (by omega), if_neg g1, if_pos g2, show (192 + c / 64) % 256 = 192 + c / 64 by omega, show (128 + c % 64) % 256 = 128 + c % 64 by omega]
        · by_cases g3 : c < 65536
          · rw [if_neg g1, if_neg g2, if_pos g3, if_neg (by omega), if_neg (by omega), if_pos (by omega), if_neg g1, if_neg g2, if_pos g3, show (224 + c / 4096) % 256 = 224 + c / 4096 by omega, show (128 + c / 64 % 64) % 256 = 128 + c / 64 % 64 by omega, show (128 + c % 64) % 256 = 128 + c % 64 by omega]
          · rw [if_neg g1, if_neg g2, if_neg g3, if_neg (by omega), if_neg (by omega), if_neg (by omega), if_neg g1, if_neg g2, if_neg g3, show (240 + c / 262144) % 256 = 240 + c / 262144 by omega, show (128 + c / 4096 % 64) % 256 = 128 + c / 4096 % 64 by omega, show (128 + c / 64 % 64) % 256 = 128 + c / 64 % 64 by omega, show (128 + c % 64) % 256 = 128 + c % 64 by omega]

theorem awake_ok : naskhlaw02_awake.f 60 = some true := by decide +kernel
theorem refencode_loop (x0 : List Int) (hx : x0.length ≤ 2000) : ∀ (rest pre out : List Int) (k : Nat), x0 = pre ++ rest → out.length ≤ 4 * pre.length → rest.length + 1 < k →
    naskhref02_Encode.l0 k x0 out pre.length = some (if ∃ c ∈ rest, sz c = 0 then ([], 2) else (out ++ rest.flatMap en, 0)) := by
  intro rest
  induction rest with
  | nil =>
    intro pre out k h ho hk
    obtain ⟨k, rfl⟩ : ∃ m, k = m + 1 := ⟨k - 1, by omega⟩
    simp at h
    subst h
    rw [naskhref02_Encode.l0, if_neg (by omega)]; simp
  | cons c rest ih =>
    intro pre out k h ho hk
    obtain ⟨k, rfl⟩ : ∃ m, k = m + 1 := ⟨k - 1, by omega⟩
    have hlen : pre.length + 1 + rest.length = x0.length := by rw [h]; simp; omega
    have hr : rd x0 (pre.length : Int) = c := by rw [h]; exact rd_at pre c rest
    have hen := en_small c
    rw [List.length_cons] at hk
    have step := ih (pre ++ [c]) (out ++ en c) k (by rw [h]; simp) (by simp; omega) (by omega)
    simp only [List.length_append, List.length_cons, List.length_nil, Nat.zero_add, Int.natCast_add, Int.natCast_one] at step
    rw [naskhref02_Encode.l0, if_pos (by omega), if_pos (by omega), hr, refsize_f, Option.bind_some]
    by_cases hz : sz c = 0
    · rw [if_pos hz, if_pos ⟨c, by simp, hz⟩]
    · have e : (∃ c' ∈ c :: rest, sz c' = 0) = (∃ c' ∈ rest, sz c' = 0) := by simp [hz]
      simp only [e]
      rw [if_neg hz, one_f, Option.bind_some, if_neg hz, if_pos (by omega), w64 (x := (pre.length : Int) + 1) (by omega) (by omega), step]
      simp
theorem refencode_f (x0 : List Int) (hx : x0.length ≤ 2000) (k : Nat) (hk : x0.length + 2 ≤ k) : naskhref02_Encode.f k x0 = some (if ∃ c ∈ x0, sz c = 0 then ([], 2) else (x0.flatMap en, 0)) := by
  unfold naskhref02_Encode.f
  have := refencode_loop x0 hx x0 [] [] k rfl (by simp) (by omega)
  simp only [List.length_nil, Int.natCast_zero, List.nil_append] at this
  exact this
theorem sizes_loop (x0 : List Int) (hx : x0.length ≤ 2000) (hi : I64 x0) : ∀ (rest pre : List Int) (k : Nat), x0 = pre ++ rest → rest.length + 10 < k →
    narrow_Sizes.l0 k (pre.map sz) x0 x0.length pre.length = some (x0.map sz) := by
  intro rest
  induction rest with
  | nil =>
    intro pre k h hk
    obtain ⟨k, rfl⟩ : ∃ m, k = m + 1 := ⟨k - 1, by omega⟩
    simp at h
    subst h
    rw [narrow_Sizes.l0, if_neg (by omega), slices_Clip_int_int.f, if_pos (by omega), if_pos (by omega), Option.bind_some, Int.toNat_natCast, List.take_length]
  | cons c rest ih =>
    intro pre k h hk
    obtain ⟨k, rfl⟩ : ∃ m, k = m + 1 := ⟨k - 1, by omega⟩
    have hlen : pre.length + 1 + rest.length = x0.length := by rw [h]; simp; omega
    have hr : rd x0 (pre.length : Int) = c := by rw [h]; exact rd_at pre c rest
    rw [List.length_cons] at hk
    have := ih (pre ++ [c]) k (by rw [h]; simp) (by omega)
    simp only [List.length_append, List.length_cons, List.length_nil, Nat.zero_add, Int.natCast_add, Int.natCast_one, List.map_append, List.map_cons, List.map_nil] at this
    have hc := hi c (by rw [h]; simp)
    rw [narrow_Sizes.l0, if_pos (by omega), if_pos (by omega), if_pos (by omega), hr, size_f c hc.1 hc.2 k (by omega), Option.bind_some, if_pos (by simp; omega), w64 (by omega) (by omega), this]
theorem sizes_f (x0 : List Int) (hx : x0.length ≤ 2000) (hi : I64 x0) (k : Nat) (hk : x0.length + 12 ≤ k) : narrow_Sizes.f k x0 = some (x0.map sz) := by
  unfold narrow_Sizes.f
  rw [if_pos (by omega), if_pos (by omega)]
  have := sizes_loop x0 hx hi x0 [] k rfl (by omega)
  simpa using this
theorem refsizes_loop (x0 : List Int) (hx : x0.length ≤ 2000) : ∀ (rest pre : List Int) (k : Nat), x0 = pre ++ rest → rest.length + 1 < k →
    naskhref02_Sizes.l0 k x0 (pre.map sz) pre.length = some (x0.map sz) := by
  intro rest
  induction rest with
  | nil =>
    intro pre k h hk
    obtain ⟨k, rfl⟩ : ∃ m, k = m + 1 := ⟨k - 1, by omega⟩
    simp at h
    subst h
    rw [naskhref02_Sizes.l0, if_neg (by omega)]
  | cons c rest ih =>
    intro pre k h hk
    obtain ⟨k, rfl⟩ : ∃ m, k = m + 1 := ⟨k - 1, by omega⟩
    have hlen : pre.length + 1 + rest.length = x0.length := by rw [h]; simp; omega
    have hr : rd x0 (pre.length : Int) = c := by rw [h]; exact rd_at pre c rest
    rw [List.length_cons] at hk
    have := ih (pre ++ [c]) k (by rw [h]; simp) (by omega)
    simp only [List.length_append, List.length_cons, List.length_nil, Nat.zero_add, Int.natCast_add, Int.natCast_one, List.map_append, List.map_cons, List.map_nil] at this
    rw [naskhref02_Sizes.l0, if_pos (by omega), if_pos (by omega), hr, refsize_f, Option.bind_some, if_pos (by simp; omega), w64 (by omega) (by omega), this]
theorem refsizes_f (x0 : List Int) (hx : x0.length ≤ 2000) (k : Nat) (hk : x0.length + 2 ≤ k) : naskhref02_Sizes.f k x0 = some (x0.map sz) := by
  unfold naskhref02_Sizes.f
  have := refsizes_loop x0 hx x0 [] k rfl (by omega)
  simpa using this
theorem flat_small (l : List Int) : (l.flatMap en).length ≤ 4 * l.length := by
  induction l with
  | nil => simp
  | cons c l ih =>
    have := en_small c
    rw [List.flatMap_cons, List.length_append, List.length_cons]; omega
end Go.Proofs.Ytimkacnkmoofdaa.PureNarrowWritesAux
namespace Go.Proofs.Ytimkacnkmoofdaa.Pure
open Go.RowKit Go.Proofs.Ytimkacnkmoofdaa.PNarrowWrites Go.Proofs.YtimkacnkmoofdaaW.PrintWords Go.Proofs.YtimkacnkmoofdaaW.PrintLast Go.Proofs.Ytimkacnkmoofdaa.PureNarrowWritesAux
set_option maxRecDepth 20000 in
theorem NarrowWrites : naskhlaw02_NarrowWrites.Pure := by
  intro l _ _ hw
  refine ⟨10000, ?_⟩
  have hi := I64.of hw
  have aw : naskhlaw02_awake.f 10000 = some true := at_rounds (fun k => naskhlaw02_awake.mono k) (by omega) awake_ok
  unfold naskhlaw02_NarrowWrites.f
  by_cases h : (l.length : Int) > 2000
  · rw [if_pos h, aw]; rfl
  · have h2 := flat_small l
    rw [if_neg h, encode_f l (by omega) hi _ (by omega), Option.bind_some, refencode_f l (by omega) _ (by omega), Option.bind_some, if_pos rfl,
      equal_self_byte_byte _ (by split <;> simp at * <;> omega) _ (by split <;> simp at * <;> omega), Option.bind_some, if_pos rfl, sizes_f l (by omega) hi _ (by omega), Option.bind_some, refsizes_f l (by omega) _ (by omega), Option.bind_some,
      equal_self_int_int _ (by simp; omega) _ (by simp; omega), Option.bind_some, if_pos rfl, aw]
    rfl
end Go.Proofs.Ytimkacnkmoofdaa.Pure
