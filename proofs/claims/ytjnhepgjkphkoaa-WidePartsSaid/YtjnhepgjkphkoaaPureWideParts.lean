/- Units in two parts are the codes of both, unless they are parted within a code. No condition. -/
import Derived.Test.YtjnhepgjkphkoaaPWidePartsx
namespace Go.Proofs.Ytjnhepgjkphkoaa.PureWidePartsAux
open Go.RowKit Go.Proofs.Ytjnhepgjkphkoaa.PWideParts Go.Proofs.YtjnhepgjkphkoaaW.PrintWords Go.Proofs.YtjnhepgjkphkoaaW.PrintLast

set_option linter.unusedSimpArgs false
set_option linter.unusedVariables false
theorem w64 {x : Int} (h0 : -9223372036854775808 ≤ x) (h1 : x ≤ 9223372036854775807) : wrap64 x = x := by unfold wrap64; omega
theorem rd_at (pre : List Int) (x : Int) (rest : List Int) : rd (pre ++ x :: rest) (pre.length : Int) = x := by simp [rd]
theorem rd_nat (l : List Int) (i : Nat) (h : i < l.length) : rd l (i : Int) = l[i] := by simp [rd, h]
theorem wf64 {x : Int} (h : (Lit.int .i64 x).wf = true) : -9223372036854775808 ≤ x ∧ x ≤ 9223372036854775807 := by
  simpa [Lit.wf, IntKind.min, IntKind.max, IntKind.signed, IntKind.bits] using h
theorem bsome {P : Prop} [Decidable P] {b : Bool} (h : b = true ↔ P) : some b = some (decide P) := by
  congr 1; rw [Bool.eq_iff_iff]; simpa using h
theorem u16w {x : Int} (h0 : 0 ≤ x) (h1 : x ≤ 65535) : IntKind.u16.wrap x = x := by
  simp [IntKind.wrap, IntKind.min, IntKind.max, IntKind.signed, IntKind.bits]; omega

theorem eq_loop_int_int (a b : List Int) (hl : a.length = b.length) (hm : a.length ≤ 9223372036854775806) : ∀ d k i : Nat, i + d = a.length → d < k →
    slices_Equal_int_int.l0 k a b a.length i = some (decide (a.drop i = b.drop i)) := by
  intro d
  induction d with
  | zero =>
    intro k i hi hk
    obtain ⟨k, rfl⟩ : ∃ m, k = m + 1 := ⟨k - 1, by omega⟩
    simp only [slices_Equal_int_int.l0]
    rw [if_neg (by omega), List.drop_eq_nil_of_le (by omega), List.drop_eq_nil_of_le (by omega)]
    simp
  | succ d ih =>
    intro k i hi hk
    obtain ⟨k, rfl⟩ : ∃ m, k = m + 1 := ⟨k - 1, by omega⟩
    simp only [slices_Equal_int_int.l0]
    rw [if_pos (by omega), if_pos (by omega), if_pos (by omega), if_pos (by omega), rd_nat a i (by omega), rd_nat b i (by omega),
      List.drop_eq_getElem_cons (by omega : i < a.length), List.drop_eq_getElem_cons (by omega : i < b.length)]
    by_cases h : a[i]'(by omega) = b[i]'(by omega)
    · rw [if_pos h, w64 (by omega) (by omega)]
      have := ih k (i + 1) (by omega) (by omega)
      rw [Int.natCast_add] at this
      rw [show ((1 : Nat) : Int) = 1 from rfl] at this
      rw [this]
      congr 1
      rw [decide_eq_decide, List.cons.injEq]
      simp only [h, true_and]
    · rw [if_neg h]
      congr 1
      symm
      rw [decide_eq_false_iff_not, List.cons.injEq]
      exact fun e => h e.1
theorem equal_f_int_int (a b : List Int) (hm : a.length ≤ 9223372036854775806) (k : Nat) (hk : a.length < k) : slices_Equal_int_int.f k a b = some (decide (a = b)) := by
  unfold slices_Equal_int_int.f
  by_cases hl : a.length = b.length
  · rw [if_pos (by omega), show (0 : Int) = ((0 : Nat) : Int) from rfl, eq_loop_int_int a b hl hm a.length k 0 (by omega) hk]
    simp
  · rw [if_neg (by omega)]
    have : a ≠ b := fun e => hl (by rw [e])
    simp [this]
theorem equal_self_int_int (a : List Int) (hm : a.length ≤ 9223372036854775806) (k : Nat) (hk : a.length < k) : slices_Equal_int_int.f k a a = some true := by
  rw [equal_f_int_int a a hm k hk]; simp

/-- What a unit is by itself. -/
def cd (a : Int) : Int := if 55296 ≤ a ∧ a ≤ 57343 then 1114112 + a else a
def isHi (a : Int) : Prop := 55296 ≤ a ∧ a < 56320
def isLo (a : Int) : Prop := 56320 ≤ a ∧ a ≤ 57343
instance (a : Int) : Decidable (isHi a) := by unfold isHi; infer_instance
instance (a : Int) : Decidable (isLo a) := by unfold isLo; infer_instance
def pr (a b : Int) : Int := 65536 + (a - 55296) * 1024 + (b - 56320)
/-- The codes of units. -/
def dec : List Int → List Int
  | [] => []
  | [a] => [cd a]
  | a :: b :: t => if isHi a ∧ isLo b then pr a b :: dec t else cd a :: dec (b :: t)
def U16 (l : List Int) : Prop := ∀ x ∈ l, 0 ≤ x ∧ x ≤ 65535
theorem U16.of {l : List Int} (h : ∀ x ∈ l, (Lit.int .u16 x).wf = true) : U16 l := fun x hx => by
  simpa [Lit.wf, IntKind.min, IntKind.max, IntKind.signed, IntKind.bits] using h x hx
theorem U16.tail {a : Int} {l : List Int} (h : U16 (a :: l)) : U16 l := fun x hx => h x (List.mem_cons_of_mem _ hx)
theorem dec_len : ∀ l : List Int, (dec l).length ≤ l.length
  | [] => by simp [dec]
  | [a] => by simp [dec]
  | a :: b :: t => by
    unfold dec
    have h1 := dec_len t
    have h2 := dec_len (b :: t)
    split <;> simp at * <;> omega
theorem first_f (a : Int) : wide_unit_first.f a = some (decide (isHi a)) := by
  unfold wide_unit_first.f isHi
  by_cases h : a ≥ 55296
  · rw [if_pos h]; refine bsome ?_; simp; omega
  · rw [if_neg h]; refine bsome ?_; simp; omega
theorem second_f (a : Int) : wide_unit_second.f a = some (decide (isLo a)) := by
  unfold wide_unit_second.f isLo
  by_cases h : a ≥ 56320
  · rw [if_pos h]; refine bsome ?_; simp; omega
  · rw [if_neg h]; refine bsome ?_; simp; omega
theorem code_f (a : Int) (h0 : 0 ≤ a) (h1 : a ≤ 65535) : wide_unit_code.f a = some (cd a) := by
  unfold wide_unit_code.f wide_unit_lone.f cd
  rw [first_f, second_f]
  simp only [Option.bind_some]
  by_cases hh : isHi a
  · rw [if_pos (by simpa using hh), Option.bind_some, if_pos rfl, if_pos (by unfold isHi at hh; omega), w64 (x := a) (by omega) (by omega), w64 (by omega) (by omega)]
  · rw [if_neg (by simpa using hh), Option.bind_some]
    by_cases hl : isLo a
    · rw [if_pos (by simpa using hl), if_pos (by unfold isLo at hl; omega), w64 (x := a) (by omega) (by omega), w64 (by omega) (by omega)]
    · rw [if_neg (by simpa using hl), if_neg (by unfold isHi isLo at *; omega), w64 (x := a) (by omega) (by omega)]
theorem pair_f (a b : Int) (ha : isHi a) (hb : isLo b) : wide_pair.f a b = some (pr a b) := by
  unfold isHi isLo at *
  unfold wide_pair.f pr
  rw [u16w (x := a - 55296) (by omega) (by omega), u16w (x := b - 56320) (by omega) (by omega), w64 (x := a - 55296) (by omega) (by omega), w64 (x := (a - 55296) * 1024) (by omega) (by omega), w64 (x := b - 56320) (by omega) (by omega), w64 (x := 65536 + (a - 55296) * 1024) (by omega) (by omega), w64 (by omega) (by omega)]
theorem next_1 (a : Int) (h0 : 0 ≤ a) (h1 : a ≤ 65535) (k : Nat) : wide_next.f (k + 1) [a] = some (cd a, 1) := by
  unfold wide_next.f
  rw [if_pos (by simp), show rd [a] 0 = a from rfl, first_f, Option.bind_some]
  by_cases hh : isHi a
  · rw [if_pos (by simpa using hh)]
    simp only [wide_next.j0]
    rw [if_neg (by simp), code_f a h0 h1]; rfl
  · rw [if_neg (by simpa using hh)]
    simp only [wide_next.j0]
    rw [if_neg (by simp), code_f a h0 h1]; rfl
theorem next_2 (a b : Int) (t : List Int) (h0 : 0 ≤ a) (h1 : a ≤ 65535) (k : Nat) : wide_next.f (k + 1) (a :: b :: t) = some (if isHi a ∧ isLo b then (pr a b, 2) else (cd a, 1)) := by
  unfold wide_next.f
  have hlen : (1 : Int) < ((a :: b :: t).length : Int) := by simp; omega
  rw [if_pos (by simp; omega), show rd (a :: b :: t) 0 = a from rfl, first_f, Option.bind_some]
  by_cases hh : isHi a
  · rw [if_pos (by simpa using hh)]
    simp only [wide_next.j0]
    rw [if_pos (by simpa using hlen), if_pos hlen, show rd (a :: b :: t) 1 = b from rfl, second_f, Option.bind_some]
    by_cases hl : isLo b
    · rw [if_pos (by simpa using hl), pair_f a b hh hl, if_pos ⟨hh, hl⟩]; rfl
    · rw [if_neg (by simpa using hl), code_f a h0 h1, if_neg (fun h => hl h.2)]; rfl
  · rw [if_neg (by simpa using hh)]
    simp only [wide_next.j0]
    rw [if_neg (by simp), code_f a h0 h1, if_neg (fun h => hh h.1)]; rfl
theorem decode_loop : ∀ (n : Nat) (u out : List Int) (k : Nat), u.length ≤ n → U16 u → out.length + u.length ≤ 1000000 → 2 * n + 2 ≤ k → wide_Decode.l0 k u out = some (out ++ dec u) := by
  intro n
  induction n with
  | zero =>
    intro u out k hn hu hl hk
    obtain ⟨k, rfl⟩ : ∃ m, k = m + 1 := ⟨k - 1, by omega⟩
    obtain rfl : u = [] := List.eq_nil_of_length_eq_zero (by omega)
    simp only [wide_Decode.l0]
    rw [if_neg (by simp)]; simp [dec]
  | succ n ih =>
    intro u out k hn hu hl hk
    obtain ⟨k, rfl⟩ : ∃ m, k = m + 2 := ⟨k - 2, by omega⟩
    match u, hn, hu, hl with
    | [], _, _, _ => simp only [wide_Decode.l0]; rw [if_neg (by simp)]; simp [dec]
    | [a], _, hu, hl =>
      have ha := hu a (by simp)
      have := ih [] (out ++ [cd a]) (k + 1) (by simp) (fun x hx => by simp at hx) (by simp at hl ⊢; omega) (by omega)
      rw [wide_Decode.l0, if_pos (by simp), next_1 a ha.1 ha.2, Option.bind_some]
      simp only []
      rw [if_pos (by simp at hl; omega), if_pos (by omega), if_pos (by simp)]
      simp only [show (1 : Int).toNat = 1 from rfl, List.drop_succ_cons, List.drop_zero]
      rw [this]; simp [dec]
    | a :: b :: t, hn, hu, hl =>
      have ha := hu a (by simp)
      rw [wide_Decode.l0, if_pos (by simp; omega), next_2 a b t ha.1 ha.2, Option.bind_some]
      by_cases h : isHi a ∧ isLo b
      · have := ih t (out ++ [pr a b]) (k + 1) (by simp at hn; omega) hu.tail.tail (by simp at hl ⊢; omega) (by omega)
        rw [if_pos h]
        simp only []
        rw [if_pos (by simp at hl; omega), if_pos (by omega), if_pos (by simp; omega)]
        simp only [show (2 : Int).toNat = 2 from rfl, List.drop_succ_cons, List.drop_zero]
        rw [this]
        conv => rhs; rw [dec, if_pos h]
        simp
      · have := ih (b :: t) (out ++ [cd a]) (k + 1) (by simp at hn ⊢; omega) hu.tail (by simp at hl ⊢; omega) (by omega)
        rw [if_neg h]
        simp only []
        rw [if_pos (by simp at hl; omega), if_pos (by omega), if_pos (by simp; omega)]
        simp only [show (1 : Int).toNat = 1 from rfl, List.drop_succ_cons, List.drop_zero]
        rw [this]
        conv => rhs; rw [dec, if_neg h]
        simp
theorem decode_f (u : List Int) (hu : U16 u) (hl : u.length ≤ 1000000) (k : Nat) (hk : 2 * u.length + 2 ≤ k) : wide_Decode.f k u = some (dec u) := by
  unfold wide_Decode.f
  rw [decode_loop u.length u [] k (Nat.le_refl _) hu (by simpa using hl) hk]; rfl

theorem awake_ok : naskhlaw01_awake.f 40 = some true := by decide +kernel
theorem dec_append : ∀ (u v : List Int), (∀ a b, u.getLast? = some a → v.head? = some b → ¬ (isHi a ∧ isLo b)) → dec (u ++ v) = dec u ++ dec v
  | [], v, _ => by simp [dec]
  | [a], [], _ => by simp [dec]
  | [a], b :: v, h => by
    have := h a b (by simp) (by simp)
    simp only [List.cons_append, List.nil_append]
    conv => lhs; rw [dec, if_neg this]
    simp [dec]
  | a :: b :: t, v, h => by
    simp only [List.cons_append]
    rw [dec]
    conv => rhs; rw [dec]
    by_cases h2 : isHi a ∧ isLo b
    · rw [if_pos h2, if_pos h2, dec_append t v (fun x y hx hy => by
        cases t with
        | nil => simp at hx
        | cons c t => exact h x y (by simpa using hx) hy)]
      simp
    · have := dec_append (b :: t) v (fun x y hx hy => h x y (by simpa using hx) hy)
      simp only [List.cons_append] at this
      rw [if_neg h2, if_neg h2, this]
      simp
end Go.Proofs.Ytjnhepgjkphkoaa.PureWidePartsAux
namespace Go.Proofs.Ytjnhepgjkphkoaa.Pure
open Go.RowKit Go.Proofs.Ytjnhepgjkphkoaa.PWideParts Go.Proofs.YtjnhepgjkphkoaaW.PrintWords Go.Proofs.YtjnhepgjkphkoaaW.PrintLast Go.Proofs.Ytjnhepgjkphkoaa.PureWidePartsAux
set_option maxRecDepth 20000 in
theorem WideParts : naskhlaw01_WideParts.Pure := by
  intro u v _ _ hu0 _ _ hv0
  refine ⟨10002, ?_⟩
  have hu := U16.of hu0
  have hv := U16.of hv0
  have aw : ∀ k, 100 ≤ k → naskhlaw01_awake.f k = some true := fun k hk => at_rounds (fun k => naskhlaw01_awake.mono k) (by omega) awake_ok
  have j0t : ∀ k, 101 ≤ k → naskhlaw01_WideParts.j0 k u v true = some true := by
    intro k hk
    obtain ⟨k, rfl⟩ : ∃ m, k = m + 1 := ⟨k - 1, by omega⟩
    rw [naskhlaw01_WideParts.j0, if_pos rfl, aw _ (by omega)]; rfl
  have j1t : ∀ k, 101 ≤ k → naskhlaw01_WideParts.j1 k u v true = some true := by
    intro k hk
    obtain ⟨k, rfl⟩ : ∃ m, k = m + 1 := ⟨k - 1, by omega⟩
    rw [naskhlaw01_WideParts.j1, if_pos rfl, aw _ (by omega)]; rfl
  unfold naskhlaw01_WideParts.f
  by_cases h1 : (u.length : Int) > 1000
  · rw [if_pos h1, j0t _ (by omega)]
  · rw [if_neg h1]
    by_cases h2 : (v.length : Int) > 1000
    · rw [decide_eq_true h2, j0t _ (by omega)]
    · rw [decide_eq_false h2, naskhlaw01_WideParts.j0, if_neg (by simp)]
      have main : ∀ b : Bool, b = false → (∀ a b, u.getLast? = some a → v.head? = some b → ¬ (isHi a ∧ isLo b)) → naskhlaw01_WideParts.j1 10001 u v b = some true := by
        intro b hb h
        subst hb
        have huv : U16 (u ++ v) := fun x hx => by
          rcases List.mem_append.1 hx with hx | hx
          · exact hu x hx
          · exact hv x hx
        have l1 := dec_len u
        have l2 := dec_len v
        rw [naskhlaw01_WideParts.j1, if_neg (by simp), slices_Clone_uint16_uint16.f, Option.bind_some, if_pos (by simp; omega), List.nil_append, Option.bind_some, if_pos (by omega), decode_f (u ++ v) huv (by simp; omega) _ (by simp; omega), Option.bind_some,
          decode_f u hu (by omega) _ (by omega), Option.bind_some, decode_f v hv (by omega) _ (by omega), Option.bind_some, if_pos (by omega), dec_append u v h, equal_self_int_int _ (by simp; omega) _ (by simp; omega), Option.bind_some, if_pos rfl, aw _ (by omega)]
        rfl
      by_cases h3 : (u.length : Int) > 0
      · rw [if_pos h3]
        by_cases h4 : (v.length : Int) > 0
        · rw [if_pos h4]
          obtain ⟨u', a, rfl⟩ : ∃ u' a, u = u' ++ [a] := ⟨u.dropLast, u.getLast (by intro e; simp [e] at h3), (List.dropLast_concat_getLast _).symm⟩
          obtain ⟨b, v', rfl⟩ : ∃ b v', v = b :: v' := by
            cases v with
            | nil => simp at h4
            | cons b v' => exact ⟨b, v', rfl⟩
          have hra : rd (u' ++ [a]) (((u' ++ [a]).length : Int) - 1) = a := by simp [rd]
          have hrb : rd (b :: v') 0 = b := rfl
          have ha := hu a (by simp)
          have hb := hv b (by simp)
          rw [w64 (by omega) (by omega), if_pos (by omega), if_pos (by omega), hra, hrb]
          by_cases h5 : a / 1024 = 54
          · rw [if_pos h5, if_pos (by omega)]
            by_cases h6 : b / 1024 = 55
            · rw [h6]
              exact j1t _ (by omega)
            · exact main _ (by simpa using h6) (fun x y hx hy hh => by
                simp at hx hy
                subst hx; subst hy
                have := hh.2
                unfold isLo at this
                omega)
          · rw [if_neg h5]
            exact main _ rfl (fun x y hx hy hh => by
                simp at hx hy
                subst hx; subst hy
                have := hh.1
                unfold isHi at this
                omega)
        · rw [if_neg h4]
          exact main _ rfl (fun x y hx hy => by
            have : v = [] := List.eq_nil_of_length_eq_zero (by omega)
            rw [this] at hy; simp at hy)
      · rw [if_neg h3]
        exact main _ rfl (fun x y hx hy => by
            have : u = [] := List.eq_nil_of_length_eq_zero (by omega)
            rw [this] at hx; simp at hx)
end Go.Proofs.Ytjnhepgjkphkoaa.Pure
