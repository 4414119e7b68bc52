/- Whether any numbers are an order, its inverse, and what is seen by it, is what the document says. No condition. -/
import Derived.Test.YtimkacnkmoofdaaPOrderTellsx
namespace Go.Proofs.Ytimkacnkmoofdaa.PureOrderTellsAux
open Go.RowKit Go.Proofs.Ytimkacnkmoofdaa.POrderTells Go.Proofs.YtimkacnkmoofdaaW.PrintWords Go.Proofs.YtimkacnkmoofdaaW.PrintLast

set_option linter.unusedSimpArgs false
set_option linter.unusedVariables false
theorem w64 {x : Int} (h0 : -9223372036854775808 ≤ x) (h1 : x ≤ 9223372036854775807) : wrap64 x = x := by unfold wrap64; omega
theorem rd_at (pre : List Int) (x : Int) (rest : List Int) : rd (pre ++ x :: rest) (pre.length : Int) = x := by simp [rd]
theorem rd_nat (l : List Int) (i : Nat) (h : i < l.length) : rd l (i : Int) = l[i] := by simp [rd, h]
theorem wf64 {x : Int} (h : (Lit.int .i64 x).wf = true) : -9223372036854775808 ≤ x ∧ x ≤ 9223372036854775807 := by
  simpa [Lit.wf, IntKind.min, IntKind.max, IntKind.signed, IntKind.bits] using h
theorem bsome {P : Prop} [Decidable P] {b : Bool} (h : b = true ↔ P) : some b = some (decide P) := by
  congr 1; rw [Bool.eq_iff_iff]; simpa using h
theorem u16w {x : Int} (h0 : 0 ≤ x) (h1 : x ≤ 65535) : IntKind.u16.wrap x = x := by
  simp [IntKind.wrap, IntKind.min, IntKind.max, IntKind.signed, IntKind.bits]; omega

theorem wraps_i64' (n : Int) (h₀ : 0 ≤ n) (h₁ : n < 2 ^ 62) : IntKind.i64.wrap n = n := by rw [IntKind.wrap_i64]; omega
theorem and_mask (x : Int) (i : Nat) (hi : i ≤ 62) (h0 : 0 ≤ x) (h1 : x < 2 ^ 62) : Go.bits .and .i64 x (2 ^ i - 1) = x % 2 ^ i := bits_mask .i64 62 (by decide) wraps_i64' i hi x h0 h1

theorem eq_loop_int_int (a b : List Int) (hl : a.length = b.length) (hm : a.length ≤ 9223372036854775806) : ∀ d k i : Nat, i + d = a.length → d < k →
    slices_Equal_int_int.l0 k a b a.length i = some (decide (a.drop i = b.drop i)) := by
  intro d
  induction d with
  | zero =>
    intro k i hi hk
    obtain ⟨k, rfl⟩ : ∃ m, k = m + 1 := ⟨k - 1, by omega⟩
    simp only [slices_Equal_int_int.l0]
    rw [if_neg (by omega), List.drop_eq_nil_of_le (by omega), List.drop_eq_nil_of_le (by omega)]
    simp
  | succ d ih =>
    intro k i hi hk
    obtain ⟨k, rfl⟩ : ∃ m, k = m + 1 := ⟨k - 1, by omega⟩
    simp only [slices_Equal_int_int.l0]
    rw [if_pos (by omega), if_pos (by omega), if_pos (by omega), if_pos (by omega), rd_nat a i (by omega), rd_nat b i (by omega),
      List.drop_eq_getElem_cons (by omega : i < a.length), List.drop_eq_getElem_cons (by omega : i < b.length)]
    by_cases h : a[i]'(by omega) = b[i]'(by omega)
    · rw [if_pos h, w64 (by omega) (by omega)]
      have := ih k (i + 1) (by omega) (by omega)
      rw [Int.natCast_add] at this
      rw [show ((1 : Nat) : Int) = 1 from rfl] at this
      rw [this]
      congr 1
      rw [decide_eq_decide, List.cons.injEq]
      simp only [h, true_and]
    · rw [if_neg h]
      congr 1
      symm
      rw [decide_eq_false_iff_not, List.cons.injEq]
      exact fun e => h e.1
theorem equal_f_int_int (a b : List Int) (hm : a.length ≤ 9223372036854775806) (k : Nat) (hk : a.length < k) : slices_Equal_int_int.f k a b = some (decide (a = b)) := by
  unfold slices_Equal_int_int.f
  by_cases hl : a.length = b.length
  · rw [if_pos (by omega), show (0 : Int) = ((0 : Nat) : Int) from rfl, eq_loop_int_int a b hl hm a.length k 0 (by omega) hk]
    simp
  · rw [if_neg (by omega)]
    have : a ≠ b := fun e => hl (by rw [e])
    simp [this]
theorem equal_self_int_int (a : List Int) (hm : a.length ≤ 9223372036854775806) (k : Nat) (hk : a.length < k) : slices_Equal_int_int.f k a a = some true := by
  rw [equal_f_int_int a a hm k hk]; simp

/-- Where each number stands; none: the numbers are no order. -/
def plc : List Int → Nat → List Int → Option (List Int)
  | out, _, [] => some out
  | out, i, v :: rest => if 0 ≤ v ∧ v < (out.length : Int) ∧ rd out v < 0 then plc (out.set v.toNat (i : Int)) (i + 1) rest else none
theorem places_loop (l : List Int) (hm : l.length ≤ 35184372088832) : ∀ (rest pre out : List Int) (k : Nat), l = pre ++ rest → rest.length < k → out.length = l.length →
    order_places.l0 k l out l (l.length : Int) (pre.length : Int) = some (match plc out pre.length rest with | some o => (o, true) | none => ([], false)) := by
  intro rest
  induction rest with
  | nil =>
    intro pre out k hl hk ho
    obtain ⟨k, rfl⟩ : ∃ m, k = m + 1 := ⟨k - 1, by omega⟩
    rw [order_places.l0, if_neg (by rw [hl]; simp)]
    rfl
  | cons v rest ih =>
    intro pre out k hl hk ho
    obtain ⟨k, rfl⟩ : ∃ m, k = m + 1 := ⟨k - 1, by omega⟩
    rw [List.length_cons] at hk
    have hlen : l.length = pre.length + rest.length + 1 := by rw [hl]; simp; omega
    have hrd : rd l (pre.length : Int) = v := by rw [hl]; exact rd_at pre v rest
    have step := fun out ho => ih (pre ++ [v]) out k (by rw [hl]; simp) (by omega) ho
    simp only [List.length_append, List.length_cons, List.length_nil, Nat.zero_add, Int.natCast_add, Int.natCast_one] at step
    rw [order_places.l0, if_pos (by omega), if_pos (by omega), if_pos (by omega), hrd, plc]
    by_cases h1 : v < 0
    · rw [if_pos h1, if_neg (by omega)]
    · rw [if_neg h1]
      by_cases h2 : (l.length : Int) ≤ v
      · rw [if_pos h2, if_neg (by omega)]
      · rw [if_neg h2, if_pos (by omega), if_pos (by omega)]
        by_cases h3 : 0 ≤ rd out v
        · rw [if_pos h3, if_neg (by omega)]
        · rw [if_neg h3, if_pos (by omega), w64 (by omega) (by omega), step _ (by rw [List.length_set]; exact ho)]
theorem places_f (l : List Int) (k : Nat) (hk : l.length < k) (hl : l.length ≤ 35184372088832) :
    order_places.f k l = some (match plc (List.replicate l.length (-1)) 0 l with | some o => (o, true) | none => ([], false)) := by
  unfold order_places.f slices_Repeat_int_int.f
  rw [if_pos (show ([(-1)] : List Int).length = 1 from rfl), if_pos (by omega), if_pos (by omega), Option.bind_some]
  have := places_loop l hl l [] (List.replicate l.length (-1)) k rfl hk (by simp)
  simpa [rd] using this
theorem permutes_f (l : List Int) (k : Nat) (hk : l.length < k) (hl : l.length ≤ 35184372088832) : order_Permutes.f k l = some (plc (List.replicate l.length (-1)) 0 l).isSome := by
  unfold order_Permutes.f
  rw [places_f l k hk hl, Option.bind_some]
  cases plc (List.replicate l.length (-1)) 0 l <;> rfl
theorem rd_set (out : List Int) (v w : Int) (x : Int) (hv : 0 ≤ v ∧ v < (out.length : Int)) (hw : 0 ≤ w) : rd (out.set v.toNat x) w = if w = v then x else rd out w := by
  unfold rd
  simp only [List.getD_eq_getElem?_getD, List.getElem?_set]
  by_cases h : w = v
  · subst h; rw [if_pos rfl, if_pos rfl, if_pos (by omega)]; rfl
  · rw [if_neg h, if_neg (by omega)]
/-- Numbers that are all unlike, and all in, are an order. -/
theorem plc_some : ∀ (rest pre out : List Int), (pre ++ rest).Nodup → (∀ v ∈ rest, 0 ≤ v ∧ v < (out.length : Int)) → (∀ v, 0 ≤ v → (0 ≤ rd out v → v ∈ pre ∨ (out.length : Int) ≤ v)) → ∃ o, plc out pre.length rest = some o
  | [], pre, out, _, _, _ => ⟨out, rfl⟩
  | v :: rest, pre, out, hd, hb, hs => by
    have hv := hb v (by simp)
    have hnp : v ∉ pre := by
      intro h
      rw [List.nodup_append] at hd
      exact hd.2.2 v h v (by simp) rfl
    have hneg : rd out v < 0 := by
      apply Classical.byContradiction
      intro h
      rcases hs v hv.1 (by omega) with h1 | h1
      · exact hnp h1
      · omega
    rw [plc, if_pos ⟨hv.1, hv.2, hneg⟩]
    have h := plc_some rest (pre ++ [v]) (out.set v.toNat (pre.length : Int)) (by simpa using hd) (by rw [List.length_set]; exact fun w hw => hb w (by simp [hw])) (fun w hw h => by
      rw [List.length_set]
      rw [rd_set out v w _ hv hw] at h
      by_cases e : w = v
      · left; simp [e]
      · rw [if_neg e] at h
        rcases hs w hw h with h1 | h1
        · left; simp [h1]
        · right; exact h1)
    simpa using h

theorem plc_range : ∀ (rest out : List Int) (i : Nat) (o : List Int), plc out i rest = some o → (∀ v ∈ rest, 0 ≤ v ∧ v < (out.length : Int)) ∧ o.length = out.length
  | [], out, i, o, h => by rw [plc] at h; obtain rfl := Option.some.inj h; exact ⟨fun v hv => by simp at hv, rfl⟩
  | v :: rest, out, i, o, h => by
    rw [plc] at h
    by_cases hc : 0 ≤ v ∧ v < (out.length : Int) ∧ rd out v < 0
    · rw [if_pos hc] at h
      obtain ⟨h1, h2⟩ := plc_range rest _ _ o h
      rw [List.length_set] at h1 h2
      refine ⟨fun w hw => ?_, h2⟩
      rcases List.mem_cons.mp hw with e | hw
      · subst e; exact ⟨hc.1, hc.2.1⟩
      · exact h1 w hw
    · rw [if_neg hc] at h; cases h
/-- How many places are not filled. -/
def neg (out : List Int) : Nat := out.countP fun x => decide (x < 0)
theorem neg_set (out : List Int) (v : Int) (x : Int) (hv : 0 ≤ v ∧ v < (out.length : Int)) (hn : rd out v < 0) (hx : 0 ≤ x) : neg (out.set v.toNat x) + 1 = neg out := by
  have hlt : v.toNat < out.length := by omega
  have hr : rd out v = out[v.toNat] := by unfold rd; simp [hlt]
  rw [hr] at hn
  have e : out = out.take v.toNat ++ out[v.toNat] :: out.drop (v.toNat + 1) := by rw [← List.drop_eq_getElem_cons hlt, List.take_append_drop]
  unfold neg
  rw [List.set_eq_take_append_cons_drop, if_pos hlt]
  conv => rhs; rw [e]
  rw [List.countP_append, List.countP_append, List.countP_cons, List.countP_cons, if_neg (by simp; omega), if_pos (by simp; omega)]
  omega
theorem plc_neg : ∀ (rest out : List Int) (i : Nat) (o : List Int), plc out i rest = some o → neg o + rest.length = neg out
  | [], out, i, o, h => by rw [plc] at h; obtain rfl := Option.some.inj h; rfl
  | v :: rest, out, i, o, h => by
    rw [plc] at h
    by_cases hc : 0 ≤ v ∧ v < (out.length : Int) ∧ rd out v < 0
    · rw [if_pos hc] at h
      have h1 := plc_neg rest _ _ o h
      have h2 := neg_set out v (i : Int) ⟨hc.1, hc.2.1⟩ hc.2.2 (by omega)
      rw [List.length_cons]
      omega
    · rw [if_neg hc] at h; cases h
theorem neg_zero (o : List Int) (h : neg o = 0) (j : Int) (h0 : 0 ≤ j ∧ j < (o.length : Int)) : 0 ≤ rd o j := by
  unfold neg at h
  rw [List.countP_eq_zero] at h
  have hlt : j.toNat < o.length := by omega
  have hr : rd o j = o[j.toNat] := by unfold rd; simp [hlt]
  rw [hr]
  have := h o[j.toNat] (List.getElem_mem hlt)
  simpa using this
theorem plc_full (l o : List Int) (h : plc (List.replicate l.length (-1)) 0 l = some o) : o.length = l.length ∧ ∀ j : Int, 0 ≤ j → j < (l.length : Int) → 0 ≤ rd o j := by
  obtain ⟨_, h2⟩ := plc_range _ _ _ _ h
  rw [List.length_replicate] at h2
  refine ⟨h2, fun j h0 h1 => neg_zero o ?_ j ⟨h0, by omega⟩⟩
  have h3 := plc_neg _ _ _ _ h
  have h4 : neg (List.replicate l.length (-1)) = l.length := by unfold neg; simp [List.countP_replicate]
  omega
theorem rdB_set (s : List Bool) (v w : Int) (hv : 0 ≤ v ∧ v < (s.length : Int)) (hw : 0 ≤ w) : rdOf false (s.set v.toNat true) w = if w = v then true else rdOf false s w := by
  unfold rdOf
  simp only [List.getD_eq_getElem?_getD, List.getElem?_set]
  by_cases h : w = v
  · subst h; rw [if_pos rfl, if_pos rfl, if_pos (by omega)]; rfl
  · rw [if_neg h, if_neg (by omega)]
theorem refperm_loop (l : List Int) (hm : l.length ≤ 35184372088832) : ∀ (rest pre out : List Int) (seen : List Bool) (k : Nat), l = pre ++ rest → rest.length < k → out.length = l.length → seen.length = l.length →
    (∀ v : Int, 0 ≤ v → (rdOf false seen v = true ↔ (0 ≤ v ∧ v < (l.length : Int) ∧ 0 ≤ rd out v))) → naskhref29_Permutes.l0 k l seen (pre.length : Int) = some (plc out pre.length rest).isSome := by
  intro rest
  induction rest with
  | nil =>
    intro pre out seen k hl hk ho hs hr
    obtain ⟨k, rfl⟩ : ∃ m, k = m + 1 := ⟨k - 1, by omega⟩
    rw [naskhref29_Permutes.l0, if_neg (by rw [hl]; simp)]
    rfl
  | cons v rest ih =>
    intro pre out seen k hl hk ho hs hr
    obtain ⟨k, rfl⟩ : ∃ m, k = m + 1 := ⟨k - 1, by omega⟩
    rw [List.length_cons] at hk
    have hlen : l.length = pre.length + rest.length + 1 := by rw [hl]; simp; omega
    have hrd : rd l (pre.length : Int) = v := by rw [hl]; exact rd_at pre v rest
    have step := fun out seen ho hs hr => ih (pre ++ [v]) out seen k (by rw [hl]; simp) (by omega) ho hs hr
    simp only [List.length_append, List.length_cons, List.length_nil, Nat.zero_add, Int.natCast_add, Int.natCast_one] at step
    rw [naskhref29_Permutes.l0, if_pos (by omega), if_pos (by omega), hrd, plc]
    by_cases h1 : v < 0
    · rw [if_pos h1, if_neg (by omega)]; rfl
    · rw [if_neg h1]
      by_cases h2 : (l.length : Int) ≤ v
      · rw [if_pos h2, if_neg (by omega)]; rfl
      · rw [if_neg h2, if_pos (by omega), if_pos (by omega)]
        by_cases h3 : 0 ≤ rd out v
        · rw [if_pos ((hr v (by omega)).mpr ⟨by omega, by omega, h3⟩), if_neg (by omega)]; rfl
        · rw [if_neg (fun h => h3 ((hr v (by omega)).mp h).2.2), if_pos (by omega), w64 (by omega) (by omega)]
          refine step _ _ (by rw [List.length_set]; exact ho) (by rw [List.length_set]; exact hs) (fun w hw => ?_)
          rw [rdB_set seen v w (by omega) hw, rd_set out v w _ (by omega) hw]
          by_cases e : w = v
          · rw [if_pos e, if_pos e]; simp; omega
          · rw [if_neg e, if_neg e]; exact hr w hw
theorem refperm_f (l : List Int) (k : Nat) (hk : l.length < k) (hl : l.length ≤ 35184372088832) : naskhref29_Permutes.f k l = some (plc (List.replicate l.length (-1)) 0 l).isSome := by
  unfold naskhref29_Permutes.f
  rw [if_pos (by omega), if_pos (by omega)]
  refine refperm_loop l hl l [] _ _ k rfl hk (by simp) (by simp) (fun v hv => ?_)
  have e1 : rdOf false (List.replicate ((l.length : Int)).toNat false) v = false := by
    unfold rdOf; rw [List.getD_eq_getElem?_getD, List.getElem?_replicate]; split <;> rfl
  rw [e1]
  constructor
  · intro h; cases h
  · rintro ⟨h1, h2, h3⟩
    have e2 : rd (List.replicate l.length (-1)) v = -1 := by
      unfold rd; rw [List.getD_eq_getElem?_getD, List.getElem?_replicate, if_pos (by omega)]; rfl
    omega
theorem refinv_loop (l : List Int) (hm : l.length ≤ 35184372088832) : ∀ (rest pre out x4 : List Int) (k : Nat) (o : List Int), l = pre ++ rest → rest.length < k → out.length = l.length → x4.length = l.length →
    (∀ v : Int, 0 ≤ v → v < (l.length : Int) → 0 ≤ rd out v → rd x4 v = rd out v) → plc out pre.length rest = some o →
    ∃ x, naskhref29_Inverse.l0 k l x4 (pre.length : Int) = some (x, 0) ∧ x.length = l.length ∧ ∀ v : Int, 0 ≤ v → v < (l.length : Int) → 0 ≤ rd o v → rd x v = rd o v := by
  intro rest
  induction rest with
  | nil =>
    intro pre out x4 k o hl hk ho hx hr hp
    obtain ⟨k, rfl⟩ : ∃ m, k = m + 1 := ⟨k - 1, by omega⟩
    rw [plc] at hp
    obtain rfl := Option.some.inj hp
    rw [naskhref29_Inverse.l0, if_neg (by rw [hl]; simp)]
    exact ⟨x4, rfl, hx, hr⟩
  | cons v rest ih =>
    intro pre out x4 k o hl hk ho hx hr hp
    obtain ⟨k, rfl⟩ : ∃ m, k = m + 1 := ⟨k - 1, by omega⟩
    rw [List.length_cons] at hk
    have hlen : l.length = pre.length + rest.length + 1 := by rw [hl]; simp; omega
    have hrd : rd l (pre.length : Int) = v := by rw [hl]; exact rd_at pre v rest
    rw [plc] at hp
    by_cases hc : 0 ≤ v ∧ v < (out.length : Int) ∧ rd out v < 0
    · rw [if_pos hc] at hp
      have step := ih (pre ++ [v]) (out.set v.toNat (pre.length : Int)) (x4.set v.toNat (pre.length : Int)) k o (by rw [hl]; simp) (by omega) (by rw [List.length_set]; exact ho) (by rw [List.length_set]; exact hx) (fun w h0 h1 h2 => by
        rw [rd_set out v w _ (by omega) h0] at h2 ⊢
        rw [rd_set x4 v w _ (by omega) h0]
        by_cases e : w = v
        · rw [if_pos e, if_pos e]
        · rw [if_neg e] at h2
          rw [if_neg e, if_neg e]
          exact hr w h0 h1 h2) (by simpa using hp)
      simp only [List.length_append, List.length_cons, List.length_nil, Nat.zero_add, Int.natCast_add, Int.natCast_one] at step
      rw [naskhref29_Inverse.l0, if_pos (by omega), if_pos (by omega), hrd, if_pos hc.1, if_pos (by omega), w64 (by omega) (by omega)]
      exact step
    · rw [if_neg hc] at hp; cases hp
theorem rd_ext (a b : List Int) (hl : a.length = b.length) (h : ∀ v : Int, 0 ≤ v → v < (a.length : Int) → rd a v = rd b v) : a = b := by
  apply List.ext_getElem hl
  intro i h1 h2
  have := h (i : Int) (by omega) (by omega)
  rwa [rd_nat a i h1, rd_nat b i h2] at this
theorem refinv_f (l : List Int) (k : Nat) (hk : l.length < k) (hl : l.length ≤ 35184372088832) :
    naskhref29_Inverse.f k l = some (match plc (List.replicate l.length (-1)) 0 l with | some o => (o, 0) | none => ([], 13)) := by
  unfold naskhref29_Inverse.f
  rw [refperm_f l k hk hl, Option.bind_some]
  cases hp : plc (List.replicate l.length (-1)) 0 l with
  | none => rw [if_neg (by simp)]
  | some o =>
    rw [if_pos (by simp), if_pos (by omega), if_pos (by omega)]
    obtain ⟨x, h1, h2, h3⟩ := refinv_loop l hl l [] (List.replicate l.length (-1)) (List.replicate ((l.length : Int)).toNat 0) k o rfl hk (by simp) (by simp) (fun v h0 h1 h2 => by
      have e2 : rd (List.replicate l.length (-1)) v = -1 := by
        unfold rd; rw [List.getD_eq_getElem?_getD, List.getElem?_replicate, if_pos (by omega)]; rfl
      omega) (by simpa using hp)
    obtain ⟨h4, h5⟩ := plc_full l o hp
    have h6 : naskhref29_Inverse.l0 k l (List.replicate ((l.length : Int)).toNat 0) 0 = some (x, 0) := h1
    rw [h6]
    have : x = o := rd_ext x o (by omega) (fun v h0 h1 => h3 v h0 (by omega) (h5 v h0 (by omega)))
    rw [this]
theorem inverse_f (l : List Int) (k : Nat) (hk : l.length < k) (hl : l.length ≤ 35184372088832) :
    order_Inverse.f k l = some (match plc (List.replicate l.length (-1)) 0 l with | some o => (o, 0) | none => ([], 13)) := by
  unfold order_Inverse.f
  rw [places_f l k hk hl, Option.bind_some]
  cases plc (List.replicate l.length (-1)) 0 l with
  | none => rw [if_neg (by simp)]
  | some o => rw [if_pos (by simp)]
theorem apply_loop (l x0 : List Int) (hm : x0.length ≤ 17592186044416) : ∀ (rest pre : List Int) (k : Nat), x0 = pre ++ rest → rest.length < k → (∀ v ∈ rest, 0 ≤ v ∧ v < (l.length : Int)) →
    order_Apply.l0 k l (pre.map (rd l)) x0 (x0.length : Int) (pre.length : Int) = some (x0.map (rd l), 0) := by
  intro rest
  induction rest with
  | nil =>
    intro pre k hl hk hv
    obtain ⟨k, rfl⟩ : ∃ m, k = m + 1 := ⟨k - 1, by omega⟩
    rw [order_Apply.l0, if_neg (by rw [hl]; simp), hl]
    simp
  | cons v rest ih =>
    intro pre k hl hk hv
    obtain ⟨k, rfl⟩ : ∃ m, k = m + 1 := ⟨k - 1, by omega⟩
    rw [List.length_cons] at hk
    have hlen : x0.length = pre.length + rest.length + 1 := by rw [hl]; simp; omega
    have hrd : rd x0 (pre.length : Int) = v := by rw [hl]; exact rd_at pre v rest
    have hb := hv v (by simp)
    have step := ih (pre ++ [v]) k (by rw [hl]; simp) (by omega) (fun w hw => hv w (by simp [hw]))
    simp only [List.length_append, List.length_cons, List.length_nil, Nat.zero_add, Int.natCast_add, Int.natCast_one, List.map_append, List.map_cons, List.map_nil] at step
    rw [order_Apply.l0, if_pos (by omega), if_pos (by omega), if_pos (by omega), hrd, if_pos hb.1, if_pos hb.2, if_pos (by rw [List.length_map]; omega), w64 (by omega) (by omega), step]
/-- What is seen of a list. -/
def app (o l : List Int) : List Int × Int := if o.length = l.length ∧ (plc (List.replicate o.length (-1)) 0 o).isSome = true then (o.map (rd l), 0) else ([], 13)
theorem apply_f (o l : List Int) (k : Nat) (hk : o.length + 1 < k) (ho : o.length ≤ 17592186044416) : order_Apply.f k o l = some (app o l) := by
  unfold order_Apply.f app
  obtain ⟨k, rfl⟩ : ∃ m, k = m + 1 := ⟨k - 1, by omega⟩
  by_cases hl : o.length = l.length
  · rw [if_pos (by omega), permutes_f o (k + 1) (by omega) (by omega), Option.bind_some]
    cases hp : plc (List.replicate o.length (-1)) 0 o with
    | none => rw [order_Apply.j0, if_pos (by simp), if_neg (by simp)]
    | some q =>
      obtain ⟨h1, _⟩ := plc_range _ _ _ _ hp
      rw [List.length_replicate] at h1
      rw [order_Apply.j0, if_neg (by simp), if_pos (by omega), if_pos (by omega), if_pos ⟨hl, rfl⟩]
      have := apply_loop l o ho o [] k rfl (by omega) (fun v hv => by have := h1 v hv; omega)
      simpa using this
  · rw [if_neg (by omega), order_Apply.j0, if_pos rfl, if_neg (by simp [hl])]

theorem awake_ok : naskhlaw29_awake.f 40 = some true := by decide +kernel

theorem refapply_loop (l x0 : List Int) (hm : x0.length ≤ 17592186044416) : ∀ (rest pre : List Int) (k : Nat), x0 = pre ++ rest → rest.length < k → (∀ v ∈ rest, 0 ≤ v ∧ v < (l.length : Int)) →
    naskhref29_Apply.l0 k x0 l (pre.map (rd l)) (pre.length : Int) = some (x0.map (rd l), 0) := by
  intro rest
  induction rest with
  | nil =>
    intro pre k hl hk hv
    obtain ⟨k, rfl⟩ : ∃ m, k = m + 1 := ⟨k - 1, by omega⟩
    rw [naskhref29_Apply.l0, if_neg (by rw [hl]; simp), hl]
    simp
  | cons v rest ih =>
    intro pre k hl hk hv
    obtain ⟨k, rfl⟩ : ∃ m, k = m + 1 := ⟨k - 1, by omega⟩
    rw [List.length_cons] at hk
    have hlen : x0.length = pre.length + rest.length + 1 := by rw [hl]; simp; omega
    have hrd : rd x0 (pre.length : Int) = v := by rw [hl]; exact rd_at pre v rest
    have hb := hv v (by simp)
    have step := ih (pre ++ [v]) k (by rw [hl]; simp) (by omega) (fun w hw => hv w (by simp [hw]))
    simp only [List.length_append, List.length_cons, List.length_nil, Nat.zero_add, Int.natCast_add, Int.natCast_one, List.map_append, List.map_cons, List.map_nil] at step
    rw [naskhref29_Apply.l0, if_pos (by omega), if_pos (by omega), hrd, if_pos hb.1, if_pos hb.2, if_pos (by rw [List.length_map]; omega), w64 (by omega) (by omega), step]
theorem refapply_f (o l : List Int) (k : Nat) (hk : o.length + 1 < k) (ho : o.length ≤ 17592186044416) : naskhref29_Apply.f k o l = some (app o l) := by
  unfold naskhref29_Apply.f app
  obtain ⟨k, rfl⟩ : ∃ m, k = m + 1 := ⟨k - 1, by omega⟩
  rw [refperm_f o (k + 1) (by omega) (by omega), Option.bind_some]
  cases hp : plc (List.replicate o.length (-1)) 0 o with
  | none => rw [if_neg (by simp), naskhref29_Apply.j0, if_pos rfl, if_neg (by simp)]
  | some q =>
    rw [if_pos (by simp)]
    by_cases hl : o.length = l.length
    · obtain ⟨h1, _⟩ := plc_range _ _ _ _ hp
      rw [List.length_replicate] at h1
      rw [naskhref29_Apply.j0, if_neg (by simp [hl]), if_pos ⟨hl, rfl⟩]
      have := refapply_loop l o ho o [] k rfl (by omega) (fun v hv => by have := h1 v hv; omega)
      simpa using this
    · rw [naskhref29_Apply.j0, if_pos (by simp; omega), if_neg (by simp [hl])]
theorem OrderTells_ok : naskhlaw29_OrderTells.Pure := by
  intro o l h1 h2 h3 h4 h5 h6
  refine ⟨1001, ?_⟩
  have haw : naskhlaw29_awake.f 1000 = some true := at_rounds (fun k => naskhlaw29_awake.mono k) (by decide) awake_ok
  have key : ∀ b : Bool, (b = false → o.length ≤ 300) → naskhlaw29_OrderTells.j0 1001 o l b = some true := by
    intro b hb
    rw [naskhlaw29_OrderTells.j0]
    cases b with
    | true => rw [if_pos rfl, haw]; rfl
    | false =>
      have hn := hb rfl
      rw [if_neg (by simp), inverse_f o _ (by omega) (by omega), Option.bind_some, refinv_f o _ (by omega) (by omega), Option.bind_some, apply_f o l _ (by omega) (by omega), Option.bind_some, refapply_f o l _ (by omega) (by omega), Option.bind_some,
        permutes_f o _ (by omega) (by omega), Option.bind_some, refperm_f o _ (by omega) (by omega), Option.bind_some, if_pos (by simp), if_pos rfl]
      have hl1 : (match plc (List.replicate o.length (-1)) 0 o with | some o => (o, (0 : Int)) | none => ([], 13)).1.length ≤ 300 := by
        cases hp : plc (List.replicate o.length (-1)) 0 o with
        | none => simp
        | some q =>
          obtain ⟨_, h2⟩ := plc_range _ _ _ _ hp
          rw [List.length_replicate] at h2
          simp only
          omega
      have hl2 : (app o l).1.length ≤ 300 := by
        unfold app
        split
        · simp only [List.length_map]; exact hn
        · simp
      rw [equal_self_int_int _ (by omega) _ (by omega), Option.bind_some, if_pos rfl, if_pos rfl, equal_self_int_int _ (by omega) _ (by omega), Option.bind_some, if_pos rfl, haw]
      rfl
  unfold naskhlaw29_OrderTells.f
  by_cases hn : (o.length : Int) > 300
  · rw [if_pos hn]; exact key true (fun h => by cases h)
  · rw [if_neg hn]; exact key _ (fun _ => by omega)

end Go.Proofs.Ytimkacnkmoofdaa.PureOrderTellsAux
namespace Go.Proofs.Ytimkacnkmoofdaa.Pure
open Go.Proofs.Ytimkacnkmoofdaa.POrderTells
theorem OrderTells : naskhlaw29_OrderTells.Pure := PureOrderTellsAux.OrderTells_ok
end Go.Proofs.Ytimkacnkmoofdaa.Pure
