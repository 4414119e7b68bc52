/- The groups of any levels and marks, and any order with them, are what the document says. No condition. -/
import Derived.Test.YtmkgihmchkphaaaPAccentTellsx8
namespace Go.Proofs.Ytmkgihmchkphaaa.PureAccentTellsAux
open Go.RowKit Go.Proofs.Ytmkgihmchkphaaa.PAccentTells Go.Proofs.YtmkgihmchkphaaaW.PrintWords Go.Proofs.YtmkgihmchkphaaaW.PrintLast

set_option linter.unusedSimpArgs false
set_option linter.unusedVariables false
theorem w64 {x : Int} (h0 : -9223372036854775808 ≤ x) (h1 : x ≤ 9223372036854775807) : wrap64 x = x := by unfold wrap64; omega
theorem rd_at (pre : List Int) (x : Int) (rest : List Int) : rd (pre ++ x :: rest) (pre.length : Int) = x := by simp [rd]
theorem rd_nat (l : List Int) (i : Nat) (h : i < l.length) : rd l (i : Int) = l[i] := by simp [rd, h]
theorem wf64 {x : Int} (h : (Lit.int .i64 x).wf = true) : -9223372036854775808 ≤ x ∧ x ≤ 9223372036854775807 := by
  simpa [Lit.wf, IntKind.min, IntKind.max, IntKind.signed, IntKind.bits] using h
theorem bsome {P : Prop} [Decidable P] {b : Bool} (h : b = true ↔ P) : some b = some (decide P) := by
  congr 1; rw [Bool.eq_iff_iff]; simpa using h
theorem u16w {x : Int} (h0 : 0 ≤ x) (h1 : x ≤ 65535) : IntKind.u16.wrap x = x := by
  simp [IntKind.wrap, IntKind.min, IntKind.max, IntKind.signed, IntKind.bits]; omega

theorem wraps_i64' (n : Int) (h₀ : 0 ≤ n) (h₁ : n < 2 ^ 62) : IntKind.i64.wrap n = n := by rw [IntKind.wrap_i64]; omega
theorem and_mask (x : Int) (i : Nat) (hi : i ≤ 62) (h0 : 0 ≤ x) (h1 : x < 2 ^ 62) : Go.bits .and .i64 x (2 ^ i - 1) = x % 2 ^ i := bits_mask .i64 62 (by decide) wraps_i64' i hi x h0 h1

theorem eq_loop_int_int (a b : List Int) (hl : a.length = b.length) (hm : a.length ≤ 9223372036854775806) : ∀ d k i : Nat, i + d = a.length → d < k →
    slices_Equal_int_int.l0 k a b a.length i = some (decide (a.drop i = b.drop i)) := by
  intro d
  induction d with
  | zero =>
    intro k i hi hk
    obtain ⟨k, rfl⟩ : ∃ m, k = m + 1 := ⟨k - 1, by omega⟩
    simp only [slices_Equal_int_int.l0]
    rw [if_neg (by omega), List.drop_eq_nil_of_le (by omega), List.drop_eq_nil_of_le (by omega)]
    simp
  | succ d ih =>
    intro k i hi hk
    obtain ⟨k, rfl⟩ : ∃ m, k = m + 1 := ⟨k - 1, by omega⟩
    simp only [slices_Equal_int_int.l0]
    rw [if_pos (by omega), if_pos (by omega), if_pos (by omega), if_pos (by omega), rd_nat a i (by omega), rd_nat b i (by omega),
      List.drop_eq_getElem_cons (by omega : i < a.length), List.drop_eq_getElem_cons (by omega : i < b.length)]
    by_cases h : a[i]'(by omega) = b[i]'(by omega)
    · rw [if_pos h, w64 (by omega) (by omega)]
      have := ih k (i + 1) (by omega) (by omega)
      rw [Int.natCast_add] at this
      rw [show ((1 : Nat) : Int) = 1 from rfl] at this
      rw [this]
      congr 1
      rw [decide_eq_decide, List.cons.injEq]
      simp only [h, true_and]
    · rw [if_neg h]
      congr 1
      symm
      rw [decide_eq_false_iff_not, List.cons.injEq]
      exact fun e => h e.1
theorem equal_f_int_int (a b : List Int) (hm : a.length ≤ 9223372036854775806) (k : Nat) (hk : a.length < k) : slices_Equal_int_int.f k a b = some (decide (a = b)) := by
  unfold slices_Equal_int_int.f
  by_cases hl : a.length = b.length
  · rw [if_pos (by omega), show (0 : Int) = ((0 : Nat) : Int) from rfl, eq_loop_int_int a b hl hm a.length k 0 (by omega) hk]
    simp
  · rw [if_neg (by omega)]
    have : a ≠ b := fun e => hl (by rw [e])
    simp [this]
theorem equal_self_int_int (a : List Int) (hm : a.length ≤ 9223372036854775806) (k : Nat) (hk : a.length < k) : slices_Equal_int_int.f k a a = some true := by
  rw [equal_f_int_int a a hm k hk]; simp

/-- Where each number stands; none: the numbers are no order. -/
def plc : List Int → Nat → List Int → Option (List Int)
  | out, _, [] => some out
  | out, i, v :: rest => if 0 ≤ v ∧ v < (out.length : Int) ∧ rd out v < 0 then plc (out.set v.toNat (i : Int)) (i + 1) rest else none
theorem places_loop (l : List Int) (hm : l.length ≤ 35184372088832) : ∀ (rest pre out : List Int) (k : Nat), l = pre ++ rest → rest.length < k → out.length = l.length →
    order_places.l0 k l out l (l.length : Int) (pre.length : Int) = some (match plc out pre.length rest with | some o => (o, true) | none => ([], false)) := by
  intro rest
  induction rest with
  | nil =>
    intro pre out k hl hk ho
    obtain ⟨k, rfl⟩ : ∃ m, k = m + 1 := ⟨k - 1, by omega⟩
    rw [order_places.l0, if_neg (by rw [hl]; simp)]
    rfl
  | cons v rest ih =>
    intro pre out k hl hk ho
    obtain ⟨k, rfl⟩ : ∃ m, k = m + 1 := ⟨k - 1, by omega⟩
    rw [List.length_cons] at hk
    have hlen : l.length = pre.length + rest.length + 1 := by rw [hl]; simp; omega
    have hrd : rd l (pre.length : Int) = v := by rw [hl]; exact rd_at pre v rest
    have step := fun out ho => ih (pre ++ [v]) out k (by rw [hl]; simp) (by omega) ho
    simp only [List.length_append, List.length_cons, List.length_nil, Nat.zero_add, Int.natCast_add, Int.natCast_one] at step
    rw [order_places.l0, if_pos (by omega), if_pos (by omega), if_pos (by omega), hrd, plc]
    by_cases h1 : v < 0
    · rw [if_pos h1, if_neg (by omega)]
    · rw [if_neg h1]
      by_cases h2 : (l.length : Int) ≤ v
      · rw [if_pos h2, if_neg (by omega)]
      · rw [if_neg h2, if_pos (by omega), if_pos (by omega)]
        by_cases h3 : 0 ≤ rd out v
        · rw [if_pos h3, if_neg (by omega)]
        · rw [if_neg h3, if_pos (by omega), w64 (by omega) (by omega), step _ (by rw [List.length_set]; exact ho)]
theorem places_f (l : List Int) (k : Nat) (hk : l.length < k) (hl : l.length ≤ 35184372088832) :
    order_places.f k l = some (match plc (List.replicate l.length (-1)) 0 l with | some o => (o, true) | none => ([], false)) := by
  unfold order_places.f slices_Repeat_int_int.f
  rw [if_pos (show ([(-1)] : List Int).length = 1 from rfl), if_pos (by omega), if_pos (by omega), Option.bind_some]
  have := places_loop l hl l [] (List.replicate l.length (-1)) k rfl hk (by simp)
  simpa [rd] using this
theorem rd_set (out : List Int) (v w : Int) (x : Int) (hv : 0 ≤ v ∧ v < (out.length : Int)) (hw : 0 ≤ w) : rd (out.set v.toNat x) w = if w = v then x else rd out w := by
  unfold rd
  simp only [List.getD_eq_getElem?_getD, List.getElem?_set]
  by_cases h : w = v
  · subst h; rw [if_pos rfl, if_pos rfl, if_pos (by omega)]; rfl
  · rw [if_neg h, if_neg (by omega)]
/-- Numbers that are all unlike, and all in, are an order. -/
theorem plc_some : ∀ (rest pre out : List Int), (pre ++ rest).Nodup → (∀ v ∈ rest, 0 ≤ v ∧ v < (out.length : Int)) → (∀ v, 0 ≤ v → (0 ≤ rd out v → v ∈ pre ∨ (out.length : Int) ≤ v)) → ∃ o, plc out pre.length rest = some o
  | [], pre, out, _, _, _ => ⟨out, rfl⟩
  | v :: rest, pre, out, hd, hb, hs => by
    have hv := hb v (by simp)
    have hnp : v ∉ pre := by
      intro h
      rw [List.nodup_append] at hd
      exact hd.2.2 v h v (by simp) rfl
    have hneg : rd out v < 0 := by
      apply Classical.byContradiction
      intro h
      rcases hs v hv.1 (by omega) with h1 | h1
      · exact hnp h1
      · omega
    rw [plc, if_pos ⟨hv.1, hv.2, hneg⟩]
    have h := plc_some rest (pre ++ [v]) (out.set v.toNat (pre.length : Int)) (by simpa using hd) (by rw [List.length_set]; exact fun w hw => hb w (by simp [hw])) (fun w hw h => by
      rw [List.length_set]
      rw [rd_set out v w _ hv hw] at h
      by_cases e : w = v
      · left; simp [e]
      · rw [if_neg e] at h
        rcases hs w hw h with h1 | h1
        · left; simp [h1]
        · right; exact h1)
    simpa using h

theorem plc_range : ∀ (rest out : List Int) (i : Nat) (o : List Int), plc out i rest = some o → (∀ v ∈ rest, 0 ≤ v ∧ v < (out.length : Int)) ∧ o.length = out.length
  | [], out, i, o, h => by rw [plc] at h; obtain rfl := Option.some.inj h; exact ⟨fun v hv => by simp at hv, rfl⟩
  | v :: rest, out, i, o, h => by
    rw [plc] at h
    by_cases hc : 0 ≤ v ∧ v < (out.length : Int) ∧ rd out v < 0
    · rw [if_pos hc] at h
      obtain ⟨h1, h2⟩ := plc_range rest _ _ o h
      rw [List.length_set] at h1 h2
      refine ⟨fun w hw => ?_, h2⟩
      rcases List.mem_cons.mp hw with e | hw
      · subst e; exact ⟨hc.1, hc.2.1⟩
      · exact h1 w hw
    · rw [if_neg hc] at h; cases h
/-- How many places are not filled. -/
def neg (out : List Int) : Nat := out.countP fun x => decide (x < 0)
theorem neg_set (out : List Int) (v : Int) (x : Int) (hv : 0 ≤ v ∧ v < (out.length : Int)) (hn : rd out v < 0) (hx : 0 ≤ x) : neg (out.set v.toNat x) + 1 = neg out := by
  have hlt : v.toNat < out.length := by omega
  have hr : rd out v = out[v.toNat] := by unfold rd; simp [hlt]
  rw [hr] at hn
  have e : out = out.take v.toNat ++ out[v.toNat] :: out.drop (v.toNat + 1) := by rw [← List.drop_eq_getElem_cons hlt, List.take_append_drop]
  unfold neg
  rw [List.set_eq_take_append_cons_drop, if_pos hlt]
  conv => rhs; rw [e]
  rw [List.countP_append, List.countP_append, List.countP_cons, List.countP_cons, if_neg (by simp; omega), if_pos (by simp; omega)]
  omega
theorem plc_neg : ∀ (rest out : List Int) (i : Nat) (o : List Int), plc out i rest = some o → neg o + rest.length = neg out
  | [], out, i, o, h => by rw [plc] at h; obtain rfl := Option.some.inj h; rfl
  | v :: rest, out, i, o, h => by
    rw [plc] at h
    by_cases hc : 0 ≤ v ∧ v < (out.length : Int) ∧ rd out v < 0
    · rw [if_pos hc] at h
      have h1 := plc_neg rest _ _ o h
      have h2 := neg_set out v (i : Int) ⟨hc.1, hc.2.1⟩ hc.2.2 (by omega)
      rw [List.length_cons]
      omega
    · rw [if_neg hc] at h; cases h
theorem neg_zero (o : List Int) (h : neg o = 0) (j : Int) (h0 : 0 ≤ j ∧ j < (o.length : Int)) : 0 ≤ rd o j := by
  unfold neg at h
  rw [List.countP_eq_zero] at h
  have hlt : j.toNat < o.length := by omega
  have hr : rd o j = o[j.toNat] := by unfold rd; simp [hlt]
  rw [hr]
  have := h o[j.toNat] (List.getElem_mem hlt)
  simpa using this
theorem plc_full (l o : List Int) (h : plc (List.replicate l.length (-1)) 0 l = some o) : o.length = l.length ∧ ∀ j : Int, 0 ≤ j → j < (l.length : Int) → 0 ≤ rd o j := by
  obtain ⟨_, h2⟩ := plc_range _ _ _ _ h
  rw [List.length_replicate] at h2
  refine ⟨h2, fun j h0 h1 => neg_zero o ?_ j ⟨h0, by omega⟩⟩
  have h3 := plc_neg _ _ _ _ h
  have h4 : neg (List.replicate l.length (-1)) = l.length := by unfold neg; simp [List.countP_replicate]
  omega
theorem rdB_set (s : List Bool) (v w : Int) (hv : 0 ≤ v ∧ v < (s.length : Int)) (hw : 0 ≤ w) : rdOf false (s.set v.toNat true) w = if w = v then true else rdOf false s w := by
  unfold rdOf
  simp only [List.getD_eq_getElem?_getD, List.getElem?_set]
  by_cases h : w = v
  · subst h; rw [if_pos rfl, if_pos rfl, if_pos (by omega)]; rfl
  · rw [if_neg h, if_neg (by omega)]
theorem refperm_loop (l : List Int) (hm : l.length ≤ 35184372088832) : ∀ (rest pre out : List Int) (seen : List Bool) (k : Nat), l = pre ++ rest → rest.length < k → out.length = l.length → seen.length = l.length →
    (∀ v : Int, 0 ≤ v → (rdOf false seen v = true ↔ (0 ≤ v ∧ v < (l.length : Int) ∧ 0 ≤ rd out v))) → naskhref29_Permutes.l0 k l seen (pre.length : Int) = some (plc out pre.length rest).isSome := by
  intro rest
  induction rest with
  | nil =>
    intro pre out seen k hl hk ho hs hr
    obtain ⟨k, rfl⟩ : ∃ m, k = m + 1 := ⟨k - 1, by omega⟩
    rw [naskhref29_Permutes.l0, if_neg (by rw [hl]; simp)]
    rfl
  | cons v rest ih =>
    intro pre out seen k hl hk ho hs hr
    obtain ⟨k, rfl⟩ : ∃ m, k = m + 1 := ⟨k - 1, by omega⟩
    rw [List.length_cons] at hk
    have hlen : l.length = pre.length + rest.length + 1 := by rw [hl]; simp; omega
    have hrd : rd l (pre.length : Int) = v := by rw [hl]; exact rd_at pre v rest
    have step := fun out seen ho hs hr => ih (pre ++ [v]) out seen k (by rw [hl]; simp) (by omega) ho hs hr
    simp only [List.length_append, List.length_cons, List.length_nil, Nat.zero_add, Int.natCast_add, Int.natCast_one] at step
    rw [naskhref29_Permutes.l0, if_pos (by omega), if_pos (by omega), hrd, plc]
    by_cases h1 : v < 0
    · rw [if_pos h1, if_neg (by omega)]; rfl
    · rw [if_neg h1]
      by_cases h2 : (l.length : Int) ≤ v
      · rw [if_pos h2, if_neg (by omega)]; rfl
      · rw [if_neg h2, if_pos (by omega), if_pos (by omega)]
        by_cases h3 : 0 ≤ rd out v
        · rw [if_pos ((hr v (by omega)).mpr ⟨by omega, by omega, h3⟩), if_neg (by omega)]; rfl
        · rw [if_neg (fun h => h3 ((hr v (by omega)).mp h).2.2), if_pos (by omega), w64 (by omega) (by omega)]
          refine step _ _ (by rw [List.length_set]; exact ho) (by rw [List.length_set]; exact hs) (fun w hw => ?_)
          rw [rdB_set seen v w (by omega) hw, rd_set out v w _ (by omega) hw]
          by_cases e : w = v
          · rw [if_pos e, if_pos e]; simp; omega
          · rw [if_neg e, if_neg e]; exact hr w hw
theorem refperm_f (l : List Int) (k : Nat) (hk : l.length < k) (hl : l.length ≤ 35184372088832) : naskhref29_Permutes.f k l = some (plc (List.replicate l.length (-1)) 0 l).isSome := by
  unfold naskhref29_Permutes.f
  rw [if_pos (by omega), if_pos (by omega)]
  refine refperm_loop l hl l [] _ _ k rfl hk (by simp) (by simp) (fun v hv => ?_)
  have e1 : rdOf false (List.replicate ((l.length : Int)).toNat false) v = false := by
    unfold rdOf; rw [List.getD_eq_getElem?_getD, List.getElem?_replicate]; split <;> rfl
  rw [e1]
  constructor
  · intro h; cases h
  · rintro ⟨h1, h2, h3⟩
    have e2 : rd (List.replicate l.length (-1)) v = -1 := by
      unfold rd; rw [List.getD_eq_getElem?_getD, List.getElem?_replicate, if_pos (by omega)]; rfl
    omega
theorem rd_ext (a b : List Int) (hl : a.length = b.length) (h : ∀ v : Int, 0 ≤ v → v < (a.length : Int) → rd a v = rd b v) : a = b := by
  apply List.ext_getElem hl
  intro i h1 h2
  have := h (i : Int) (by omega) (by omega)
  rwa [rd_nat a i h1, rd_nat b i h2] at this
theorem inverse_f (l : List Int) (k : Nat) (hk : l.length < k) (hl : l.length ≤ 35184372088832) :
    order_Inverse.f k l = some (match plc (List.replicate l.length (-1)) 0 l with | some o => (o, 0) | none => ([], 13)) := by
  unfold order_Inverse.f
  rw [places_f l k hk hl, Option.bind_some]
  cases plc (List.replicate l.length (-1)) 0 l with
  | none => rw [if_neg (by simp)]
  | some o => rw [if_pos (by simp)]

theorem plc_spec : ∀ (rest out : List Int) (i : Nat) (o : List Int), plc out i rest = some o → (∀ (j : Nat), j < rest.length → rd o (rd rest (j : Int)) = ((i + j : Nat) : Int)) ∧ (∀ w : Int, 0 ≤ w → w ∉ rest → rd o w = rd out w) ∧ (∀ w ∈ rest, rd out w < 0)
  | [], out, i, o, h => by
    rw [plc] at h; obtain rfl := Option.some.inj h
    exact ⟨fun j hj => by simp at hj, fun w _ _ => rfl, fun w hw => by simp at hw⟩
  | v :: rest, out, i, o, h => by
    rw [plc] at h
    by_cases hc : 0 ≤ v ∧ v < (out.length : Int) ∧ rd out v < 0
    · rw [if_pos hc] at h
      obtain ⟨h1, h2, h3⟩ := plc_spec rest _ _ o h
      obtain ⟨hr, _⟩ := plc_range rest _ _ o h
      have hv : 0 ≤ v ∧ v < (out.length : Int) := ⟨hc.1, hc.2.1⟩
      have hnv : v ∉ rest := by
        intro hm
        have := h3 v hm
        rw [rd_set out v v _ hv hv.1, if_pos rfl] at this
        omega
      refine ⟨fun j hj => ?_, fun w h0 hw => ?_, fun w hw => ?_⟩
      · match j with
        | 0 =>
          have e : rd (v :: rest) ((0 : Nat) : Int) = v := rfl
          rw [e, h2 v hv.1 hnv, rd_set out v v _ hv hv.1, if_pos rfl]
          omega
        | j + 1 =>
          have e : rd (v :: rest) ((j + 1 : Nat) : Int) = rd rest (j : Int) := by unfold rd; simp
          rw [e, h1 j (by simpa using hj)]
          omega
      · simp only [List.mem_cons, not_or] at hw
        rw [h2 w h0 hw.2, rd_set out v w _ hv h0, if_neg hw.1]
      · rcases List.mem_cons.mp hw with e | hw
        · rw [e]; exact hc.2.2
        · have h4 := h3 w hw
          have h0 := (hr w hw).1
          rw [rd_set out v w _ hv h0] at h4
          by_cases e : w = v
          · rw [e]; exact hc.2.2
          · rwa [if_neg e] at h4
    · rw [if_neg hc] at h; cases h
theorem rd_mem (l : List Int) (v : Int) (h : v ∈ l) : ∃ j : Nat, j < l.length ∧ rd l (j : Int) = v := by
  obtain ⟨j, hj, e⟩ := List.getElem_of_mem h
  exact ⟨j, hj, by rw [rd_nat l j hj]; exact e⟩
theorem inv_facts (o a : List Int) (h : plc (List.replicate o.length (-1)) 0 o = some a) : a.length = o.length ∧ (∀ p : Nat, p < o.length → rd a (rd o (p : Int)) = (p : Int)) ∧ (∀ v : Int, 0 ≤ v → v < (o.length : Int) → 0 ≤ rd a v ∧ rd a v < (o.length : Int) ∧ rd o (rd a v) = v) := by
  obtain ⟨h1, h2, _⟩ := plc_spec _ _ _ _ h
  obtain ⟨h4, h5⟩ := plc_full o a h
  refine ⟨h4, fun p hp => by rw [h1 p hp]; omega, fun v h0 hv => ?_⟩
  have hm : v ∈ o := by
    apply Classical.byContradiction
    intro hn
    have := h2 v h0 hn
    have e2 : rd (List.replicate o.length (-1)) v = -1 := by
      unfold rd; rw [List.getD_eq_getElem?_getD, List.getElem?_replicate, if_pos (by omega)]; rfl
    have := h5 v h0 hv
    omega
  obtain ⟨j, hj, e⟩ := rd_mem o v hm
  have := h1 j hj
  rw [e] at this
  rw [this]
  refine ⟨by omega, by omega, ?_⟩
  rw [show ((0 + j : Nat) : Int) = (j : Int) by omega]
  exact e
theorem nodup_of_rd (a : List Int) (h : ∀ v w : Int, 0 ≤ v → v < (a.length : Int) → 0 ≤ w → w < (a.length : Int) → rd a v = rd a w → v = w) : a.Nodup := by
  rw [List.nodup_iff_pairwise_ne, List.pairwise_iff_getElem]
  intro i j hi hj hij e
  have := h (i : Int) (j : Int) (by omega) (by omega) (by omega) (by omega) (by rw [rd_nat a i hi, rd_nat a j hj]; exact e)
  omega
theorem inv_inv (o a : List Int) (h : plc (List.replicate o.length (-1)) 0 o = some a) : plc (List.replicate o.length (-1)) 0 a = some o := by
  obtain ⟨h1, h2, h3⟩ := inv_facts o a h
  have hnd : a.Nodup := nodup_of_rd a (fun v w a0 a1 b0 b1 e => by
    have e1 := (h3 v a0 (by omega)).2.2
    have e2 := (h3 w b0 (by omega)).2.2
    rw [← e1, e, e2])
  have hneg : ∀ v : Int, 0 ≤ v → v < (o.length : Int) → rd (List.replicate o.length (-1)) v = -1 := fun v h0 h1 => by
    unfold rd; rw [List.getD_eq_getElem?_getD, List.getElem?_replicate, if_pos (by omega)]; rfl
  obtain ⟨b, hb⟩ := plc_some a [] (List.replicate o.length (-1)) (by simpa using hnd) (fun v hv => by
    rw [List.length_replicate]
    obtain ⟨j, hj, e⟩ := rd_mem a v hv
    have := h3 (j : Int) (by omega) (by omega)
    rw [e] at this
    exact ⟨this.1, this.2.1⟩) (fun v h0 h4 => by
    right
    rw [List.length_replicate]
    apply Classical.byContradiction
    intro hn
    have := hneg v h0 (by omega)
    omega)
  have hb' : plc (List.replicate a.length (-1)) 0 a = some b := by rw [h1]; simpa using hb
  obtain ⟨g1, g2, _⟩ := inv_facts a b hb'
  have : b = o := rd_ext b o (by omega) (fun p h0 h4 => by
    have k1 := h2 p.toNat (by omega)
    rw [show ((p.toNat : Nat) : Int) = p by omega] at k1
    have k2 : 0 ≤ rd o p ∧ rd o p < (o.length : Int) := by
      obtain ⟨r1, _⟩ := plc_range _ _ _ _ h
      have := r1 (rd o p) (by
        have hp : p.toNat < o.length := by omega
        have : rd o p = o[p.toNat] := by unfold rd; simp [hp]
        rw [this]; exact List.getElem_mem hp)
      rwa [List.length_replicate] at this
    have k3 := g2 (rd o p).toNat (by omega)
    rw [show (((rd o p).toNat : Nat) : Int) = rd o p by omega, k1] at k3
    exact k3)
  subst this
  simpa using hb

theorem and_one (x : Int) : Go.bits .and .i64 x 1 = x % 2 := by
  have h1 : (BitVec.ofInt 64 x).toNat = (x % 18446744073709551616).toNat := by rw [BitVec.toNat_ofInt]; rfl
  have h2 : (BitVec.ofInt 64 1).toNat = 1 := by decide
  have h3 : (BitVec.ofInt 64 x &&& BitVec.ofInt 64 1).toNat = (x % 18446744073709551616).toNat % 2 := by rw [BitVec.toNat_and, h1, h2, Nat.and_one_is_mod]
  show IntKind.i64.wrap (((BitVec.ofInt 64 x &&& BitVec.ofInt 64 1).toNat : Nat) : Int) = x % 2
  rw [h3, IntKind.wrap_i64]
  omega
/-- How far a group goes. -/
def ext (lv : List Int) (mk : List Bool) (L : Int) : Nat → Nat → Nat
  | 0, p => p
  | d + 1, p => if p < lv.length ∧ rdOf false mk (p : Int) = true ∧ rd lv (p : Int) = L then ext lv mk L d (p + 1) else p
theorem ext_ge (lv : List Int) (mk : List Bool) (L : Int) : ∀ d p, p ≤ ext lv mk L d p
  | 0, p => Nat.le_refl _
  | d + 1, p => by
    rw [ext]; split
    · have := ext_ge lv mk L d (p + 1); omega
    · exact Nat.le_refl _
theorem ext_le (lv : List Int) (mk : List Bool) (L : Int) : ∀ d p, p ≤ lv.length → ext lv mk L d p ≤ lv.length
  | 0, p, h => h
  | d + 1, p, h => by
    rw [ext]; split
    · rename_i hc
      exact ext_le lv mk L d (p + 1) hc.1
    · exact h
theorem ext_in (lv : List Int) (mk : List Bool) (L : Int) : ∀ d p i, p ≤ i → i < ext lv mk L d p → rdOf false mk (i : Int) = true ∧ rd lv (i : Int) = L
  | 0, p, i, h, h1 => by rw [ext] at h1; omega
  | d + 1, p, i, h, h1 => by
    rw [ext] at h1
    split at h1
    · rename_i hc
      by_cases he : i = p
      · subst he; exact hc.2
      · exact ext_in lv mk L d (p + 1) i (by omega) h1
    · omega
def hiOf (lv : List Int) (mk : List Bool) (lo : Nat) : Nat := ext lv mk (rd lv (lo : Int)) (lv.length - (lo + 1)) (lo + 1)
def isG (lv : List Int) (mk : List Bool) (lo : Nat) : Bool := decide (rdOf false mk (lo : Int) = false ∧ rd lv (lo : Int) % 2 = 1 ∧ lo + 1 < hiOf lv mk lo)
/-- The groups from a place on. -/
def grps (lv : List Int) (mk : List Bool) : Nat → Nat → List S31
  | 0, _ => []
  | d + 1, lo => if lo < lv.length then (if isG lv mk lo = true then [(⟨(lo : Int), (hiOf lv mk lo : Int)⟩ : S31)] else []) ++ grps lv mk d (hiOf lv mk lo) else []
theorem hiOf_ge (lv : List Int) (mk : List Bool) (lo : Nat) : lo + 1 ≤ hiOf lv mk lo := ext_ge _ _ _ _ _
theorem hiOf_le (lv : List Int) (mk : List Bool) (lo : Nat) (h : lo < lv.length) : hiOf lv mk lo ≤ lv.length := ext_le _ _ _ _ _ h
theorem group_loop (lv : List Int) (mk : List Bool) (lo : Nat) (hlo : lo < lv.length) (hm : mk.length = lv.length) (hl : lv.length ≤ 1000) (f0 : Int) : ∀ (d p k : Nat), p + d = lv.length → d < k →
    accent_group.l0 k lv mk (lo : Int) f0 (p : Int) = some (f0, ((ext lv mk (rd lv (lo : Int)) d p : Nat) : Int)) := by
  intro d
  induction d with
  | zero =>
    intro p k hd hk
    obtain ⟨k, rfl⟩ : ∃ m, k = m + 1 := ⟨k - 1, by omega⟩
    rw [accent_group.l0, if_neg (by omega)]
    rfl
  | succ d ih =>
    intro p k hd hk
    obtain ⟨k, rfl⟩ : ∃ m, k = m + 1 := ⟨k - 1, by omega⟩
    have step := ih (p + 1) k (by omega) (by omega)
    simp only [Int.natCast_add, Int.natCast_one] at step
    rw [accent_group.l0, if_pos (by omega), if_pos (by omega), if_pos (by omega), ext]
    by_cases h1 : rdOf false mk (p : Int) = true
    · rw [if_pos h1, if_pos (by omega), if_pos (by omega)]
      by_cases h2 : rd lv (p : Int) = rd lv (lo : Int)
      · rw [if_pos h2, if_pos ⟨by omega, h1, h2⟩, w64 (by omega) (by omega), step]
      · rw [if_neg h2, if_neg (fun h => h2 h.2.2)]
    · rw [if_neg h1, if_neg (fun h => h1 h.2.1)]
theorem group_f (lv : List Int) (mk : List Bool) (lo : Nat) (hlo : lo < lv.length) (hm : mk.length = lv.length) (hl : lv.length ≤ 1000) (k : Nat) (hk : lv.length < k) :
    accent_group.f k lv mk (lo : Int) = some ((lo : Int), (hiOf lv mk lo : Int)) := by
  unfold accent_group.f
  rw [w64 (by omega) (by omega)]
  have := group_loop lv mk lo hlo hm hl (lo : Int) (lv.length - (lo + 1)) (lo + 1) k (by omega) (by omega)
  simp only [Int.natCast_add, Int.natCast_one] at this
  rw [this]
  rfl
theorem groups_loop (lv : List Int) (mk : List Bool) (hm : mk.length = lv.length) (hl : lv.length ≤ 1000) : ∀ (d lo k : Nat) (acc : List S31), lv.length ≤ lo + d → lo ≤ lv.length → d + lv.length + 1 < k → acc.length + d ≤ 100000 →
    accent_Groups.l0 k lv mk acc (lo : Int) = some (acc ++ grps lv mk d lo) := by
  intro d
  induction d with
  | zero =>
    intro lo k acc hd hlo hk ha
    obtain ⟨k, rfl⟩ : ∃ m, k = m + 1 := ⟨k - 1, by omega⟩
    rw [accent_Groups.l0, if_neg (by omega), grps, List.append_nil]
  | succ d ih =>
    intro lo k acc hd hlo hk ha
    obtain ⟨k, rfl⟩ : ∃ m, k = m + 1 := ⟨k - 1, by omega⟩
    rw [grps]
    by_cases h0 : lo < lv.length
    · have hge := hiOf_ge lv mk lo
      have hle := hiOf_le lv mk lo h0
      have step := fun acc ha => ih (hiOf lv mk lo) k acc (by omega) hle (by omega) ha
      rw [accent_Groups.l0, if_pos (by omega), group_f lv mk lo h0 hm hl k (by omega), Option.bind_some, if_pos (by omega), if_pos (by omega), if_pos h0]
      dsimp only
      by_cases h1 : rdOf false mk (lo : Int) = true
      · rw [if_pos h1, if_neg (by unfold isG; simp [h1]), List.nil_append]
        exact step acc (by omega)
      · rw [if_neg h1, and_one]
        by_cases h2 : rd lv (lo : Int) % 2 = 1
        · rw [if_pos h2, w64 (by omega) (by omega)]
          by_cases h3 : lo + 1 < hiOf lv mk lo
          · rw [if_pos (by omega), if_pos (by omega), if_pos (by unfold isG; simp [h1, h2, h3]), step _ (by simp; omega)]
            simp
          · rw [if_neg (by omega), if_neg (by unfold isG; simp [h3]), List.nil_append]
            exact step acc (by omega)
        · rw [if_neg h2, if_neg (by unfold isG; simp [h2]), List.nil_append]
          exact step acc (by omega)
    · rw [accent_Groups.l0, if_neg (by omega), if_neg h0, List.append_nil]
theorem groups_f (lv : List Int) (mk : List Bool) (hm : mk.length = lv.length) (hl : lv.length ≤ 1000) (k : Nat) (hk : 3000 < k) : accent_Groups.f k lv mk = some (grps lv mk lv.length 0) := by
  unfold accent_Groups.f
  rw [if_pos (by omega)]
  have := groups_loop lv mk hm hl lv.length 0 k [] (by omega) (by omega) (by omega) (by simp; omega)
  simpa using this
theorem grps_ge (lv : List Int) (mk : List Bool) : ∀ (d lo : Nat) (g : S31), g ∈ grps lv mk d lo → (lo : Int) ≤ g.f0 ∧ g.f0 < g.f1 ∧ g.f1 ≤ (lv.length : Int) ∧ rd lv g.f0 % 2 = 1 ∧ (∀ i : Int, g.f0 ≤ i → i < g.f1 → rd lv i = rd lv g.f0)
  | 0, lo, g, h => by rw [grps] at h; simp at h
  | d + 1, lo, g, h => by
    rw [grps] at h
    split at h
    · rename_i h0
      have hge := hiOf_ge lv mk lo
      rcases List.mem_append.mp h with h | h
      · split at h
        · rename_i hg
          simp only [List.mem_singleton] at h
          subst h
          unfold isG at hg
          simp only [decide_eq_true_eq] at hg
          have hle := hiOf_le lv mk lo h0
          refine ⟨Int.le_refl _, by dsimp only; omega, by dsimp only; omega, hg.2.1, fun i h1 h2 => ?_⟩
          dsimp only at h1 h2 ⊢
          by_cases he : i = (lo : Int)
          · rw [he]
          · obtain ⟨j, rfl⟩ := Int.eq_ofNat_of_zero_le (show 0 ≤ i by omega)
            exact (ext_in lv mk _ _ (lo + 1) j (by omega) (by have : j < hiOf lv mk lo := by omega
                                                              exact this)).2
        · simp at h
      · obtain ⟨h1, h2⟩ := grps_ge lv mk d _ g h
        exact ⟨by omega, h2⟩
    · simp at h
theorem grps_apart (lv : List Int) (mk : List Bool) : ∀ (d lo : Nat), (grps lv mk d lo).Pairwise (fun g g' => g.f1 ≤ g'.f0)
  | 0, lo => by rw [grps]; exact List.Pairwise.nil
  | d + 1, lo => by
    rw [grps]
    split
    · split
      · refine List.Pairwise.cons (fun g hg => ?_) (grps_apart lv mk d _)
        exact (grps_ge lv mk d _ g hg).1
      · exact grps_apart lv mk d _
    · exact List.Pairwise.nil
/-- A group's places, turned. -/
def act (g : S31) (v : Int) : Int := if g.f0 ≤ v ∧ v < g.f1 then g.f0 + g.f1 - 1 - v else v
theorem act_act (g : S31) (v : Int) : act g (act g v) = v := by
  unfold act
  by_cases h : g.f0 ≤ v ∧ v < g.f1
  · rw [if_pos h, if_pos (by omega)]; omega
  · rw [if_neg h, if_neg h]
theorem act_out (g : S31) (v : Int) (h : ¬ (g.f0 ≤ v ∧ v < g.f1)) : act g v = v := by unfold act; rw [if_neg h]
/-- Whether a group's places stand falling from a place on. -/
def Falls (o : List Int) (lo : Int) (g : S31) : Prop := lo + (g.f1 - g.f0) ≤ (o.length : Int) ∧ ∀ k : Int, 0 ≤ k → k < g.f1 - g.f0 → rd o (lo + k) = g.f1 - 1 - k
open Classical in
noncomputable def proc (o a : List Int) : List S31 → List Int → List Int
  | [], out => out
  | g :: gs, out => proc o a gs (if Falls o (rd a (g.f1 - 1)) g then out.map (act g) else out)
theorem rd_map (out : List Int) (f : Int → Int) (p : Int) (h : 0 ≤ p ∧ p < (out.length : Int)) : rd (out.map f) p = f (rd out p) := by
  have hp : p.toNat < out.length := by omega
  unfold rd; simp [hp]
/-- What holds of the list while the groups are gone through. -/
structure Inv (o a : List Int) (gs : List S31) (out : List Int) : Prop where
  len : out.length = o.length
  nodup : ∀ v w : Int, 0 ≤ v → v < (o.length : Int) → 0 ≤ w → w < (o.length : Int) → rd out v = rd out w → v = w
  range : ∀ v : Int, 0 ≤ v → v < (o.length : Int) → 0 ≤ rd out v ∧ rd out v < (o.length : Int)
  seg : ∀ g ∈ gs, Falls o (rd a (g.f1 - 1)) g → ∀ k : Int, 0 ≤ k → k < g.f1 - g.f0 → rd out (rd a (g.f1 - 1) + k) = g.f1 - 1 - k
theorem inv_act (o a : List Int) (g : S31) (gs : List S31) (out : List Int) (h : Inv o a (g :: gs) out) (hg : 0 ≤ g.f0 ∧ g.f0 < g.f1 ∧ g.f1 ≤ (o.length : Int)) (hap : ∀ g' ∈ gs, g.f1 ≤ g'.f0) (hgs : ∀ g' ∈ gs, 0 ≤ g'.f0 ∧ g'.f0 < g'.f1 ∧ g'.f1 ≤ (o.length : Int)) (ha : ∀ g' ∈ gs, 0 ≤ rd a (g'.f1 - 1)) : Inv o a gs (out.map (act g)) := by
  refine ⟨by rw [List.length_map]; exact h.len, fun v w h1 h2 h3 h4 he => ?_, fun v h1 h2 => ?_, fun g' hg' hf k h1 h2 => ?_⟩
  · rw [rd_map out _ v ⟨h1, by rw [h.len]; exact h2⟩, rd_map out _ w ⟨h3, by rw [h.len]; exact h4⟩] at he
    have := congrArg (act g) he
    rw [act_act, act_act] at this
    exact h.nodup v w h1 h2 h3 h4 this
  · rw [rd_map out _ v ⟨h1, by rw [h.len]; exact h2⟩]
    have hr := h.range v h1 h2
    unfold act
    split <;> omega
  · have hs := h.seg g' (by simp [hg']) hf k h1 h2
    have hb := hf.1
    have h0 := ha g' hg'
    rw [rd_map out _ _ ⟨by omega, by rw [h.len]; omega⟩, hs]
    have h5 := hap g' hg'
    exact act_out g _ (by omega)
theorem inv_skip (o a : List Int) (g : S31) (gs : List S31) (out : List Int) (h : Inv o a (g :: gs) out) : Inv o a gs out := ⟨h.len, h.nodup, h.range, fun g' hg' => h.seg g' (by simp [hg'])⟩
/-- A part turned round: just the group's places. -/
theorem cut_act (o a : List Int) (g : S31) (gs : List S31) (out : List Int) (h : Inv o a (g :: gs) out) (hg : 0 ≤ g.f0 ∧ g.f0 < g.f1 ∧ g.f1 ≤ (o.length : Int)) (h0 : 0 ≤ rd a (g.f1 - 1)) (hf : Falls o (rd a (g.f1 - 1)) g) :
    slices_ReverseCut_int_int.f out (rd a (g.f1 - 1)) (rd a (g.f1 - 1) + (g.f1 - g.f0)) = some (out.map (act g)) := by
  obtain ⟨lo, hlo⟩ : ∃ lo : Nat, rd a (g.f1 - 1) = (lo : Int) := ⟨(rd a (g.f1 - 1)).toNat, by omega⟩
  obtain ⟨m, hm⟩ : ∃ m : Nat, g.f1 - g.f0 = (m : Int) := ⟨(g.f1 - g.f0).toNat, by omega⟩
  have hseg := h.seg g (by simp) hf
  have hb := hf.1
  rw [hlo, hm] at hb
  rw [hlo, hm] at hseg
  rw [hlo, hm]
  have hl := h.len
  unfold slices_ReverseCut_int_int.f
  rw [if_pos ⟨by omega, by omega, by omega⟩]
  congr 1
  have e1 : ((lo : Int) + (m : Int)).toNat = lo + m := by omega
  rw [Int.toNat_natCast, e1, show lo + m - lo = m by omega]
  refine rd_ext _ _ (by simp; omega) (fun p p0 p1 => ?_)
  have hlen : (List.take lo out ++ ((List.take m (List.drop lo out)).reverse ++ List.drop (lo + m) out)).length = out.length := by simp; omega
  rw [hlen] at p1
  rw [rd_map out _ p ⟨p0, p1⟩]
  obtain ⟨q, rfl⟩ := Int.eq_ofNat_of_zero_le p0
  by_cases hin : lo ≤ q ∧ q < lo + m
  · have e2 : rd (List.take lo out ++ ((List.take m (List.drop lo out)).reverse ++ List.drop (lo + m) out)) (q : Int) = rd out ((lo + (m - 1 - (q - lo)) : Nat) : Int) := by
      unfold rd
      rw [Int.toNat_natCast, Int.toNat_natCast, List.getD_eq_getElem?_getD, List.getD_eq_getElem?_getD, List.getElem?_append_right (by rw [List.length_take]; omega), List.length_take, List.getElem?_append_left (by simp; omega), show min lo out.length = lo by omega,
        List.getElem?_reverse (by simp; omega), List.length_take, List.length_drop, show min m (out.length - lo) = m by omega, List.getElem?_take, if_pos (by omega), List.getElem?_drop]
    have s1 := hseg ((m - 1 - (q - lo) : Nat) : Int) (by omega) (by omega)
    have s2 := hseg ((q - lo : Nat) : Int) (by omega) (by omega)
    rw [show (lo : Int) + ((m - 1 - (q - lo) : Nat) : Int) = ((lo + (m - 1 - (q - lo)) : Nat) : Int) by omega] at s1
    rw [show (lo : Int) + ((q - lo : Nat) : Int) = ((q : Nat) : Int) by omega] at s2
    rw [e2, s1, s2]
    unfold act
    rw [if_pos (by omega)]
    omega
  · have e2 : rd (List.take lo out ++ ((List.take m (List.drop lo out)).reverse ++ List.drop (lo + m) out)) (q : Int) = rd out (q : Int) := by
      unfold rd
      rw [Int.toNat_natCast, List.getD_eq_getElem?_getD, List.getD_eq_getElem?_getD]
      by_cases hq : q < lo
      · rw [List.getElem?_append_left (by rw [List.length_take]; omega), List.getElem?_take, if_pos hq]
      · have hr : (List.take m (List.drop lo out)).reverse.length = m := by simp; omega
        rw [List.getElem?_append_right (by rw [List.length_take]; omega), List.length_take, show min lo out.length = lo by omega, List.getElem?_append_right (by rw [hr]; omega), hr, List.getElem?_drop]
        congr 2
        omega
    rw [e2]
    refine (act_out g _ (fun hv => hin ?_)).symm
    obtain ⟨k, hk⟩ : ∃ k : Int, g.f1 - 1 - rd out (q : Int) = k := ⟨_, rfl⟩
    have s1 := hseg k (by omega) (by omega)
    have := h.nodup (q : Int) ((lo : Int) + k) (by omega) (by omega) (by omega) (by omega) (by rw [s1]; omega)
    omega

/-- The code's walk along a part. -/
theorem falling_loop (s : List Int) (hb : ∀ j : Nat, j < s.length → 0 ≤ rd s (j : Int) ∧ rd s (j : Int) ≤ 100000) (hl : s.length ≤ 1000) : ∀ (d i k : Nat), i + d = s.length → 1 ≤ i → d < k →
    ∃ b, accent_falling.l0 k s (i : Int) = some b ∧ (b = true ↔ ∀ j : Nat, i ≤ j → j < s.length → rd s (j : Int) + 1 = rd s ((j - 1 : Nat) : Int)) := by
  intro d
  induction d with
  | zero =>
    intro i k hd h1 hk
    obtain ⟨k, rfl⟩ : ∃ m, k = m + 1 := ⟨k - 1, by omega⟩
    rw [accent_falling.l0, if_neg (by omega)]
    exact ⟨true, rfl, fun _ j h2 h3 => by omega, fun _ => rfl⟩
  | succ d ih =>
    intro i k hd h1 hk
    obtain ⟨k, rfl⟩ : ∃ m, k = m + 1 := ⟨k - 1, by omega⟩
    obtain ⟨b, hb1, hb2⟩ := ih (i + 1) k (by omega) (by omega) (by omega)
    have e : wrap64 ((i : Int) - 1) = ((i - 1 : Nat) : Int) := by rw [w64 (by omega) (by omega)]; omega
    have hbi := hb i (by omega)
    rw [accent_falling.l0, if_pos (by omega), if_pos (by omega), e, if_pos (by omega), if_pos (by omega), show wrap64 (rd s (i : Int) + 1) = rd s (i : Int) + 1 from w64 (by omega) (by omega), w64 (by omega) (by omega)]
    by_cases hc : rd s (i : Int) + 1 = rd s ((i - 1 : Nat) : Int)
    · rw [if_pos hc]
      refine ⟨b, hb1, hb2.trans ⟨fun h j h2 h3 => ?_, fun h j h2 h3 => h j (by omega) h3⟩⟩
      by_cases hj : j = i
      · rw [hj]; exact hc
      · exact h j (by omega) h3
    · rw [if_neg hc]
      exact ⟨false, rfl, Iff.intro (fun h => Bool.noConfusion h) (fun h => absurd (h i (Nat.le_refl _) (by omega)) hc)⟩
theorem rd_part (o : List Int) (lo hi : Nat) (j : Nat) (h : lo + j < hi) (hh : hi ≤ o.length) : rd ((o.take hi).drop lo) (j : Int) = rd o ((lo + j : Nat) : Int) := by
  unfold rd
  rw [Int.toNat_natCast, Int.toNat_natCast, List.getD_eq_getElem?_getD, List.getD_eq_getElem?_getD, List.getElem?_drop, List.getElem?_take, if_pos (by omega)]
/-- What the code asks of a part is that the group falls there. -/
theorem falling_f (o a : List Int) (g : S31) (k : Nat) (hk : o.length < k) (hn : o.length ≤ 1000) (hr : ∀ v : Int, 0 ≤ v → v < (o.length : Int) → 0 ≤ rd o v ∧ rd o v < (o.length : Int)) (hg : 0 ≤ g.f0 ∧ g.f0 < g.f1 ∧ g.f1 ≤ (o.length : Int))
    (h0 : 0 ≤ rd a (g.f1 - 1) ∧ rd a (g.f1 - 1) < (o.length : Int)) (ho : rd o (rd a (g.f1 - 1)) = g.f1 - 1) (hh : rd a (g.f1 - 1) + (g.f1 - g.f0) ≤ (o.length : Int)) :
    ∃ b, accent_falling.f k ((o.take (rd a (g.f1 - 1) + (g.f1 - g.f0)).toNat).drop (rd a (g.f1 - 1)).toNat) = some b ∧ (b = true ↔ Falls o (rd a (g.f1 - 1)) g) := by
  obtain ⟨lo, hlo⟩ := Int.eq_ofNat_of_zero_le h0.1
  obtain ⟨m, hm⟩ := Int.eq_ofNat_of_zero_le (show 0 ≤ g.f1 - g.f0 by omega)
  rw [hlo] at h0 ho hh ⊢
  rw [hm] at hh ⊢
  have e1 : ((lo : Int) + (m : Int)).toNat = lo + m := by omega
  rw [e1, Int.toNat_natCast]
  have hlen : ((o.take (lo + m)).drop lo).length = m := by rw [List.length_drop, List.length_take]; omega
  have hp : ∀ j : Nat, j < m → rd ((o.take (lo + m)).drop lo) (j : Int) = rd o ((lo + j : Nat) : Int) := fun j hj => rd_part o lo (lo + m) j (by omega) (by omega)
  obtain ⟨b, hb1, hb2⟩ := falling_loop ((o.take (lo + m)).drop lo) (fun j hj => by
    rw [hlen] at hj
    rw [hp j hj]
    have := hr ((lo + j : Nat) : Int) (by omega) (by omega)
    omega) (by omega) (m - 1) 1 k (by omega) (by omega) (by omega)
  refine ⟨b, hb1, hb2.trans ⟨fun h => ⟨by omega, fun k' k0 k1 => ?_⟩, fun h j h2 h3 => ?_⟩⟩
  · obtain ⟨j, rfl⟩ := Int.eq_ofNat_of_zero_le k0
    have hj : j < m := by omega
    clear k0 k1
    induction j with
    | zero => simp only [Int.natCast_zero, Int.add_zero, Int.sub_zero]; exact ho
    | succ j ih =>
      have ih' := ih (by omega)
      have := h (j + 1) (by omega) (by omega)
      rw [hp (j + 1) hj, show j + 1 - 1 = j by omega, hp j (by omega)] at this
      rw [show (lo : Int) + (j : Int) = ((lo + j : Nat) : Int) by omega] at ih'
      rw [show (lo : Int) + ((j + 1 : Nat) : Int) = ((lo + (j + 1) : Nat) : Int) by omega]
      omega
  · rw [hlen] at h3
    have a1 := h.2 (j : Int) (by omega) (by omega)
    have a2 := h.2 ((j - 1 : Nat) : Int) (by omega) (by omega)
    rw [hp j h3, hp (j - 1) (by omega)]
    rw [show (lo : Int) + (j : Int) = ((lo + j : Nat) : Int) by omega] at a1
    rw [show (lo : Int) + ((j - 1 : Nat) : Int) = ((lo + (j - 1) : Nat) : Int) by omega] at a2
    omega
theorem rd_T31_at (pre : List S31) (g : S31) (rest : List S31) : rd_T31 (pre ++ g :: rest) (pre.length : Int) = g := by simp [rd_T31]
/-- The facts of an order and its inverse. -/
structure Ord (o a : List Int) : Prop where
  len : a.length = o.length
  small : o.length ≤ 1000
  fw : ∀ p : Nat, p < o.length → rd a (rd o (p : Int)) = (p : Int)
  bw : ∀ v : Int, 0 ≤ v → v < (o.length : Int) → 0 ≤ rd a v ∧ rd a v < (o.length : Int) ∧ rd o (rd a v) = v
  range : ∀ v : Int, 0 ≤ v → v < (o.length : Int) → 0 ≤ rd o v ∧ rd o v < (o.length : Int)
theorem ord_of (o a : List Int) (h : plc (List.replicate o.length (-1)) 0 o = some a) (hn : o.length ≤ 1000) : Ord o a := by
  obtain ⟨h1, h2, h3⟩ := inv_facts o a h
  refine ⟨h1, hn, h2, h3, fun v h0 hv => ?_⟩
  obtain ⟨r1, _⟩ := plc_range _ _ _ _ h
  have := r1 (rd o v) (by
    have hp : v.toNat < o.length := by omega
    have : rd o v = o[v.toNat] := by unfold rd; simp [hp]
    rw [this]; exact List.getElem_mem hp)
  rwa [List.length_replicate] at this
theorem ord_inv (o a : List Int) (h : Ord o a) (gs : List S31) : Inv o a gs o := by
  refine ⟨rfl, fun v w h1 h2 h3 h4 he => ?_, h.range, fun g _ hf => hf.2⟩
  have e1 := h.fw v.toNat (by omega)
  have e2 := h.fw w.toNat (by omega)
  rw [show ((v.toNat : Nat) : Int) = v by omega] at e1
  rw [show ((w.toNat : Nat) : Int) = w by omega] at e2
  rw [← e1, he, e2]
theorem order_loop (o a : List Int) (h : Ord o a) (gs0 : List S31) (hG : gs0.length ≤ 1000) : ∀ (gs pre : List S31) (out : List Int) (k : Nat), gs0 = pre ++ gs → Inv o a gs out → gs.Pairwise (fun g g' => g.f1 ≤ g'.f0) → (∀ g ∈ gs, 0 ≤ g.f0 ∧ g.f0 < g.f1 ∧ g.f1 ≤ (o.length : Int)) → gs.length + 1500 < k →
    accent_Order.l0 k o a out gs0 (gs0.length : Int) (pre.length : Int) = some (proc o a gs out, 0) := by
  intro gs
  induction gs with
  | nil =>
    intro pre out k hp hI _ _ hk
    obtain ⟨k, rfl⟩ : ∃ m, k = m + 1 := ⟨k - 1, by omega⟩
    rw [accent_Order.l0, if_neg (by rw [hp]; simp)]
    rfl
  | cons g gs ih =>
    intro pre out k hp hI hap hgs hk
    obtain ⟨k, rfl⟩ : ∃ m, k = m + 1 := ⟨k - 1, by omega⟩
    rw [List.length_cons] at hk
    have hs := h.small
    have hlen : gs0.length = pre.length + gs.length + 1 := by rw [hp]; simp; omega
    have hrd : rd_T31 gs0 (pre.length : Int) = g := by rw [hp]; exact rd_T31_at pre g gs
    have hg := hgs g (by simp)
    have hb := h.bw (g.f1 - 1) (by omega) (by omega)
    obtain ⟨hap1, hap2⟩ := List.pairwise_cons.mp hap
    have hgs' : ∀ g' ∈ gs, 0 ≤ g'.f0 ∧ g'.f0 < g'.f1 ∧ g'.f1 ≤ (o.length : Int) := fun g' hg' => hgs g' (by simp [hg'])
    have step := fun out hI => ih (pre ++ [g]) out k (by rw [hp]; simp) hI hap2 hgs' (by omega)
    simp only [List.length_append, List.length_cons, List.length_nil, Nat.zero_add, Int.natCast_add, Int.natCast_one] at step
    have hw : wrap64 (wrap64 (rd a (g.f1 - 1) + g.f1) - g.f0) = rd a (g.f1 - 1) + (g.f1 - g.f0) := by
      rw [show wrap64 (rd a (g.f1 - 1) + g.f1) = rd a (g.f1 - 1) + g.f1 from w64 (by omega) (by omega), w64 (by omega) (by omega)]; omega
    rw [accent_Order.l0, if_pos (by omega), if_pos (by omega), if_pos (by omega), hrd, show wrap64 (g.f1 - 1) = g.f1 - 1 from w64 (by omega) (by omega), if_pos (by omega), if_pos (by rw [h.len]; omega), hw, show wrap64 ((pre.length : Int) + 1) = (pre.length : Int) + 1 from w64 (by omega) (by omega), proc]
    by_cases hh : rd a (g.f1 - 1) + (g.f1 - g.f0) ≤ (o.length : Int)
    · rw [if_pos hh, if_pos hb.1, if_pos (by omega)]
      obtain ⟨b, hb1, hb2⟩ := falling_f o a g k (by omega) hs h.range hg ⟨hb.1, hb.2.1⟩ hb.2.2 hh
      rw [hb1, Option.bind_some]
      by_cases hbt : b = true
      · have hf := hb2.mp hbt
        rw [if_pos hbt, cut_act o a g gs out hI hg hb.1 hf, Option.bind_some, if_pos hf]
        exact step _ (inv_act o a g gs out hI hg hap1 hgs' (fun g' hg' => (h.bw (g'.f1 - 1) (by have := hgs' g' hg'; omega) (by have := hgs' g' hg'; omega)).1))
      · rw [if_neg hbt, if_neg (fun hf => hbt (hb2.mpr hf))]
        exact step _ (inv_skip o a g gs out hI)
    · rw [if_neg hh, if_neg (fun hf => hh hf.1)]
      exact step _ (inv_skip o a g gs out hI)
theorem grps_length (lv : List Int) (mk : List Bool) : ∀ (d lo : Nat), (grps lv mk d lo).length ≤ d
  | 0, lo => by rw [grps]; exact Nat.le_refl _
  | d + 1, lo => by
    rw [grps]
    split
    · have := grps_length lv mk d (hiOf lv mk lo)
      rw [List.length_append]
      split
      · simp; omega
      · simp; omega
    · simp
/-- What the code answers of an order. -/
theorem order_f (o a lv : List Int) (mk : List Bool) (ha : plc (List.replicate o.length (-1)) 0 o = some a) (hn : o.length ≤ 1000) (h1 : lv.length = o.length) (h2 : mk.length = o.length) (k : Nat) (hk : 10000 ≤ k) :
    accent_Order.f k o lv mk = some (proc o a (grps lv mk lv.length 0) o, 0) := by
  obtain ⟨k, rfl⟩ : ∃ m, k = m + 1 := ⟨k - 1, by omega⟩
  have h := ord_of o a ha hn
  unfold accent_Order.f
  rw [if_pos (by omega), accent_Order.j0, if_neg (by simp [h2]), inverse_f o _ (by omega) (by omega), Option.bind_some, ha]
  dsimp only
  rw [if_pos rfl]
  unfold slices_Clone_int_int.f
  rw [Option.bind_some, if_pos (by simp; omega), Option.bind_some, List.nil_append, groups_f lv mk (by omega) (by omega) k (by omega), Option.bind_some]
  have hgl := grps_length lv mk lv.length 0
  exact order_loop o a h _ (by omega) _ [] o k rfl (ord_inv o a h _) (grps_apart lv mk _ _) (fun g hg => by have := grps_ge lv mk _ _ g hg; omega) (by omega)

theorem proc_inv (o a : List Int) (h : Ord o a) : ∀ (gs : List S31) (out : List Int), Inv o a gs out → gs.Pairwise (fun g g' => g.f1 ≤ g'.f0) → (∀ g ∈ gs, 0 ≤ g.f0 ∧ g.f0 < g.f1 ∧ g.f1 ≤ (o.length : Int)) → Inv o a [] (proc o a gs out)
  | [], out, hI, _, _ => hI
  | g :: gs, out, hI, hap, hgs => by
    obtain ⟨hap1, hap2⟩ := List.pairwise_cons.mp hap
    have hgs' : ∀ g' ∈ gs, 0 ≤ g'.f0 ∧ g'.f0 < g'.f1 ∧ g'.f1 ≤ (o.length : Int) := fun g' hg' => hgs g' (by simp [hg'])
    rw [proc]
    refine proc_inv o a h gs _ ?_ hap2 hgs'
    split
    · exact inv_act o a g gs out hI (hgs g (by simp)) hap1 hgs' (fun g' hg' => (h.bw (g'.f1 - 1) (by have := hgs' g' hg'; omega) (by have := hgs' g' hg'; omega)).1)
    · exact inv_skip o a g gs out hI
/-- A place whose number is in none of the groups stays. -/
theorem proc_keep (o a : List Int) (h : Ord o a) (p v : Int) (hp : 0 ≤ p ∧ p < (o.length : Int)) : ∀ (gs : List S31) (out : List Int), out.length = o.length → rd out p = v → (∀ g ∈ gs, ¬ (g.f0 ≤ v ∧ v < g.f1)) → rd (proc o a gs out) p = v
  | [], out, _, hv, _ => hv
  | g :: gs, out, hl, hv, hn => by
    rw [proc]
    have hn' : ∀ g' ∈ gs, ¬ (g'.f0 ≤ v ∧ v < g'.f1) := fun g' hg' => hn g' (by simp [hg'])
    split
    · refine proc_keep o a h p v hp gs _ (by rw [List.length_map]; exact hl) ?_ hn'
      rw [rd_map out _ p ⟨hp.1, by omega⟩, hv]
      exact act_out g v (hn g (by simp))
    · exact proc_keep o a h p v hp gs out hl hv hn'
/-- A group that falls stands in order behind. -/
theorem proc_seg (o a : List Int) (h : Ord o a) : ∀ (gs : List S31) (out : List Int), Inv o a gs out → gs.Pairwise (fun g g' => g.f1 ≤ g'.f0) → (∀ g ∈ gs, 0 ≤ g.f0 ∧ g.f0 < g.f1 ∧ g.f1 ≤ (o.length : Int)) → ∀ g ∈ gs, Falls o (rd a (g.f1 - 1)) g → ∀ k : Int, 0 ≤ k → k < g.f1 - g.f0 → rd (proc o a gs out) (rd a (g.f1 - 1) + k) = g.f0 + k
  | [], out, _, _, _, g, hg, _, _, _, _ => by simp at hg
  | g' :: gs, out, hI, hap, hgs, g, hg, hf, k, k0, k1 => by
    obtain ⟨hap1, hap2⟩ := List.pairwise_cons.mp hap
    have hgs' : ∀ g' ∈ gs, 0 ≤ g'.f0 ∧ g'.f0 < g'.f1 ∧ g'.f1 ≤ (o.length : Int) := fun g'' hg'' => hgs g'' (by simp [hg''])
    have hlo : ∀ g'' ∈ gs, 0 ≤ rd a (g''.f1 - 1) := fun g'' hg'' => (h.bw (g''.f1 - 1) (by have := hgs' g'' hg''; omega) (by have := hgs' g'' hg''; omega)).1
    rw [proc]
    rcases List.mem_cons.mp hg with e | hg
    · subst e
      rw [if_pos hf]
      have hg1 := hgs g (by simp)
      have hb := hf.1
      have hb0 := (h.bw (g.f1 - 1) (by omega) (by omega)).1
      refine proc_keep o a h _ _ (by omega) gs _ (by rw [List.length_map]; exact hI.len) ?_ (fun g'' hg'' => ?_)
      · rw [rd_map out _ _ (by rw [hI.len]; omega), hI.seg g (by simp) hf k k0 k1]
        unfold act
        rw [if_pos (by omega)]
        omega
      · have := hap1 g'' hg''
        omega
    · refine proc_seg o a h gs _ ?_ hap2 hgs' g hg hf k k0 k1
      split
      · exact inv_act o a g' gs out hI (hgs g' (by simp)) hap1 hgs' hlo
      · exact inv_skip o a g' gs out hI
theorem plc_of_inv (o a out : List Int) (h : Inv o a [] out) : ∃ b, plc (List.replicate out.length (-1)) 0 out = some b := by
  have hnd : out.Nodup := nodup_of_rd out (fun v w a0 a1 b0 b1 e => h.nodup v w a0 (by rw [← h.len]; exact a1) b0 (by rw [← h.len]; exact b1) e)
  have := plc_some out [] (List.replicate out.length (-1)) (by simpa using hnd) (fun v hv => by
    rw [List.length_replicate]
    obtain ⟨j, hj, e⟩ := rd_mem out v hv
    have := h.range (j : Int) (by omega) (by rw [← h.len]; omega)
    rw [e] at this
    rw [h.len]
    exact this) (fun v h0 h4 => by
    right
    rw [List.length_replicate]
    apply Classical.byContradiction
    intro hn
    have : rd (List.replicate out.length (-1)) v = -1 := by
      unfold rd; rw [List.getD_eq_getElem?_getD, List.getElem?_replicate, if_pos (by omega)]; rfl
    omega)
  simpa using this

/-- The groups as the document goes through them: a place after the other. -/
def grpsR (lv : List Int) (mk : List Bool) : Nat → Nat → List S31
  | 0, _ => []
  | d + 1, i => if i < lv.length then (if isG lv mk i = true then [(⟨(i : Int), (hiOf lv mk i : Int)⟩ : S31)] else []) ++ grpsR lv mk d (i + 1) else []
theorem grpsR_fuel (lv : List Int) (mk : List Bool) : ∀ (d d' i : Nat), lv.length ≤ i + d → lv.length ≤ i + d' → grpsR lv mk d i = grpsR lv mk d' i
  | 0, 0, i, _, _ => rfl
  | 0, d' + 1, i, h, _ => by rw [grpsR, grpsR, if_neg (by omega)]
  | d + 1, 0, i, _, h => by rw [grpsR, grpsR, if_neg (by omega)]
  | d + 1, d' + 1, i, h, h' => by
    rw [grpsR, grpsR, grpsR_fuel lv mk d d' (i + 1) (by omega) (by omega)]
theorem grpsR_skip (lv : List Int) (mk : List Bool) : ∀ (j d i : Nat), (∀ q, i ≤ q → q < i + j → isG lv mk q = false) → i + j ≤ lv.length → grpsR lv mk (d + j) i = grpsR lv mk d (i + j)
  | 0, d, i, _, _ => rfl
  | j + 1, d, i, h, hl => by
    rw [show d + (j + 1) = (d + j) + 1 by omega, grpsR, if_pos (by omega), if_neg (by rw [h i (by omega) (by omega)]; simp), List.nil_append, grpsR_skip lv mk j d (i + 1) (fun q h1 h2 => h q (by omega) (by omega)) (by omega), show i + 1 + j = i + (j + 1) by omega]
theorem grps_eq (lv : List Int) (mk : List Bool) : ∀ (d lo d' : Nat), lv.length ≤ lo + d → lv.length ≤ lo + d' → grps lv mk d lo = grpsR lv mk d' lo
  | 0, lo, d', h, h' => by
    cases d' with
    | zero => rfl
    | succ d' => rw [grps, grpsR, if_neg (by omega)]
  | d + 1, lo, d', h, h' => by
    rw [grps]
    by_cases h0 : lo < lv.length
    · obtain ⟨d', rfl⟩ : ∃ m, d' = m + 1 := ⟨d' - 1, by omega⟩
      have hge := hiOf_ge lv mk lo
      have hle := hiOf_le lv mk lo h0
      rw [if_pos h0, grpsR, if_pos h0]
      congr 1
      rw [grps_eq lv mk d (hiOf lv mk lo) (lv.length - hiOf lv mk lo) (by omega) (by omega)]
      obtain ⟨j, hj⟩ : ∃ j, hiOf lv mk lo = lo + 1 + j := ⟨hiOf lv mk lo - (lo + 1), by omega⟩
      have hs := grpsR_skip lv mk j (lv.length - hiOf lv mk lo) (lo + 1) (fun q h1 h2 => by
        have := (ext_in lv mk (rd lv (lo : Int)) (lv.length - (lo + 1)) (lo + 1) q h1 (show q < hiOf lv mk lo by omega)).1
        unfold isG
        simp [this]) (by omega)
      rw [hj] at hs ⊢
      rw [← hs]
      exact grpsR_fuel lv mk _ _ (lo + 1) (by omega) (by omega)
    · rw [if_neg h0]
      cases d' with
      | zero => rfl
      | succ d' => rw [grpsR, if_neg h0]
theorem tmod2 (x : Int) : (Int.tmod x 2 = 0) ↔ ¬ (x % 2 = 1) := by
  rw [← Int.dvd_iff_tmod_eq_zero]
  omega

theorem refexit (lv : List Int) (mk : List Bool) (hm : mk.length = lv.length) (hl : lv.length ≤ 1000) (i : Nat) (h0 : i < lv.length) (k : Nat) (acc : List S31) (ha : acc.length ≤ 100000) (r : Option (List S31))
    (h1 : isG lv mk i = true → naskhref31_Groups.l0 k lv mk (acc ++ [(⟨(i : Int), (hiOf lv mk i : Int)⟩ : S31)]) (wrap64 ((i : Int) + 1)) = r) (h2 : isG lv mk i = false → naskhref31_Groups.l0 k lv mk acc (wrap64 ((i : Int) + 1)) = r) :
    (if (0 : Int) ≤ (i : Int) then (if (i : Int) < (mk.length : Int) then (if rdOf false mk (i : Int) = true then (naskhref31_Groups.l0 k lv mk acc (wrap64 ((i : Int) + 1))) else (if (i : Int) < (lv.length : Int) then (if (Int.tmod (rd lv (i : Int)) 2) = 0 then (naskhref31_Groups.l0 k lv mk acc (wrap64 ((i : Int) + 1))) else (if (hiOf lv mk i : Int) > (wrap64 ((i : Int) + 1)) then (if acc.length < 8796093022208 then (naskhref31_Groups.l0 k lv mk (acc ++ [(⟨(i : Int), (hiOf lv mk i : Int)⟩ : S31)]) (wrap64 ((i : Int) + 1))) else (none)) else (naskhref31_Groups.l0 k lv mk acc (wrap64 ((i : Int) + 1))))) else (none))) else (none)) else (none)) = r := by
  have hw : wrap64 ((i : Int) + 1) = (i : Int) + 1 := w64 (by omega) (by omega)
  rw [if_pos (by omega), if_pos (by omega)]
  by_cases c1 : rdOf false mk (i : Int) = true
  · rw [if_pos c1]; exact h2 (by unfold isG; simp [c1])
  · rw [if_neg c1, if_pos (by omega)]
    by_cases c2 : Int.tmod (rd lv (i : Int)) 2 = 0
    · rw [if_pos c2]; exact h2 (by unfold isG; simp [(tmod2 _).mp c2])
    · rw [if_neg c2]
      have c3 : rd lv (i : Int) % 2 = 1 := by
        apply Classical.byContradiction
        intro h
        exact c2 ((tmod2 _).mpr h)
      by_cases c4 : i + 1 < hiOf lv mk i
      · rw [if_pos (by rw [hw]; omega), if_pos (by omega)]; exact h1 (by unfold isG; simp [c1, c3, c4])
      · rw [if_neg (by rw [hw]; omega)]; exact h2 (by unfold isG; simp [c4])
theorem refgroups_l1 (lv : List Int) (mk : List Bool) (hm : mk.length = lv.length) (hl : lv.length ≤ 1000) (i : Nat) (h0 : i < lv.length) (acc : List S31) (ha : acc.length ≤ 100000) (r : Option (List S31)) (K : Nat)
    (h1 : ∀ k, K ≤ k → isG lv mk i = true → naskhref31_Groups.l0 k lv mk (acc ++ [(⟨(i : Int), (hiOf lv mk i : Int)⟩ : S31)]) (wrap64 ((i : Int) + 1)) = r) (h2 : ∀ k, K ≤ k → isG lv mk i = false → naskhref31_Groups.l0 k lv mk acc (wrap64 ((i : Int) + 1)) = r) :
    ∀ (d p k : Nat), p + d = lv.length → d + K < k → ext lv mk (rd lv (i : Int)) d p = hiOf lv mk i → naskhref31_Groups.l1 k lv mk acc (i : Int) (p : Int) = r := by
  intro d
  induction d with
  | zero =>
    intro p k hd hk he
    obtain ⟨k, rfl⟩ : ∃ m, k = m + 1 := ⟨k - 1, by omega⟩
    rw [ext] at he
    rw [naskhref31_Groups.l1, if_neg (by omega), he]
    exact refexit lv mk hm hl i h0 k acc ha r (h1 k (by omega)) (h2 k (by omega))
  | succ d ih =>
    intro p k hd hk he
    obtain ⟨k, rfl⟩ : ∃ m, k = m + 1 := ⟨k - 1, by omega⟩
    rw [ext] at he
    have step := ih (p + 1) k (by omega) (by omega)
    simp only [Int.natCast_add, Int.natCast_one] at step
    rw [naskhref31_Groups.l1, if_pos (by omega), if_pos (by omega), if_pos (by omega)]
    by_cases c1 : rdOf false mk (p : Int) = true
    · rw [if_pos c1, if_pos (by omega), if_pos (by omega)]
      by_cases c2 : rd lv (p : Int) = rd lv (i : Int)
      · rw [if_pos ⟨by omega, c1, c2⟩] at he
        rw [if_pos c2, w64 (by omega) (by omega)]
        exact step he
      · rw [if_neg (fun h => c2 h.2.2)] at he
        rw [if_neg c2, he]
        have := refexit lv mk hm hl i h0 k acc ha r (h1 k (by omega)) (h2 k (by omega))
        rw [if_pos (by omega)] at this
        have hlv : ((i : Int) < (lv.length : Int)) = True := eq_true (by omega)
        simp only [hlv, if_true] at this
        exact this
    · rw [if_neg (fun h => c1 h.2.1)] at he
      rw [if_neg c1, he]
      exact refexit lv mk hm hl i h0 k acc ha r (h1 k (by omega)) (h2 k (by omega))
set_option maxRecDepth 20000 in
theorem refgroups_loop (lv : List Int) (mk : List Bool) (hm : mk.length = lv.length) (hl : lv.length ≤ 1000) : ∀ (d i k : Nat) (acc : List S31), i + d = lv.length → 3000 * (d + 1) < k → acc.length + d ≤ 100000 →
    naskhref31_Groups.l0 k lv mk acc (i : Int) = some (acc ++ grpsR lv mk d i) := by
  intro d
  induction d with
  | zero =>
    intro i k acc hd hk ha
    obtain ⟨k, rfl⟩ : ∃ m, k = m + 1 := ⟨k - 1, by omega⟩
    rw [naskhref31_Groups.l0, if_neg (by omega), grpsR, List.append_nil]
  | succ d ih =>
    intro i k acc hd hk ha
    obtain ⟨k, rfl⟩ : ∃ m, k = m + 1 := ⟨k - 1, by omega⟩
    have hw : wrap64 ((i : Int) + 1) = ((i + 1 : Nat) : Int) := by rw [w64 (by omega) (by omega)]; omega
    have step := fun k acc hk ha => ih (i + 1) k acc (by omega) hk ha
    rw [naskhref31_Groups.l0, if_pos (by omega), grpsR, if_pos (by omega), show wrap64 ((i : Int) + 1) = ((i + 1 : Nat) : Int) from hw]
    refine refgroups_l1 lv mk hm hl i (by omega) acc (by omega) _ (3000 * (d + 1) + 1) (fun k hk hg => ?_) (fun k hk hg => ?_) d (i + 1) k (by omega) (by omega) ?_
    · rw [hw, if_pos hg, step k _ (by omega) (by simp; omega)]
      simp
    · rw [hw, if_neg (by rw [hg]; simp), step k _ (by omega) (by omega)]
      simp
    · unfold hiOf
      rw [show lv.length - (i + 1) = d by omega]
theorem refgroups_f (lv : List Int) (mk : List Bool) (hl : lv.length ≤ 1000) (hm : mk.length = lv.length) (k : Nat) (hk : 3000 * (lv.length + 1) < k) : naskhref31_Groups.f k lv mk = some (grps lv mk lv.length 0) := by
  unfold naskhref31_Groups.f
  rw [if_pos (by omega)]
  have := refgroups_loop lv mk hm hl lv.length 0 k [] (by omega) hk (by simp; omega)
  rw [← grps_eq lv mk lv.length 0 lv.length (by omega) (by omega)] at this
  simpa using this
theorem falls_loop (o : List Int) (g : S31) (lo m : Nat) (hn : o.length ≤ 1000) (hb : lo + m ≤ o.length) (hm : g.f1 - g.f0 = (m : Int)) (hg : 0 ≤ g.f0 ∧ g.f1 ≤ 1000) : ∀ (d j k : Nat), j + d = m → d < k →
    ∃ b, naskhref31_falls.l0 k o (lo : Int) (m : Int) (j : Int) g.f0 g.f1 = some b ∧ (b = true ↔ ∀ i : Nat, j ≤ i → i < m → rd o ((lo : Int) + (i : Int)) = g.f1 - 1 - (i : Int)) := by
  intro d
  induction d with
  | zero =>
    intro j k hd hk
    obtain ⟨k, rfl⟩ : ∃ m, k = m + 1 := ⟨k - 1, by omega⟩
    rw [naskhref31_falls.l0, if_neg (by omega)]
    exact ⟨true, rfl, fun _ i h2 h3 => by omega, fun _ => rfl⟩
  | succ d ih =>
    intro j k hd hk
    obtain ⟨k, rfl⟩ : ∃ m, k = m + 1 := ⟨k - 1, by omega⟩
    obtain ⟨b, hb1, hb2⟩ := ih (j + 1) k (by omega) (by omega)
    rw [naskhref31_falls.l0, if_pos (by omega), show wrap64 ((lo : Int) + (j : Int)) = (lo : Int) + (j : Int) from w64 (by omega) (by omega), if_pos (by omega), if_pos (by omega), show wrap64 (g.f1 - 1) = g.f1 - 1 from w64 (by omega) (by omega), show wrap64 (g.f1 - 1 - (j : Int)) = g.f1 - 1 - (j : Int) from w64 (by omega) (by omega), w64 (by omega) (by omega)]
    by_cases hc : rd o ((lo : Int) + (j : Int)) = g.f1 - 1 - (j : Int)
    · rw [if_pos hc]
      refine ⟨b, hb1, hb2.trans ⟨fun h i h2 h3 => ?_, fun h i h2 h3 => h i (by omega) h3⟩⟩
      by_cases hi : i = j
      · rw [hi]; exact hc
      · exact h i (by omega) h3
    · rw [if_neg hc]
      exact ⟨false, rfl, Iff.intro (fun h => Bool.noConfusion h) (fun h => absurd (h j (Nat.le_refl _) (by omega)) hc)⟩
theorem reffalls_f (o : List Int) (g : S31) (lo : Nat) (hn : o.length ≤ 1000) (hg : 0 ≤ g.f0 ∧ g.f0 < g.f1 ∧ g.f1 ≤ (o.length : Int)) (hlo : lo < o.length) (k : Nat) (hk : o.length < k) :
    ∃ b, naskhref31_falls.f k o (lo : Int) g.f0 g.f1 = some b ∧ (b = true ↔ Falls o (lo : Int) g) := by
  obtain ⟨m, hm⟩ := Int.eq_ofNat_of_zero_le (show 0 ≤ g.f1 - g.f0 by omega)
  unfold naskhref31_falls.f
  rw [show wrap64 (g.f1 - g.f0) = (m : Int) by rw [w64 (by omega) (by omega), hm], show wrap64 ((o.length : Int) - (m : Int)) = (o.length : Int) - (m : Int) from w64 (by omega) (by omega)]
  by_cases h : (lo : Int) > (o.length : Int) - (m : Int)
  · rw [if_pos h]
    refine ⟨false, rfl, Iff.intro (fun h => Bool.noConfusion h) (fun hf => ?_)⟩
    have := hf.1
    omega
  · rw [if_neg h]
    obtain ⟨b, hb1, hb2⟩ := falls_loop o g lo m hn (by omega) hm ⟨hg.1, by omega⟩ m 0 k (by omega) (by omega)
    refine ⟨b, hb1, hb2.trans ⟨fun h => ⟨by omega, fun j j0 j1 => ?_⟩, fun hf i _ h3 => hf.2 (i : Int) (by omega) (by omega)⟩⟩
    obtain ⟨i, rfl⟩ := Int.eq_ofNat_of_zero_le j0
    exact h i (by omega) (by omega)
theorem ref_l2 (o : List Int) (g : S31) (gs0 : List S31) (q lo m : Nat) (hq : q < gs0.length) (hrd : rd_T31 gs0 (q : Int) = g) (hm : g.f1 - g.f0 = (m : Int)) (hg : 0 ≤ g.f0 ∧ g.f1 ≤ 1000) (out0 : List Int) (hol : out0.length = o.length) (hn : o.length ≤ 1000) (hb : lo + m ≤ o.length) (r : Option (List Int × Int)) (K : Nat)
    (hnext : ∀ out k, K ≤ k → out.length = o.length → (∀ i : Nat, i < m → rd out ((lo : Int) + (i : Int)) = g.f0 + (i : Int)) → (∀ p : Int, 0 ≤ p → p < (o.length : Int) → ¬ ((lo : Int) ≤ p ∧ p < (lo : Int) + (m : Int)) → rd out p = rd out0 p) → naskhref31_Order.l1 k o out gs0 (q : Int) (wrap64 ((lo : Int) + 1)) = r) :
    ∀ (d j k : Nat) (out : List Int), j + d = m → d + K < k → out.length = o.length → (∀ i : Nat, i < j → rd out ((lo : Int) + (i : Int)) = g.f0 + (i : Int)) → (∀ p : Int, 0 ≤ p → p < (o.length : Int) → ¬ ((lo : Int) ≤ p ∧ p < (lo : Int) + (j : Int)) → rd out p = rd out0 p) →
    naskhref31_Order.l2 k o out gs0 (q : Int) (lo : Int) (j : Int) = r := by
  intro d
  induction d with
  | zero =>
    intro j k out hd hk hl h1 h2
    obtain ⟨k, rfl⟩ : ∃ m, k = m + 1 := ⟨k - 1, by omega⟩
    have hj : j = m := by omega
    subst hj
    rw [naskhref31_Order.l2, if_pos (by omega), if_pos (by omega), hrd, show wrap64 (g.f1 - g.f0) = (j : Int) by rw [w64 (by omega) (by omega), hm], if_neg (by omega)]
    exact hnext out k (by omega) hl h1 h2
  | succ d ih =>
    intro j k out hd hk hl h1 h2
    obtain ⟨k, rfl⟩ : ∃ m, k = m + 1 := ⟨k - 1, by omega⟩
    rw [naskhref31_Order.l2, if_pos (by omega), if_pos (by omega), hrd, show wrap64 (g.f1 - g.f0) = (m : Int) by rw [w64 (by omega) (by omega), hm], if_pos (by omega), show wrap64 ((lo : Int) + (j : Int)) = (lo : Int) + (j : Int) from w64 (by omega) (by omega), if_pos (by omega), if_pos (by omega), show wrap64 (g.f0 + (j : Int)) = g.f0 + (j : Int) from w64 (by omega) (by omega), w64 (by omega) (by omega)]
    have step := ih (j + 1) k (out.set ((lo : Int) + (j : Int)).toNat (g.f0 + (j : Int))) (by omega) (by omega) (by rw [List.length_set]; exact hl) (fun i hi => by
      rw [rd_set out _ _ _ (by omega) (by omega)]
      by_cases he : i = j
      · subst he; rw [if_pos rfl]
      · rw [if_neg (by omega)]; exact h1 i (by omega)) (fun p p0 p1 hp => by
      rw [rd_set out _ _ _ (by omega) p0, if_neg (by omega)]
      exact h2 p p0 p1 (by omega))
    simp only [Int.natCast_add, Int.natCast_one] at step
    exact step
/-- Where no group falls any more, nothing is turned. -/
theorem ref_l1_tail (o : List Int) (g : S31) (gs0 : List S31) (q : Nat) (hq : q < gs0.length) (hrd : rd_T31 gs0 (q : Int) = g) (hg : 0 ≤ g.f0 ∧ g.f0 < g.f1 ∧ g.f1 ≤ (o.length : Int)) (hn : o.length ≤ 1000) (out : List Int) (r : Option (List Int × Int)) (K : Nat) (hK : 1000 < K)
    (hnext : ∀ k, K ≤ k → naskhref31_Order.l0 k o out gs0 (wrap64 ((q : Int) + 1)) = r) : ∀ (d p k : Nat), p + d = o.length → d + K < k → (∀ p' : Nat, p ≤ p' → p' < o.length → ¬ Falls o (p' : Int) g) → naskhref31_Order.l1 k o out gs0 (q : Int) (p : Int) = r := by
  intro d
  induction d with
  | zero =>
    intro p k hd hk _
    obtain ⟨k, rfl⟩ : ∃ m, k = m + 1 := ⟨k - 1, by omega⟩
    rw [naskhref31_Order.l1, if_neg (by omega)]
    exact hnext k (by omega)
  | succ d ih =>
    intro p k hd hk hf
    obtain ⟨k, rfl⟩ : ∃ m, k = m + 1 := ⟨k - 1, by omega⟩
    obtain ⟨b, hb1, hb2⟩ := reffalls_f o g p hn hg (by omega) k (by omega)
    rw [naskhref31_Order.l1, if_pos (by omega), if_pos (by omega), if_pos (by omega), hrd, hb1, Option.bind_some, if_neg (fun h => hf p (Nat.le_refl _) (by omega) (hb2.mp h)), w64 (by omega) (by omega)]
    have step := ih (p + 1) k (by omega) (by omega) (fun p' h1 h2 => hf p' (by omega) h2)
    simp only [Int.natCast_add, Int.natCast_one] at step
    exact step
set_option maxRecDepth 20000 in
theorem ref_l1_head (o a : List Int) (h : Ord o a) (g : S31) (gs : List S31) (gs0 : List S31) (q : Nat) (hq : q < gs0.length) (hrd : rd_T31 gs0 (q : Int) = g) (hg : 0 ≤ g.f0 ∧ g.f0 < g.f1 ∧ g.f1 ≤ (o.length : Int)) (out : List Int) (hI : Inv o a (g :: gs) out) (lo : Nat) (hlo : rd a (g.f1 - 1) = (lo : Int)) (hf : Falls o (lo : Int) g) (r : Option (List Int × Int)) (K : Nat) (hK : 1000 < K)
    (hnext : ∀ k, K ≤ k → naskhref31_Order.l0 k o (out.map (act g)) gs0 (wrap64 ((q : Int) + 1)) = r) : ∀ (d p k : Nat), p + d = lo → d + K + 3000 < k → naskhref31_Order.l1 k o out gs0 (q : Int) (p : Int) = r := by
  have hn := h.small
  have hb := h.bw (g.f1 - 1) (by omega) (by omega)
  rw [hlo] at hb
  have huniq : ∀ p' : Nat, p' < o.length → Falls o (p' : Int) g → p' = lo := fun p' hp' hf' => by
    have e1 := hf'.2 0 (Int.le_refl _) (by omega)
    simp only [Int.add_zero, Int.sub_zero] at e1
    have e2 := h.fw p' hp'
    rw [e1, hlo] at e2
    omega
  obtain ⟨m, hm⟩ := Int.eq_ofNat_of_zero_le (show 0 ≤ g.f1 - g.f0 by omega)
  have hfb := hf.1
  intro d
  induction d with
  | zero =>
    intro p k hd hk
    have hp : p = lo := by omega
    subst hp
    obtain ⟨k, rfl⟩ : ∃ m, k = m + 1 := ⟨k - 1, by omega⟩
    obtain ⟨b, hb1, hb2⟩ := reffalls_f o g p hn hg (by omega) k (by omega)
    rw [naskhref31_Order.l1, if_pos (by omega), if_pos (by omega), if_pos (by omega), hrd, hb1, Option.bind_some, if_pos (hb2.mpr hf)]
    refine ref_l2 o g gs0 q p m hq hrd hm ⟨hg.1, by omega⟩ out hI.len hn (by omega) r (K + 1500) (fun out' k hk hl h1 h2 => ?_) m 0 k out (by omega) (by omega) hI.len (fun i hi => by omega) (fun _ _ _ _ => rfl)
    have hout : out' = out.map (act g) := by
      refine rd_ext _ _ (by rw [List.length_map, hl, hI.len]) (fun v v0 v1 => ?_)
      rw [hl] at v1
      rw [rd_map out _ v ⟨v0, by rw [hI.len]; exact v1⟩]
      by_cases hv : (p : Int) ≤ v ∧ v < (p : Int) + (m : Int)
      · obtain ⟨i, hi⟩ := Int.eq_ofNat_of_zero_le (show 0 ≤ v - (p : Int) by omega)
        have e1 := h1 i (by omega)
        have e2 := hI.seg g (by simp) (by rw [hlo]; exact hf) (i : Int) (by omega) (by omega)
        rw [hlo] at e2
        rw [show v = (p : Int) + (i : Int) by omega, e1, e2]
        unfold act
        rw [if_pos (by omega)]
        omega
      · rw [h2 v v0 v1 hv]
        refine (act_out g _ (fun hin => hv ?_)).symm
        obtain ⟨i, hi⟩ := Int.eq_ofNat_of_zero_le (show 0 ≤ g.f1 - 1 - rd out v by omega)
        have e2 := hI.seg g (by simp) (by rw [hlo]; exact hf) (i : Int) (by omega) (by omega)
        rw [hlo] at e2
        have := hI.nodup v ((p : Int) + (i : Int)) v0 v1 (by omega) (by omega) (by rw [e2]; omega)
        omega
    rw [hout, w64 (by omega) (by omega)]
    have := ref_l1_tail o g gs0 q hq hrd hg hn (out.map (act g)) r K hK hnext (o.length - (p + 1)) (p + 1) k (by omega) (by omega) (fun p' h3 h4 hf' => by have := huniq p' h4 hf'; omega)
    simp only [Int.natCast_add, Int.natCast_one] at this
    exact this
  | succ d ih =>
    intro p k hd hk
    obtain ⟨k, rfl⟩ : ∃ m, k = m + 1 := ⟨k - 1, by omega⟩
    obtain ⟨b, hb1, hb2⟩ := reffalls_f o g p hn hg (by omega) k (by omega)
    rw [naskhref31_Order.l1, if_pos (by omega), if_pos (by omega), if_pos (by omega), hrd, hb1, Option.bind_some, if_neg (fun h => by have := huniq p (by omega) (hb2.mp h); omega), w64 (by omega) (by omega)]
    have step := ih (p + 1) k (by omega) (by omega)
    simp only [Int.natCast_add, Int.natCast_one] at step
    exact step
set_option maxRecDepth 400000 in
theorem ref_loop (o a : List Int) (h : Ord o a) (gs0 : List S31) (hG : gs0.length ≤ 1000) : ∀ (gs pre : List S31) (out : List Int) (k : Nat), gs0 = pre ++ gs → Inv o a gs out → gs.Pairwise (fun g g' => g.f1 ≤ g'.f0) → (∀ g ∈ gs, 0 ≤ g.f0 ∧ g.f0 < g.f1 ∧ g.f1 ≤ (o.length : Int)) → 6000 * (gs.length + 1) < k →
    naskhref31_Order.l0 k o out gs0 (pre.length : Int) = some (proc o a gs out, 0) := by
  intro gs
  induction gs with
  | nil =>
    intro pre out k hp hI _ _ hk
    obtain ⟨k, rfl⟩ : ∃ m, k = m + 1 := ⟨k - 1, by omega⟩
    rw [naskhref31_Order.l0, if_neg (by rw [hp]; simp)]
    rfl
  | cons g gs ih =>
    intro pre out k hp hI hap hgs hk
    obtain ⟨k, rfl⟩ : ∃ m, k = m + 1 := ⟨k - 1, by omega⟩
    rw [List.length_cons] at hk
    have hs := h.small
    have hlen : gs0.length = pre.length + gs.length + 1 := by rw [hp]; simp; omega
    have hrd : rd_T31 gs0 (pre.length : Int) = g := by rw [hp]; exact rd_T31_at pre g gs
    have hg := hgs g (by simp)
    have hb := h.bw (g.f1 - 1) (by omega) (by omega)
    obtain ⟨hap1, hap2⟩ := List.pairwise_cons.mp hap
    have hgs' : ∀ g' ∈ gs, 0 ≤ g'.f0 ∧ g'.f0 < g'.f1 ∧ g'.f1 ≤ (o.length : Int) := fun g' hg' => hgs g' (by simp [hg'])
    have step := fun out hI k hk => ih (pre ++ [g]) out k (by rw [hp]; simp) hI hap2 hgs' hk
    simp only [List.length_append, List.length_cons, List.length_nil, Nat.zero_add, Int.natCast_add, Int.natCast_one] at step
    have hw : wrap64 ((pre.length : Int) + 1) = (pre.length : Int) + 1 := w64 (by omega) (by omega)
    obtain ⟨lo, hlo⟩ := Int.eq_ofNat_of_zero_le hb.1
    rw [naskhref31_Order.l0, if_pos (by omega), proc]
    by_cases hf : Falls o (rd a (g.f1 - 1)) g
    · rw [if_pos hf]
      have hf' := hf
      rw [hlo] at hf'
      have hk9 : lo + (6000 * (gs.length + 1) + 1) + 3000 < k := by
        have h1 := hb.2.1
        rw [hlo] at h1
        clear step hI hgs' hgs hap2 hap1 hap
        omega
      refine ref_l1_head o a h g gs gs0 pre.length (by omega) hrd hg out hI lo hlo hf' _ (6000 * (gs.length + 1) + 1) (by omega) (fun k hk => ?_) lo 0 k (by omega) hk9
      rw [hw]
      exact step _ (inv_act o a g gs out hI hg hap1 hgs' (fun g' hg' => (h.bw (g'.f1 - 1) (by have := hgs' g' hg'; omega) (by have := hgs' g' hg'; omega)).1)) k (by omega)
    · rw [if_neg hf]
      refine ref_l1_tail o g gs0 pre.length (by omega) hrd hg hs out _ (6000 * (gs.length + 1) + 1) (by omega) (fun k hk => ?_) o.length 0 k (by omega) (by omega) (fun p' _ h2 hf' => hf ?_)
      · rw [hw]
        exact step _ (inv_skip o a g gs out hI) k (by omega)
      · have e1 := hf'.2 0 (Int.le_refl _) (by omega)
        simp only [Int.add_zero, Int.sub_zero] at e1
        have e2 := h.fw p' h2
        rw [e1] at e2
        rw [e2]
        exact hf'

theorem span_loop (a : List S31) (hl : a.length ≤ 100000) : ∀ (d i k : Nat), i + d = a.length → d < k → api_Span.l0 k a a (a.length : Int) (i : Int) = some true := by
  intro d
  induction d with
  | zero =>
    intro i k hd hk
    obtain ⟨k, rfl⟩ : ∃ m, k = m + 1 := ⟨k - 1, by omega⟩
    rw [api_Span.l0, if_neg (by omega)]
  | succ d ih =>
    intro i k hd hk
    obtain ⟨k, rfl⟩ : ∃ m, k = m + 1 := ⟨k - 1, by omega⟩
    have step := ih (i + 1) k (by omega) (by omega)
    simp only [Int.natCast_add, Int.natCast_one] at step
    rw [api_Span.l0, if_pos (by omega), if_pos (by omega), if_pos (by omega), if_pos (by omega), if_neg (by simp), w64 (by omega) (by omega)]
    exact step
theorem span_f (a : List S31) (hl : a.length ≤ 100000) (k : Nat) (hk : a.length < k) : api_Span.f k a a = some true := by
  unfold api_Span.f
  rw [if_pos rfl]
  exact span_loop a hl a.length 0 k (by omega) hk
theorem awake_ok : naskhlaw31_awake.f 60 = some true := by decide +kernel
set_option maxRecDepth 400000 in
theorem both (o lv : List Int) (mk : List Bool) (h1 : o.length ≤ 100) (h2 : lv.length ≤ 100) (h3 : mk.length ≤ 100) (k : Nat) (hk : 3000000 ≤ k) :
    ∃ out e, accent_Order.f k o lv mk = some (out, e) ∧ naskhref31_Order.f k o lv mk = some (out, e) ∧ out.length ≤ 100 := by
  obtain ⟨k, rfl⟩ : ∃ m, k = m + 1 := ⟨k - 1, by omega⟩
  by_cases hm : lv.length = o.length ∧ mk.length = o.length
  · cases hp : plc (List.replicate o.length (-1)) 0 o with
    | none =>
      refine ⟨[], 13, ?_, ?_, by simp⟩
      · unfold accent_Order.f
        rw [if_pos (by omega), accent_Order.j0, if_neg (by simp [hm.2]), inverse_f o _ (by omega) (by omega), Option.bind_some, hp]
        dsimp only
        rw [if_neg (by decide)]
      · unfold naskhref31_Order.f
        rw [if_pos (by omega), naskhref31_Order.j0, if_neg (by simp [hm.2]), refperm_f o _ (by omega) (by omega), Option.bind_some, hp, if_neg (by simp)]
    | some a =>
      have hO := ord_of o a hp (by omega)
      have hgl := grps_length lv mk lv.length 0
      have hap := grps_apart lv mk lv.length 0
      have hgs : ∀ g ∈ grps lv mk lv.length 0, 0 ≤ g.f0 ∧ g.f0 < g.f1 ∧ g.f1 ≤ (o.length : Int) := fun g hg => by have := grps_ge lv mk _ _ g hg; omega
      have hI := proc_inv o a hO _ o (ord_inv o a hO _) hap hgs
      refine ⟨proc o a (grps lv mk lv.length 0) o, 0, order_f o a lv mk hp (by omega) hm.1 hm.2 (k + 1) (by omega), ?_, by rw [hI.len]; exact h1⟩
      unfold naskhref31_Order.f
      rw [if_pos (by omega), naskhref31_Order.j0, if_neg (by simp [hm.2]), refperm_f o _ (by omega) (by omega), Option.bind_some, hp, if_pos (by rfl), if_pos (by simp; omega), refgroups_f lv mk (by omega) (by omega) k (by omega), Option.bind_some, List.nil_append]
      exact ref_loop o a hO _ (by omega) _ [] o k rfl (ord_inv o a hO _) hap hgs (by omega)
  · refine ⟨[], 1, ?_, ?_, by simp⟩
    · unfold accent_Order.f
      by_cases hq : (o.length : Int) = (lv.length : Int)
      · rw [if_pos hq, accent_Order.j0, if_pos (by simp; omega)]
      · rw [if_neg hq, accent_Order.j0, if_pos rfl]
    · unfold naskhref31_Order.f
      by_cases hq : (o.length : Int) = (lv.length : Int)
      · rw [if_pos hq, naskhref31_Order.j0, if_pos (by simp; omega)]
      · rw [if_neg hq, naskhref31_Order.j0, if_pos rfl]
theorem bothG (lv : List Int) (mk : List Bool) (h2 : lv.length ≤ 100) (k : Nat) (hk : 3000000 ≤ k) : ∃ gs, accent_Groups.f k lv mk = some gs ∧ naskhref31_Groups.f k lv mk = some gs ∧ gs.length ≤ 100 := by
  by_cases hm : mk.length = lv.length
  · exact ⟨grps lv mk lv.length 0, groups_f lv mk hm (by omega) k (by omega), refgroups_f lv mk (by omega) hm k (by omega), Nat.le_trans (grps_length lv mk _ _) h2⟩
  · refine ⟨[], ?_, ?_, by simp⟩
    · unfold accent_Groups.f; rw [if_neg (by omega)]
    · unfold naskhref31_Groups.f; rw [if_neg (by omega)]
theorem AccentTells_ok : naskhlaw31_AccentTells.Pure := by
  intro o lv mk h1 h2 h3 h4 h5 h6 h7
  refine ⟨3000001, ?_⟩
  have haw : ((naskhlaw31_awake.f 3000000).bind fun t => (some t)) = some true := by rw [at_rounds (fun k => naskhlaw31_awake.mono k) (by decide) awake_ok]; rfl
  have key : ∀ b : Bool, (b = false → o.length ≤ 100 ∧ lv.length ≤ 100 ∧ mk.length ≤ 100) → naskhlaw31_AccentTells.j0 3000001 o lv mk b = some true := by
    intro b hb
    rw [naskhlaw31_AccentTells.j0]
    cases b with
    | true => rw [if_pos rfl]; exact haw
    | false =>
      obtain ⟨b1, b2, b3⟩ := hb rfl
      obtain ⟨out, e, e1, e2, e3⟩ := both o lv mk b1 b2 b3 3000000 (by omega)
      obtain ⟨gs, g1, g2, g3⟩ := bothG lv mk b2 3000000 (by omega)
      rw [if_neg (by simp), e1, Option.bind_some, e2, Option.bind_some, g1, Option.bind_some, g2, Option.bind_some, span_f gs (by omega) _ (by omega), Option.bind_some, if_pos rfl, if_pos rfl]
      dsimp only
      rw [equal_self_int_int out (by omega) _ (by omega), Option.bind_some, if_pos rfl]
      exact haw
  unfold naskhlaw31_AccentTells.f
  by_cases c1 : (o.length : Int) > 100
  · rw [if_pos c1]; exact key true (fun h => by cases h)
  · rw [if_neg c1]
    by_cases c2 : (lv.length : Int) > 100
    · rw [if_pos c2]; exact key true (fun h => by cases h)
    · rw [if_neg c2]
      exact key _ (fun h => ⟨by omega, by omega, by simp at h; omega⟩)
end Go.Proofs.Ytmkgihmchkphaaa.PureAccentTellsAux
namespace Go.Proofs.Ytmkgihmchkphaaa.Pure
open Go.Proofs.Ytmkgihmchkphaaa.PAccentTells
theorem AccentTells : naskhlaw31_AccentTells.Pure := PureAccentTellsAux.AccentTells_ok
end Go.Proofs.Ytmkgihmchkphaaa.Pure
