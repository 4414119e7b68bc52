/- The inverse of the inverse is the order, and what is seen by one is put back by the other one. No condition. -/
import Derived.Test.YtimkacnkmoofdabPOrderInversex
namespace Go.Proofs.Ytimkacnkmoofdab.PureOrderInverseAux
open Go.RowKit Go.Proofs.Ytimkacnkmoofdab.POrderInverse Go.Proofs.YtimkacnkmoofdabW.PrintWords Go.Proofs.YtimkacnkmoofdabW.PrintLast

set_option linter.unusedSimpArgs false
set_option linter.unusedVariables false
theorem w64 {x : Int} (h0 : -9223372036854775808 ≤ x) (h1 : x ≤ 9223372036854775807) : wrap64 x = x := by unfold wrap64; omega
theorem rd_at (pre : List Int) (x : Int) (rest : List Int) : rd (pre ++ x :: rest) (pre.length : Int) = x := by simp [rd]
theorem rd_nat (l : List Int) (i : Nat) (h : i < l.length) : rd l (i : Int) = l[i] := by simp [rd, h]
theorem wf64 {x : Int} (h : (Lit.int .i64 x).wf = true) : -9223372036854775808 ≤ x ∧ x ≤ 9223372036854775807 := by
  simpa [Lit.wf, IntKind.min, IntKind.max, IntKind.signed, IntKind.bits] using h
theorem bsome {P : Prop} [Decidable P] {b : Bool} (h : b = true ↔ P) : some b = some (decide P) := by
  congr 1; rw [Bool.eq_iff_iff]; simpa using h
theorem u16w {x : Int} (h0 : 0 ≤ x) (h1 : x ≤ 65535) : IntKind.u16.wrap x = x := by
  simp [IntKind.wrap, IntKind.min, IntKind.max, IntKind.signed, IntKind.bits]; omega

theorem wraps_i64' (n : Int) (h₀ : 0 ≤ n) (h₁ : n < 2 ^ 62) : IntKind.i64.wrap n = n := by rw [IntKind.wrap_i64]; omega
theorem and_mask (x : Int) (i : Nat) (hi : i ≤ 62) (h0 : 0 ≤ x) (h1 : x < 2 ^ 62) : Go.bits .and .i64 x (2 ^ i - 1) = x % 2 ^ i := bits_mask .i64 62 (by decide) wraps_i64' i hi x h0 h1

theorem eq_loop_int_int (a b : List Int) (hl : a.length = b.length) (hm : a.length ≤ 9223372036854775806) : ∀ d k i : Nat, i + d = a.length → d < k →
    slices_Equal_int_int.l0 k a b a.length i = some (decide (a.drop i = b.drop i)) := by
  intro d
  induction d with
  | zero =>
    intro k i hi hk
    obtain ⟨k, rfl⟩ : ∃ m, k = m + 1 := ⟨k - 1, by omega⟩
    simp only [slices_Equal_int_int.l0]
    rw [if_neg (by omega), List.drop_eq_nil_of_le (by omega), List.drop_eq_nil_of_le (by omega)]
    simp
  | succ d ih =>
    intro k i hi hk
    obtain ⟨k, rfl⟩ : ∃ m, k = m + 1 := ⟨k - 1, by omega⟩
    simp only [slices_Equal_int_int.l0]
    rw [if_pos (by omega), if_pos (by omega), if_pos (by omega), if_pos (by omega), rd_nat a i (by omega), rd_nat b i (by omega),
      List.drop_eq_getElem_cons (by omega : i < a.length), List.drop_eq_getElem_cons (by omega : i < b.length)]
    by_cases h : a[i]'(by omega) = b[i]'(by omega)
    · rw [if_pos h, w64 (by omega) (by omega)]
      have := ih k (i + 1) (by omega) (by omega)
      rw [Int.natCast_add] at this
      rw [show ((1 : Nat) : Int) = 1 from rfl] at this
      rw [this]
      congr 1
      rw [decide_eq_decide, List.cons.injEq]
      simp only [h, true_and]
    · rw [if_neg h]
      congr 1
      symm
      rw [decide_eq_false_iff_not, List.cons.injEq]
      exact fun e => h e.1
theorem equal_f_int_int (a b : List Int) (hm : a.length ≤ 9223372036854775806) (k : Nat) (hk : a.length < k) : slices_Equal_int_int.f k a b = some (decide (a = b)) := by
  unfold slices_Equal_int_int.f
  by_cases hl : a.length = b.length
  · rw [if_pos (by omega), show (0 : Int) = ((0 : Nat) : Int) from rfl, eq_loop_int_int a b hl hm a.length k 0 (by omega) hk]
    simp
  · rw [if_neg (by omega)]
    have : a ≠ b := fun e => hl (by rw [e])
    simp [this]
theorem equal_self_int_int (a : List Int) (hm : a.length ≤ 9223372036854775806) (k : Nat) (hk : a.length < k) : slices_Equal_int_int.f k a a = some true := by
  rw [equal_f_int_int a a hm k hk]; simp

def clamp (n : Int) : Int := mn (mx n 0) 126
theorem clamp_ge (n : Int) : 0 ≤ clamp n := by unfold clamp mn mx; repeat' split <;> omega
theorem clamp_le (n : Int) : clamp n ≤ 126 := by unfold clamp mn mx; repeat' split <;> omega
theorem set_at (a : List Int) (y v : Int) (b : List Int) : (a ++ y :: b).set a.length v = a ++ v :: b := by simp
theorem held_loop : ∀ (rest pre : List Int) (k : Nat), rest.length < k → pre.length + rest.length ≤ 9223372036854775806 →
    order_held.l0 k (pre.map clamp ++ List.replicate rest.length 0) (pre ++ rest) ((pre ++ rest).length : Int) (pre.length : Int) = some ((pre ++ rest).map clamp) := by
  intro rest
  induction rest with
  | nil =>
    intro pre k hk hm
    obtain ⟨k, rfl⟩ : ∃ m, k = m + 1 := ⟨k - 1, by omega⟩
    rw [order_held.l0, if_neg (by simp)]
    simp
  | cons x rest ih =>
    intro pre k hk hm
    obtain ⟨k, rfl⟩ : ∃ m, k = m + 1 := ⟨k - 1, by omega⟩
    rw [List.length_cons] at hk hm
    have hlen : (pre ++ x :: rest).length = pre.length + rest.length + 1 := by simp; omega
    have step := ih (pre ++ [x]) k (by omega) (by simp; omega)
    simp only [List.append_assoc, List.cons_append, List.nil_append, List.length_append, List.length_cons, List.length_nil, Nat.zero_add, Int.natCast_add, Int.natCast_one, List.map_append, List.map_cons, List.map_nil] at step
    have hm0 : (pre.map clamp).length = pre.length := List.length_map _
    rw [order_held.l0, if_pos (by omega), if_pos (by omega), if_pos (by omega), if_pos (by simp; omega), rd_at, Int.toNat_natCast, List.length_cons, List.replicate_succ]
    have hs := set_at (pre.map clamp) 0 (mn (mx x 0) 126) (List.replicate rest.length 0)
    rw [hm0] at hs
    rw [hs, w64 (by omega) (by omega)]
    have e : ((pre ++ x :: rest).length : Int) = (pre.length : Int) + ((rest.length : Int) + 1) := by omega
    rw [e]
    simp only [List.map_append, List.map_cons]
    exact step
theorem held_f (l : List Int) (k : Nat) (hk : l.length < k) (hl : l.length ≤ 35184372088832) : order_held.f k l = some (l.map clamp) := by
  unfold order_held.f
  rw [if_pos (by omega), if_pos (by omega), Int.toNat_natCast]
  have := held_loop l [] k hk (by simp; omega)
  simpa using this
/-- Levels that are not below 0, and not too great. -/
def Lev (l : List Int) : Prop := ∀ x ∈ l, 0 ≤ x ∧ x ≤ 126
theorem lev_map (l : List Int) : Lev (l.map clamp) := by
  intro x hx
  obtain ⟨y, _, rfl⟩ := List.mem_map.mp hx
  exact ⟨clamp_ge y, clamp_le y⟩
theorem and1 (x : Int) (h : 0 ≤ x) (h1 : x ≤ 126) : Go.bits .and .i64 x 1 = x % 2 := by
  have := and_mask x 1 (by decide) h (by omega)
  simpa using this
/-- The greatest level, and the least odd one, of what is behind. -/
def bnd : Int → Int → List Int → Int × Int
  | m, o, [] => (m, o)
  | m, o, x :: rest => bnd (mx m x) (if x % 2 = 1 ∧ (o = 0 ∨ x < o) then x else o) rest
theorem bounds_loop : ∀ (rest pre : List Int) (m o : Int) (k : Nat), Lev rest → rest.length < k → pre.length + rest.length ≤ 9223372036854775806 →
    order_bounds.l0 k m o (pre ++ rest) ((pre ++ rest).length : Int) (pre.length : Int) = some (bnd m o rest) := by
  intro rest
  induction rest with
  | nil =>
    intro pre m o k hL hk hm
    obtain ⟨k, rfl⟩ : ∃ m, k = m + 1 := ⟨k - 1, by omega⟩
    rw [order_bounds.l0, if_neg (by simp)]
    rfl
  | cons x rest ih =>
    intro pre m o k hL hk hm
    obtain ⟨k, rfl⟩ : ∃ m, k = m + 1 := ⟨k - 1, by omega⟩
    rw [List.length_cons] at hk hm
    have hlen : (pre ++ x :: rest).length = pre.length + rest.length + 1 := by simp; omega
    have hx := hL x (by simp)
    have step := fun m o => ih (pre ++ [x]) m o k (fun y hy => hL y (by simp [hy])) (by omega) (by simp; omega)
    simp only [List.append_assoc, List.cons_append, List.nil_append, List.length_append, List.length_cons, List.length_nil, Nat.zero_add, Int.natCast_add, Int.natCast_one] at step
    have e : ((pre ++ x :: rest).length : Int) = (pre.length : Int) + ((rest.length : Int) + 1) := by omega
    rw [order_bounds.l0, if_pos (by omega), if_pos (by omega), if_pos (by omega), rd_at, and1 x hx.1 hx.2, w64 (by omega) (by omega), e, bnd]
    by_cases h1 : x % 2 = 1
    · rw [if_pos h1]
      by_cases h2 : o = 0
      · rw [if_pos h2, if_pos ⟨h1, Or.inl h2⟩, step]
      · rw [if_neg h2]
        by_cases h3 : x < o
        · rw [if_pos h3, if_pos ⟨h1, Or.inr h3⟩, step]
        · rw [if_neg h3, if_neg (by omega), step]
    · rw [if_neg h1, if_neg (by omega), step]
theorem bounds_f (l : List Int) (k : Nat) (hL : Lev l) (hk : l.length < k) (hl : l.length ≤ 35184372088832) : order_bounds.f k l = some (bnd 0 0 l) := by
  unfold order_bounds.f
  have := bounds_loop l [] 0 0 k hL hk (by simp; omega)
  simpa using this
/-- The greatest level. -/
def most : Int → List Int → Int
  | m, [] => m
  | m, x :: rest => most (mx m x) rest
theorem bnd_most : ∀ (l : List Int) (m o : Int), (bnd m o l).1 = most m l
  | [], _, _ => rfl
  | x :: rest, m, o => by rw [bnd, most, bnd_most rest]
theorem most_le : ∀ (l : List Int) (m : Int), Lev l → m ≤ 126 → most m l ≤ 126
  | [], _, _, h => h
  | x :: rest, m, hL, h => by
    rw [most]
    refine most_le rest _ (fun y hy => hL y (by simp [hy])) ?_
    have := hL x (by simp)
    unfold mx; split <;> omega
theorem most_ge : ∀ (l : List Int) (m : Int), m ≤ most m l
  | [], _ => by rw [most]; exact Int.le_refl _
  | x :: rest, m => by
    rw [most]
    have h1 := most_ge rest (mx m x)
    have h2 : m ≤ mx m x := by unfold mx; split <;> omega
    omega
/-- What the second of 'bnd' says. -/
theorem bnd_odd : ∀ (l : List Int) (m o : Int), Lev l → 0 ≤ o → ∀ level : Int, ((0 < (bnd m o l).2 ∧ (bnd m o l).2 ≤ level) ↔ ((0 < o ∧ o ≤ level) ∨ ∃ x ∈ l, x % 2 = 1 ∧ x ≤ level)) ∧ 0 ≤ (bnd m o l).2
  | [], m, o, _, ho, level => by simp [bnd, ho]
  | x :: rest, m, o, hL, ho, level => by
    rw [bnd]
    have hx := hL x (by simp)
    have hL' : Lev rest := fun y hy => hL y (by simp [hy])
    by_cases h : x % 2 = 1 ∧ (o = 0 ∨ x < o)
    · rw [if_pos h]
      obtain ⟨h1, h2⟩ := bnd_odd rest (mx m x) x hL' hx.1 level
      refine ⟨h1.trans ⟨?_, ?_⟩, h2⟩
      · rintro (h3 | ⟨y, hy, h3⟩)
        · exact Or.inr ⟨x, by simp, h.1, h3.2⟩
        · exact Or.inr ⟨y, by simp [hy], h3⟩
      · rintro (h3 | ⟨y, hy, h3⟩)
        · left; have := h.2; omega
        · rcases List.mem_cons.mp hy with rfl | hy
          · left; omega
          · exact Or.inr ⟨y, hy, h3⟩
    · rw [if_neg h]
      obtain ⟨h1, h2⟩ := bnd_odd rest (mx m x) o hL' ho level
      refine ⟨h1.trans ⟨?_, ?_⟩, h2⟩
      · rintro (h3 | ⟨y, hy, h3⟩)
        · exact Or.inl h3
        · exact Or.inr ⟨y, by simp [hy], h3⟩
      · rintro (h3 | ⟨y, hy, h3⟩)
        · exact Or.inl h3
        · rcases List.mem_cons.mp hy with e | hy
          · subst e
            left
            have h4 := h3.1
            have h5 := h3.2
            have h6 : ¬ (o = 0 ∨ y < o) := fun hh => h ⟨h4, hh⟩
            clear h1 h h3 h4
            omega
          · exact Or.inr ⟨y, hy, h3⟩
/-- The order in which places are seen. -/
def vis (lv : List Int) : List Int := if 0 < (bnd 0 0 lv).2 then order_Visual.down lv ((bnd 0 0 lv).1 - (bnd 0 0 lv).2 + 1).toNat (bnd 0 0 lv).1 (order_Visual.iota lv.length) else order_Visual.iota lv.length
theorem visual_f (l : List Int) (k : Nat) (hk : l.length < k) (hl : l.length ≤ 35184372088832) : order_Visual.f k l = some (vis (l.map clamp)) := by
  unfold order_Visual.f
  rw [held_f l k hk hl, Option.bind_some, if_pos ⟨by simp, hl⟩, bounds_f _ k (lev_map l) (by simpa using hk) (by simpa using hl), Option.bind_some, if_pos (by rw [bnd_most]; have := most_le (l.map clamp) 0 (lev_map l) (by omega); omega)]
  simp only [vis, List.length_map]


/-- Where each number stands; none: the numbers are no order. -/
def plc : List Int → Nat → List Int → Option (List Int)
  | out, _, [] => some out
  | out, i, v :: rest => if 0 ≤ v ∧ v < (out.length : Int) ∧ rd out v < 0 then plc (out.set v.toNat (i : Int)) (i + 1) rest else none
theorem places_loop (l : List Int) (hm : l.length ≤ 35184372088832) : ∀ (rest pre out : List Int) (k : Nat), l = pre ++ rest → rest.length < k → out.length = l.length →
    order_places.l0 k l out l (l.length : Int) (pre.length : Int) = some (match plc out pre.length rest with | some o => (o, true) | none => ([], false)) := by
  intro rest
  induction rest with
  | nil =>
    intro pre out k hl hk ho
    obtain ⟨k, rfl⟩ : ∃ m, k = m + 1 := ⟨k - 1, by omega⟩
    rw [order_places.l0, if_neg (by rw [hl]; simp)]
    rfl
  | cons v rest ih =>
    intro pre out k hl hk ho
    obtain ⟨k, rfl⟩ : ∃ m, k = m + 1 := ⟨k - 1, by omega⟩
    rw [List.length_cons] at hk
    have hlen : l.length = pre.length + rest.length + 1 := by rw [hl]; simp; omega
    have hrd : rd l (pre.length : Int) = v := by rw [hl]; exact rd_at pre v rest
    have step := fun out ho => ih (pre ++ [v]) out k (by rw [hl]; simp) (by omega) ho
    simp only [List.length_append, List.length_cons, List.length_nil, Nat.zero_add, Int.natCast_add, Int.natCast_one] at step
    rw [order_places.l0, if_pos (by omega), if_pos (by omega), if_pos (by omega), hrd, plc]
    by_cases h1 : v < 0
    · rw [if_pos h1, if_neg (by omega)]
    · rw [if_neg h1]
      by_cases h2 : (l.length : Int) ≤ v
      · rw [if_pos h2, if_neg (by omega)]
      · rw [if_neg h2, if_pos (by omega), if_pos (by omega)]
        by_cases h3 : 0 ≤ rd out v
        · rw [if_pos h3, if_neg (by omega)]
        · rw [if_neg h3, if_pos (by omega), w64 (by omega) (by omega), step _ (by rw [List.length_set]; exact ho)]
theorem places_f (l : List Int) (k : Nat) (hk : l.length < k) (hl : l.length ≤ 35184372088832) :
    order_places.f k l = some (match plc (List.replicate l.length (-1)) 0 l with | some o => (o, true) | none => ([], false)) := by
  unfold order_places.f slices_Repeat_int_int.f
  rw [if_pos (show ([(-1)] : List Int).length = 1 from rfl), if_pos (by omega), if_pos (by omega), Option.bind_some]
  have := places_loop l hl l [] (List.replicate l.length (-1)) k rfl hk (by simp)
  simpa [rd] using this
theorem permutes_f (l : List Int) (k : Nat) (hk : l.length < k) (hl : l.length ≤ 35184372088832) : order_Permutes.f k l = some (plc (List.replicate l.length (-1)) 0 l).isSome := by
  unfold order_Permutes.f
  rw [places_f l k hk hl, Option.bind_some]
  cases plc (List.replicate l.length (-1)) 0 l <;> rfl
theorem rd_set (out : List Int) (v w : Int) (x : Int) (hv : 0 ≤ v ∧ v < (out.length : Int)) (hw : 0 ≤ w) : rd (out.set v.toNat x) w = if w = v then x else rd out w := by
  unfold rd
  simp only [List.getD_eq_getElem?_getD, List.getElem?_set]
  by_cases h : w = v
  · subst h; rw [if_pos rfl, if_pos rfl, if_pos (by omega)]; rfl
  · rw [if_neg h, if_neg (by omega)]
/-- Numbers that are all unlike, and all in, are an order. -/
theorem plc_some : ∀ (rest pre out : List Int), (pre ++ rest).Nodup → (∀ v ∈ rest, 0 ≤ v ∧ v < (out.length : Int)) → (∀ v, 0 ≤ v → (0 ≤ rd out v → v ∈ pre ∨ (out.length : Int) ≤ v)) → ∃ o, plc out pre.length rest = some o
  | [], pre, out, _, _, _ => ⟨out, rfl⟩
  | v :: rest, pre, out, hd, hb, hs => by
    have hv := hb v (by simp)
    have hnp : v ∉ pre := by
      intro h
      rw [List.nodup_append] at hd
      exact hd.2.2 v h v (by simp) rfl
    have hneg : rd out v < 0 := by
      apply Classical.byContradiction
      intro h
      rcases hs v hv.1 (by omega) with h1 | h1
      · exact hnp h1
      · omega
    rw [plc, if_pos ⟨hv.1, hv.2, hneg⟩]
    have h := plc_some rest (pre ++ [v]) (out.set v.toNat (pre.length : Int)) (by simpa using hd) (by rw [List.length_set]; exact fun w hw => hb w (by simp [hw])) (fun w hw h => by
      rw [List.length_set]
      rw [rd_set out v w _ hv hw] at h
      by_cases e : w = v
      · left; simp [e]
      · rw [if_neg e] at h
        rcases hs w hw h with h1 | h1
        · left; simp [h1]
        · right; exact h1)
    simpa using h

theorem iota_mem (n : Nat) (p : Int) (h : p ∈ order_Visual.iota n) : 0 ≤ p ∧ p < (n : Int) := by
  simp only [order_Visual.iota, List.mem_map, List.mem_range] at h
  obtain ⟨i, hi, rfl⟩ := h
  omega
theorem iota_length (n : Nat) : (order_Visual.iota n).length = n := by simp [order_Visual.iota]
theorem turnA_length (q : Int → Bool) : ∀ (rest acc : List Int), (order_Visual.turnA q acc rest).length = acc.length + rest.length
  | [], acc => by simp [order_Visual.turnA]
  | x :: t, acc => by
    rw [order_Visual.turnA]
    split
    · rw [turnA_length q t (x :: acc)]; simp; omega
    · rw [List.length_append, List.length_cons, turnA_length q t []]; simp
theorem turnA_perm (q : Int → Bool) : ∀ (rest acc : List Int), (order_Visual.turnA q acc rest).Perm (acc ++ rest)
  | [], acc => by simp [order_Visual.turnA]
  | x :: t, acc => by
    rw [order_Visual.turnA]
    split
    · refine (turnA_perm q t (x :: acc)).trans ?_
      exact List.perm_middle.symm
    · refine List.Perm.append_left acc ?_
      exact List.Perm.cons x (by simpa using turnA_perm q t [])
theorem down_perm (lv : List Int) : ∀ (k : Nat) (level : Int) (o : List Int), (order_Visual.down lv k level o).Perm o
  | 0, _, o => List.Perm.refl o
  | k + 1, level, o => by
    rw [order_Visual.down]
    exact (down_perm lv k _ _).trans (by simpa using turnA_perm (fun p => decide (level ≤ rd lv p)) o [])
theorem vis_perm (lv : List Int) : (vis lv).Perm (order_Visual.iota lv.length) := by
  unfold vis
  split
  · exact down_perm _ _ _ _
  · exact List.Perm.refl _
theorem iota_nodup (n : Nat) : (order_Visual.iota n).Nodup := by
  unfold order_Visual.iota
  rw [List.nodup_iff_pairwise_ne, List.pairwise_map]
  exact (List.nodup_range (n := n)).imp (fun h e => h (by omega))
theorem vis_length (lv : List Int) : (vis lv).length = lv.length := by rw [(vis_perm lv).length_eq, iota_length]
theorem vis_mem (lv : List Int) (p : Int) (h : p ∈ vis lv) : 0 ≤ p ∧ p < (lv.length : Int) := iota_mem _ _ ((vis_perm lv).mem_iff.mp h)
theorem vis_nodup (lv : List Int) : (vis lv).Nodup := (vis_perm lv).nodup_iff.mpr (iota_nodup _)

theorem vis_plc (lv : List Int) : ∃ o, plc (List.replicate lv.length (-1)) 0 (vis lv) = some o := by
  have := plc_some (vis lv) [] (List.replicate lv.length (-1)) (by simpa using vis_nodup lv) (fun v hv => by rw [List.length_replicate]; exact vis_mem lv v hv) (fun v h0 h1 => by
    right
    rw [List.length_replicate]
    apply Classical.byContradiction
    intro h
    have : rd (List.replicate lv.length (-1)) v = -1 := by
      unfold rd
      rw [List.getD_eq_getElem?_getD, List.getElem?_replicate, if_pos (by omega)]; rfl
    omega)
  simpa using this

theorem plc_range : ∀ (rest out : List Int) (i : Nat) (o : List Int), plc out i rest = some o → (∀ v ∈ rest, 0 ≤ v ∧ v < (out.length : Int)) ∧ o.length = out.length
  | [], out, i, o, h => by rw [plc] at h; obtain rfl := Option.some.inj h; exact ⟨fun v hv => by simp at hv, rfl⟩
  | v :: rest, out, i, o, h => by
    rw [plc] at h
    by_cases hc : 0 ≤ v ∧ v < (out.length : Int) ∧ rd out v < 0
    · rw [if_pos hc] at h
      obtain ⟨h1, h2⟩ := plc_range rest _ _ o h
      rw [List.length_set] at h1 h2
      refine ⟨fun w hw => ?_, h2⟩
      rcases List.mem_cons.mp hw with e | hw
      · subst e; exact ⟨hc.1, hc.2.1⟩
      · exact h1 w hw
    · rw [if_neg hc] at h; cases h
/-- How many places are not filled. -/
def neg (out : List Int) : Nat := out.countP fun x => decide (x < 0)
theorem neg_set (out : List Int) (v : Int) (x : Int) (hv : 0 ≤ v ∧ v < (out.length : Int)) (hn : rd out v < 0) (hx : 0 ≤ x) : neg (out.set v.toNat x) + 1 = neg out := by
  have hlt : v.toNat < out.length := by omega
  have hr : rd out v = out[v.toNat] := by unfold rd; simp [hlt]
  rw [hr] at hn
  have e : out = out.take v.toNat ++ out[v.toNat] :: out.drop (v.toNat + 1) := by rw [← List.drop_eq_getElem_cons hlt, List.take_append_drop]
  unfold neg
  rw [List.set_eq_take_append_cons_drop, if_pos hlt]
  conv => rhs; rw [e]
  rw [List.countP_append, List.countP_append, List.countP_cons, List.countP_cons, if_neg (by simp; omega), if_pos (by simp; omega)]
  omega
theorem plc_neg : ∀ (rest out : List Int) (i : Nat) (o : List Int), plc out i rest = some o → neg o + rest.length = neg out
  | [], out, i, o, h => by rw [plc] at h; obtain rfl := Option.some.inj h; rfl
  | v :: rest, out, i, o, h => by
    rw [plc] at h
    by_cases hc : 0 ≤ v ∧ v < (out.length : Int) ∧ rd out v < 0
    · rw [if_pos hc] at h
      have h1 := plc_neg rest _ _ o h
      have h2 := neg_set out v (i : Int) ⟨hc.1, hc.2.1⟩ hc.2.2 (by omega)
      rw [List.length_cons]
      omega
    · rw [if_neg hc] at h; cases h
theorem neg_zero (o : List Int) (h : neg o = 0) (j : Int) (h0 : 0 ≤ j ∧ j < (o.length : Int)) : 0 ≤ rd o j := by
  unfold neg at h
  rw [List.countP_eq_zero] at h
  have hlt : j.toNat < o.length := by omega
  have hr : rd o j = o[j.toNat] := by unfold rd; simp [hlt]
  rw [hr]
  have := h o[j.toNat] (List.getElem_mem hlt)
  simpa using this
theorem plc_full (l o : List Int) (h : plc (List.replicate l.length (-1)) 0 l = some o) : o.length = l.length ∧ ∀ j : Int, 0 ≤ j → j < (l.length : Int) → 0 ≤ rd o j := by
  obtain ⟨_, h2⟩ := plc_range _ _ _ _ h
  rw [List.length_replicate] at h2
  refine ⟨h2, fun j h0 h1 => neg_zero o ?_ j ⟨h0, by omega⟩⟩
  have h3 := plc_neg _ _ _ _ h
  have h4 : neg (List.replicate l.length (-1)) = l.length := by unfold neg; simp [List.countP_replicate]
  omega
theorem rdB_set (s : List Bool) (v w : Int) (hv : 0 ≤ v ∧ v < (s.length : Int)) (hw : 0 ≤ w) : rdOf false (s.set v.toNat true) w = if w = v then true else rdOf false s w := by
  unfold rdOf
  simp only [List.getD_eq_getElem?_getD, List.getElem?_set]
  by_cases h : w = v
  · subst h; rw [if_pos rfl, if_pos rfl, if_pos (by omega)]; rfl
  · rw [if_neg h, if_neg (by omega)]
theorem rd_ext (a b : List Int) (hl : a.length = b.length) (h : ∀ v : Int, 0 ≤ v → v < (a.length : Int) → rd a v = rd b v) : a = b := by
  apply List.ext_getElem hl
  intro i h1 h2
  have := h (i : Int) (by omega) (by omega)
  rwa [rd_nat a i h1, rd_nat b i h2] at this
theorem inverse_f (l : List Int) (k : Nat) (hk : l.length < k) (hl : l.length ≤ 35184372088832) :
    order_Inverse.f k l = some (match plc (List.replicate l.length (-1)) 0 l with | some o => (o, 0) | none => ([], 13)) := by
  unfold order_Inverse.f
  rw [places_f l k hk hl, Option.bind_some]
  cases plc (List.replicate l.length (-1)) 0 l with
  | none => rw [if_neg (by simp)]
  | some o => rw [if_pos (by simp)]
theorem apply_loop (l x0 : List Int) (hm : x0.length ≤ 17592186044416) : ∀ (rest pre : List Int) (k : Nat), x0 = pre ++ rest → rest.length < k → (∀ v ∈ rest, 0 ≤ v ∧ v < (l.length : Int)) →
    order_Apply.l0 k l (pre.map (rd l)) x0 (x0.length : Int) (pre.length : Int) = some (x0.map (rd l), 0) := by
  intro rest
  induction rest with
  | nil =>
    intro pre k hl hk hv
    obtain ⟨k, rfl⟩ : ∃ m, k = m + 1 := ⟨k - 1, by omega⟩
    rw [order_Apply.l0, if_neg (by rw [hl]; simp), hl]
    simp
  | cons v rest ih =>
    intro pre k hl hk hv
    obtain ⟨k, rfl⟩ : ∃ m, k = m + 1 := ⟨k - 1, by omega⟩
    rw [List.length_cons] at hk
    have hlen : x0.length = pre.length + rest.length + 1 := by rw [hl]; simp; omega
    have hrd : rd x0 (pre.length : Int) = v := by rw [hl]; exact rd_at pre v rest
    have hb := hv v (by simp)
    have step := ih (pre ++ [v]) k (by rw [hl]; simp) (by omega) (fun w hw => hv w (by simp [hw]))
    simp only [List.length_append, List.length_cons, List.length_nil, Nat.zero_add, Int.natCast_add, Int.natCast_one, List.map_append, List.map_cons, List.map_nil] at step
    rw [order_Apply.l0, if_pos (by omega), if_pos (by omega), if_pos (by omega), hrd, if_pos hb.1, if_pos hb.2, if_pos (by rw [List.length_map]; omega), w64 (by omega) (by omega), step]
/-- What is seen of a list. -/
def app (o l : List Int) : List Int × Int := if o.length = l.length ∧ (plc (List.replicate o.length (-1)) 0 o).isSome = true then (o.map (rd l), 0) else ([], 13)
theorem apply_f (o l : List Int) (k : Nat) (hk : o.length + 1 < k) (ho : o.length ≤ 17592186044416) : order_Apply.f k o l = some (app o l) := by
  unfold order_Apply.f app
  obtain ⟨k, rfl⟩ : ∃ m, k = m + 1 := ⟨k - 1, by omega⟩
  by_cases hl : o.length = l.length
  · rw [if_pos (by omega), permutes_f o (k + 1) (by omega) (by omega), Option.bind_some]
    cases hp : plc (List.replicate o.length (-1)) 0 o with
    | none => rw [order_Apply.j0, if_pos (by simp), if_neg (by simp)]
    | some q =>
      obtain ⟨h1, _⟩ := plc_range _ _ _ _ hp
      rw [List.length_replicate] at h1
      rw [order_Apply.j0, if_neg (by simp), if_pos (by omega), if_pos (by omega), if_pos ⟨hl, rfl⟩]
      have := apply_loop l o ho o [] k rfl (by omega) (fun v hv => by have := h1 v hv; omega)
      simpa using this
  · rw [if_neg (by omega), order_Apply.j0, if_pos rfl, if_neg (by simp [hl])]

theorem plc_spec : ∀ (rest out : List Int) (i : Nat) (o : List Int), plc out i rest = some o → (∀ (j : Nat), j < rest.length → rd o (rd rest (j : Int)) = ((i + j : Nat) : Int)) ∧ (∀ w : Int, 0 ≤ w → w ∉ rest → rd o w = rd out w) ∧ (∀ w ∈ rest, rd out w < 0)
  | [], out, i, o, h => by
    rw [plc] at h; obtain rfl := Option.some.inj h
    exact ⟨fun j hj => by simp at hj, fun w _ _ => rfl, fun w hw => by simp at hw⟩
  | v :: rest, out, i, o, h => by
    rw [plc] at h
    by_cases hc : 0 ≤ v ∧ v < (out.length : Int) ∧ rd out v < 0
    · rw [if_pos hc] at h
      obtain ⟨h1, h2, h3⟩ := plc_spec rest _ _ o h
      obtain ⟨hr, _⟩ := plc_range rest _ _ o h
      have hv : 0 ≤ v ∧ v < (out.length : Int) := ⟨hc.1, hc.2.1⟩
      have hnv : v ∉ rest := by
        intro hm
        have := h3 v hm
        rw [rd_set out v v _ hv hv.1, if_pos rfl] at this
        omega
      refine ⟨fun j hj => ?_, fun w h0 hw => ?_, fun w hw => ?_⟩
      · match j with
        | 0 =>
          have e : rd (v :: rest) ((0 : Nat) : Int) = v := rfl
          rw [e, h2 v hv.1 hnv, rd_set out v v _ hv hv.1, if_pos rfl]
          omega
        | j + 1 =>
          have e : rd (v :: rest) ((j + 1 : Nat) : Int) = rd rest (j : Int) := by unfold rd; simp
          rw [e, h1 j (by simpa using hj)]
          omega
      · simp only [List.mem_cons, not_or] at hw
        rw [h2 w h0 hw.2, rd_set out v w _ hv h0, if_neg hw.1]
      · rcases List.mem_cons.mp hw with e | hw
        · rw [e]; exact hc.2.2
        · have h4 := h3 w hw
          have h0 := (hr w hw).1
          rw [rd_set out v w _ hv h0] at h4
          by_cases e : w = v
          · rw [e]; exact hc.2.2
          · rwa [if_neg e] at h4
    · rw [if_neg hc] at h; cases h
theorem rd_mem (l : List Int) (v : Int) (h : v ∈ l) : ∃ j : Nat, j < l.length ∧ rd l (j : Int) = v := by
  obtain ⟨j, hj, e⟩ := List.getElem_of_mem h
  exact ⟨j, hj, by rw [rd_nat l j hj]; exact e⟩
theorem inv_facts (o a : List Int) (h : plc (List.replicate o.length (-1)) 0 o = some a) : a.length = o.length ∧ (∀ p : Nat, p < o.length → rd a (rd o (p : Int)) = (p : Int)) ∧ (∀ v : Int, 0 ≤ v → v < (o.length : Int) → 0 ≤ rd a v ∧ rd a v < (o.length : Int) ∧ rd o (rd a v) = v) := by
  obtain ⟨h1, h2, _⟩ := plc_spec _ _ _ _ h
  obtain ⟨h4, h5⟩ := plc_full o a h
  refine ⟨h4, fun p hp => by rw [h1 p hp]; omega, fun v h0 hv => ?_⟩
  have hm : v ∈ o := by
    apply Classical.byContradiction
    intro hn
    have := h2 v h0 hn
    have e2 : rd (List.replicate o.length (-1)) v = -1 := by
      unfold rd; rw [List.getD_eq_getElem?_getD, List.getElem?_replicate, if_pos (by omega)]; rfl
    have := h5 v h0 hv
    omega
  obtain ⟨j, hj, e⟩ := rd_mem o v hm
  have := h1 j hj
  rw [e] at this
  rw [this]
  refine ⟨by omega, by omega, ?_⟩
  rw [show ((0 + j : Nat) : Int) = (j : Int) by omega]
  exact e
theorem nodup_of_rd (a : List Int) (h : ∀ v w : Int, 0 ≤ v → v < (a.length : Int) → 0 ≤ w → w < (a.length : Int) → rd a v = rd a w → v = w) : a.Nodup := by
  rw [List.nodup_iff_pairwise_ne, List.pairwise_iff_getElem]
  intro i j hi hj hij e
  have := h (i : Int) (j : Int) (by omega) (by omega) (by omega) (by omega) (by rw [rd_nat a i hi, rd_nat a j hj]; exact e)
  omega
theorem inv_inv (o a : List Int) (h : plc (List.replicate o.length (-1)) 0 o = some a) : plc (List.replicate o.length (-1)) 0 a = some o := by
  obtain ⟨h1, h2, h3⟩ := inv_facts o a h
  have hnd : a.Nodup := nodup_of_rd a (fun v w a0 a1 b0 b1 e => by
    have e1 := (h3 v a0 (by omega)).2.2
    have e2 := (h3 w b0 (by omega)).2.2
    rw [← e1, e, e2])
  have hneg : ∀ v : Int, 0 ≤ v → v < (o.length : Int) → rd (List.replicate o.length (-1)) v = -1 := fun v h0 h1 => by
    unfold rd; rw [List.getD_eq_getElem?_getD, List.getElem?_replicate, if_pos (by omega)]; rfl
  obtain ⟨b, hb⟩ := plc_some a [] (List.replicate o.length (-1)) (by simpa using hnd) (fun v hv => by
    rw [List.length_replicate]
    obtain ⟨j, hj, e⟩ := rd_mem a v hv
    have := h3 (j : Int) (by omega) (by omega)
    rw [e] at this
    exact ⟨this.1, this.2.1⟩) (fun v h0 h4 => by
    right
    rw [List.length_replicate]
    apply Classical.byContradiction
    intro hn
    have := hneg v h0 (by omega)
    omega)
  have hb' : plc (List.replicate a.length (-1)) 0 a = some b := by rw [h1]; simpa using hb
  obtain ⟨g1, g2, _⟩ := inv_facts a b hb'
  have : b = o := rd_ext b o (by omega) (fun p h0 h4 => by
    have k1 := h2 p.toNat (by omega)
    rw [show ((p.toNat : Nat) : Int) = p by omega] at k1
    have k2 : 0 ≤ rd o p ∧ rd o p < (o.length : Int) := by
      obtain ⟨r1, _⟩ := plc_range _ _ _ _ h
      have := r1 (rd o p) (by
        have hp : p.toNat < o.length := by omega
        have : rd o p = o[p.toNat] := by unfold rd; simp [hp]
        rw [this]; exact List.getElem_mem hp)
      rwa [List.length_replicate] at this
    have k3 := g2 (rd o p).toNat (by omega)
    rw [show (((rd o p).toNat : Nat) : Int) = rd o p by omega, k1] at k3
    exact k3)
  subst this
  simpa using hb

theorem awake_ok : naskhlaw29_awake.f 40 = some true := by decide +kernel

theorem OrderInverse_ok : naskhlaw29_OrderInverse.Pure := by
  intro l0 l h1 h2 h3 h4 h5 h6
  refine ⟨1001, ?_⟩
  have haw : ∀ k, 40 ≤ k → naskhlaw29_awake.f k = some true := fun k hk => at_rounds (fun k => naskhlaw29_awake.mono k) hk awake_ok
  unfold naskhlaw29_OrderInverse.f
  by_cases hn : (l0.length : Int) > 200
  · rw [if_pos hn, haw _ (by omega)]; rfl
  · rw [if_neg hn]
    have hlm : (l0.map clamp).length = l0.length := List.length_map _
    obtain ⟨o, ho⟩ : ∃ o, vis (l0.map clamp) = o := ⟨_, rfl⟩
    have hol : o.length = l0.length := by rw [← ho, vis_length, hlm]
    obtain ⟨a, ha⟩ := vis_plc (l0.map clamp)
    rw [ho, hlm, ← hol] at ha
    obtain ⟨hal, f1, f2⟩ := inv_facts o a ha
    have hb := inv_inv o a ha
    rw [visual_f l0 _ (by omega) (by omega), Option.bind_some, ho, inverse_f o _ (by omega) (by omega), Option.bind_some, ha]
    dsimp only
    rw [inverse_f a _ (by omega) (by omega), Option.bind_some, hal, hb]
    dsimp only
    rw [if_pos rfl, if_pos rfl, equal_self_int_int _ (by omega) _ (by omega), Option.bind_some, naskhlaw29_OrderInverse.j0]
    rw [if_neg (by simp)]
    by_cases hl : l.length = o.length
    · have e1 : app o l = (o.map (rd l), 0) := by unfold app; rw [if_pos ⟨hl.symm, by rw [ha]; rfl⟩]
      have hcl : (o.map (rd l)).length = o.length := List.length_map _
      have e2 : app a (o.map (rd l)) = (l, 0) := by
        unfold app
        rw [if_pos ⟨by omega, by rw [hal, hb]; rfl⟩]
        congr 1
        refine rd_ext _ _ (by rw [List.length_map]; omega) (fun v h0 h7 => ?_)
        rw [List.length_map] at h7
        have hv : v.toNat < a.length := by omega
        have g1 : rd (a.map (rd (o.map (rd l)))) v = rd (o.map (rd l)) (rd a v) := by
          unfold rd; simp [hv]
        obtain ⟨g2, g3, g4⟩ := f2 v h0 (by omega)
        have g5 : rd (o.map (rd l)) (rd a v) = rd l (rd o (rd a v)) := by
          have : (rd a v).toNat < o.length := by omega
          obtain ⟨p, hp⟩ : ∃ p, rd a v = p := ⟨_, rfl⟩
          rw [hp] at this ⊢
          unfold rd; simp [this]
        rw [g1, g5, g4]
      rw [if_pos (by omega)]
      rw [apply_f o l _ (by omega) (by omega), Option.bind_some, e1]
      dsimp only
      rw [apply_f a _ _ (by omega) (by omega), Option.bind_some, e2]
      dsimp only
      rw [if_pos rfl, if_pos rfl, equal_self_int_int _ (by omega) _ (by omega), Option.bind_some, if_pos rfl, haw _ (by omega)]
      rfl
    · rw [if_neg (by omega)]
      rw [haw _ (by omega)]
      rfl
end Go.Proofs.Ytimkacnkmoofdab.PureOrderInverseAux
namespace Go.Proofs.Ytimkacnkmoofdab.Pure
open Go.Proofs.Ytimkacnkmoofdab.POrderInverse
theorem OrderInverse : naskhlaw29_OrderInverse.Pure := PureOrderInverseAux.OrderInverse_ok
end Go.Proofs.Ytimkacnkmoofdab.Pure
