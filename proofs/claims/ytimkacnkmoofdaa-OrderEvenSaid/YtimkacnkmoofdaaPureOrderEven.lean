/- Where no level is odd, nothing is turned; where all are odd, and the same, all is. No condition. -/
import Derived.Test.YtimkacnkmoofdaaPOrderEvenx
namespace Go.Proofs.Ytimkacnkmoofdaa.PureOrderEvenAux
open Go.RowKit Go.Proofs.Ytimkacnkmoofdaa.POrderEven Go.Proofs.YtimkacnkmoofdaaW.PrintWords Go.Proofs.YtimkacnkmoofdaaW.PrintLast

set_option linter.unusedSimpArgs false
set_option linter.unusedVariables false
theorem w64 {x : Int} (h0 : -9223372036854775808 ≤ x) (h1 : x ≤ 9223372036854775807) : wrap64 x = x := by unfold wrap64; omega
theorem rd_at (pre : List Int) (x : Int) (rest : List Int) : rd (pre ++ x :: rest) (pre.length : Int) = x := by simp [rd]
theorem rd_nat (l : List Int) (i : Nat) (h : i < l.length) : rd l (i : Int) = l[i] := by simp [rd, h]
theorem wf64 {x : Int} (h : (Lit.int .i64 x).wf = true) : -9223372036854775808 ≤ x ∧ x ≤ 9223372036854775807 := by
  simpa [Lit.wf, IntKind.min, IntKind.max, IntKind.signed, IntKind.bits] using h
theorem bsome {P : Prop} [Decidable P] {b : Bool} (h : b = true ↔ P) : some b = some (decide P) := by
  congr 1; rw [Bool.eq_iff_iff]; simpa using h
theorem u16w {x : Int} (h0 : 0 ≤ x) (h1 : x ≤ 65535) : IntKind.u16.wrap x = x := by
  simp [IntKind.wrap, IntKind.min, IntKind.max, IntKind.signed, IntKind.bits]; omega

theorem wraps_i64' (n : Int) (h₀ : 0 ≤ n) (h₁ : n < 2 ^ 62) : IntKind.i64.wrap n = n := by rw [IntKind.wrap_i64]; omega
theorem and_mask (x : Int) (i : Nat) (hi : i ≤ 62) (h0 : 0 ≤ x) (h1 : x < 2 ^ 62) : Go.bits .and .i64 x (2 ^ i - 1) = x % 2 ^ i := bits_mask .i64 62 (by decide) wraps_i64' i hi x h0 h1

theorem eq_loop_int_int (a b : List Int) (hl : a.length = b.length) (hm : a.length ≤ 9223372036854775806) : ∀ d k i : Nat, i + d = a.length → d < k →
    slices_Equal_int_int.l0 k a b a.length i = some (decide (a.drop i = b.drop i)) := by
  intro d
  induction d with
  | zero =>
    intro k i hi hk
    obtain ⟨k, rfl⟩ : ∃ m, k = m + 1 := ⟨k - 1, by omega⟩
    simp only [slices_Equal_int_int.l0]
    rw [if_neg (by omega), List.drop_eq_nil_of_le (by omega), List.drop_eq_nil_of_le (by omega)]
    simp
  | succ d ih =>
    intro k i hi hk
    obtain ⟨k, rfl⟩ : ∃ m, k = m + 1 := ⟨k - 1, by omega⟩
    simp only [slices_Equal_int_int.l0]
    rw [if_pos (by omega), if_pos (by omega), if_pos (by omega), if_pos (by omega), rd_nat a i (by omega), rd_nat b i (by omega),
      List.drop_eq_getElem_cons (by omega : i < a.length), List.drop_eq_getElem_cons (by omega : i < b.length)]
    by_cases h : a[i]'(by omega) = b[i]'(by omega)
    · rw [if_pos h, w64 (by omega) (by omega)]
      have := ih k (i + 1) (by omega) (by omega)
      rw [Int.natCast_add] at this
      rw [show ((1 : Nat) : Int) = 1 from rfl] at this
      rw [this]
      congr 1
      rw [decide_eq_decide, List.cons.injEq]
      simp only [h, true_and]
    · rw [if_neg h]
      congr 1
      symm
      rw [decide_eq_false_iff_not, List.cons.injEq]
      exact fun e => h e.1
theorem equal_f_int_int (a b : List Int) (hm : a.length ≤ 9223372036854775806) (k : Nat) (hk : a.length < k) : slices_Equal_int_int.f k a b = some (decide (a = b)) := by
  unfold slices_Equal_int_int.f
  by_cases hl : a.length = b.length
  · rw [if_pos (by omega), show (0 : Int) = ((0 : Nat) : Int) from rfl, eq_loop_int_int a b hl hm a.length k 0 (by omega) hk]
    simp
  · rw [if_neg (by omega)]
    have : a ≠ b := fun e => hl (by rw [e])
    simp [this]
theorem equal_self_int_int (a : List Int) (hm : a.length ≤ 9223372036854775806) (k : Nat) (hk : a.length < k) : slices_Equal_int_int.f k a a = some true := by
  rw [equal_f_int_int a a hm k hk]; simp

def clamp (n : Int) : Int := mn (mx n 0) 126
theorem clamp_ge (n : Int) : 0 ≤ clamp n := by unfold clamp mn mx; repeat' split <;> omega
theorem clamp_le (n : Int) : clamp n ≤ 126 := by unfold clamp mn mx; repeat' split <;> omega
theorem set_at (a : List Int) (y v : Int) (b : List Int) : (a ++ y :: b).set a.length v = a ++ v :: b := by simp
theorem held_loop : ∀ (rest pre : List Int) (k : Nat), rest.length < k → pre.length + rest.length ≤ 9223372036854775806 →
    order_held.l0 k (pre.map clamp ++ List.replicate rest.length 0) (pre ++ rest) ((pre ++ rest).length : Int) (pre.length : Int) = some ((pre ++ rest).map clamp) := by
  intro rest
  induction rest with
  | nil =>
    intro pre k hk hm
    obtain ⟨k, rfl⟩ : ∃ m, k = m + 1 := ⟨k - 1, by omega⟩
    rw [order_held.l0, if_neg (by simp)]
    simp
  | cons x rest ih =>
    intro pre k hk hm
    obtain ⟨k, rfl⟩ : ∃ m, k = m + 1 := ⟨k - 1, by omega⟩
    rw [List.length_cons] at hk hm
    have hlen : (pre ++ x :: rest).length = pre.length + rest.length + 1 := by simp; omega
    have step := ih (pre ++ [x]) k (by omega) (by simp; omega)
    simp only [List.append_assoc, List.cons_append, List.nil_append, List.length_append, List.length_cons, List.length_nil, Nat.zero_add, Int.natCast_add, Int.natCast_one, List.map_append, List.map_cons, List.map_nil] at step
    have hm0 : (pre.map clamp).length = pre.length := List.length_map _
    rw [order_held.l0, if_pos (by omega), if_pos (by omega), if_pos (by omega), if_pos (by simp; omega), rd_at, Int.toNat_natCast, List.length_cons, List.replicate_succ]
    have hs := set_at (pre.map clamp) 0 (mn (mx x 0) 126) (List.replicate rest.length 0)
    rw [hm0] at hs
    rw [hs, w64 (by omega) (by omega)]
    have e : ((pre ++ x :: rest).length : Int) = (pre.length : Int) + ((rest.length : Int) + 1) := by omega
    rw [e]
    simp only [List.map_append, List.map_cons]
    exact step
theorem held_f (l : List Int) (k : Nat) (hk : l.length < k) (hl : l.length ≤ 35184372088832) : order_held.f k l = some (l.map clamp) := by
  unfold order_held.f
  rw [if_pos (by omega), if_pos (by omega), Int.toNat_natCast]
  have := held_loop l [] k hk (by simp; omega)
  simpa using this
/-- Levels that are not below 0, and not too great. -/
def Lev (l : List Int) : Prop := ∀ x ∈ l, 0 ≤ x ∧ x ≤ 126
theorem lev_map (l : List Int) : Lev (l.map clamp) := by
  intro x hx
  obtain ⟨y, _, rfl⟩ := List.mem_map.mp hx
  exact ⟨clamp_ge y, clamp_le y⟩
theorem and1 (x : Int) (h : 0 ≤ x) (h1 : x ≤ 126) : Go.bits .and .i64 x 1 = x % 2 := by
  have := and_mask x 1 (by decide) h (by omega)
  simpa using this
/-- The greatest level, and the least odd one, of what is behind. -/
def bnd : Int → Int → List Int → Int × Int
  | m, o, [] => (m, o)
  | m, o, x :: rest => bnd (mx m x) (if x % 2 = 1 ∧ (o = 0 ∨ x < o) then x else o) rest
theorem bounds_loop : ∀ (rest pre : List Int) (m o : Int) (k : Nat), Lev rest → rest.length < k → pre.length + rest.length ≤ 9223372036854775806 →
    order_bounds.l0 k m o (pre ++ rest) ((pre ++ rest).length : Int) (pre.length : Int) = some (bnd m o rest) := by
  intro rest
  induction rest with
  | nil =>
    intro pre m o k hL hk hm
    obtain ⟨k, rfl⟩ : ∃ m, k = m + 1 := ⟨k - 1, by omega⟩
    rw [order_bounds.l0, if_neg (by simp)]
    rfl
  | cons x rest ih =>
    intro pre m o k hL hk hm
    obtain ⟨k, rfl⟩ : ∃ m, k = m + 1 := ⟨k - 1, by omega⟩
    rw [List.length_cons] at hk hm
    have hlen : (pre ++ x :: rest).length = pre.length + rest.length + 1 := by simp; omega
    have hx := hL x (by simp)
    have step := fun m o => ih (pre ++ [x]) m o k (fun y hy => hL y (by simp [hy])) (by omega) (by simp; omega)
    simp only [List.append_assoc, List.cons_append, List.nil_append, List.length_append, List.length_cons, List.length_nil, Nat.zero_add, Int.natCast_add, Int.natCast_one] at step
    have e : ((pre ++ x :: rest).length : Int) = (pre.length : Int) + ((rest.length : Int) + 1) := by omega
    rw [order_bounds.l0, if_pos (by omega), if_pos (by omega), if_pos (by omega), rd_at, and1 x hx.1 hx.2, w64 (by omega) (by omega), e, bnd]
    by_cases h1 : x % 2 = 1
    · rw [if_pos h1]
      by_cases h2 : o = 0
      · rw [if_pos h2, if_pos ⟨h1, Or.inl h2⟩, step]
      · rw [if_neg h2]
        by_cases h3 : x < o
        · rw [if_pos h3, if_pos ⟨h1, Or.inr h3⟩, step]
        · rw [if_neg h3, if_neg (by omega), step]
    · rw [if_neg h1, if_neg (by omega), step]
theorem bounds_f (l : List Int) (k : Nat) (hL : Lev l) (hk : l.length < k) (hl : l.length ≤ 35184372088832) : order_bounds.f k l = some (bnd 0 0 l) := by
  unfold order_bounds.f
  have := bounds_loop l [] 0 0 k hL hk (by simp; omega)
  simpa using this
/-- The greatest level. -/
def most : Int → List Int → Int
  | m, [] => m
  | m, x :: rest => most (mx m x) rest
theorem bnd_most : ∀ (l : List Int) (m o : Int), (bnd m o l).1 = most m l
  | [], _, _ => rfl
  | x :: rest, m, o => by rw [bnd, most, bnd_most rest]
theorem most_le : ∀ (l : List Int) (m : Int), Lev l → m ≤ 126 → most m l ≤ 126
  | [], _, _, h => h
  | x :: rest, m, hL, h => by
    rw [most]
    refine most_le rest _ (fun y hy => hL y (by simp [hy])) ?_
    have := hL x (by simp)
    unfold mx; split <;> omega
theorem most_ge : ∀ (l : List Int) (m : Int), m ≤ most m l
  | [], _ => by rw [most]; exact Int.le_refl _
  | x :: rest, m => by
    rw [most]
    have h1 := most_ge rest (mx m x)
    have h2 : m ≤ mx m x := by unfold mx; split <;> omega
    omega
/-- What the second of 'bnd' says. -/
theorem bnd_odd : ∀ (l : List Int) (m o : Int), Lev l → 0 ≤ o → ∀ level : Int, ((0 < (bnd m o l).2 ∧ (bnd m o l).2 ≤ level) ↔ ((0 < o ∧ o ≤ level) ∨ ∃ x ∈ l, x % 2 = 1 ∧ x ≤ level)) ∧ 0 ≤ (bnd m o l).2
  | [], m, o, _, ho, level => by simp [bnd, ho]
  | x :: rest, m, o, hL, ho, level => by
    rw [bnd]
    have hx := hL x (by simp)
    have hL' : Lev rest := fun y hy => hL y (by simp [hy])
    by_cases h : x % 2 = 1 ∧ (o = 0 ∨ x < o)
    · rw [if_pos h]
      obtain ⟨h1, h2⟩ := bnd_odd rest (mx m x) x hL' hx.1 level
      refine ⟨h1.trans ⟨?_, ?_⟩, h2⟩
      · rintro (h3 | ⟨y, hy, h3⟩)
        · exact Or.inr ⟨x, by simp, h.1, h3.2⟩
        · exact Or.inr ⟨y, by simp [hy], h3⟩
      · rintro (h3 | ⟨y, hy, h3⟩)
        · left; have := h.2; omega
        · rcases List.mem_cons.mp hy with rfl | hy
          · left; omega
          · exact Or.inr ⟨y, hy, h3⟩
    · rw [if_neg h]
      obtain ⟨h1, h2⟩ := bnd_odd rest (mx m x) o hL' ho level
      refine ⟨h1.trans ⟨?_, ?_⟩, h2⟩
      · rintro (h3 | ⟨y, hy, h3⟩)
        · exact Or.inl h3
        · exact Or.inr ⟨y, by simp [hy], h3⟩
      · rintro (h3 | ⟨y, hy, h3⟩)
        · exact Or.inl h3
        · rcases List.mem_cons.mp hy with e | hy
          · subst e
            left
            have h4 := h3.1
            have h5 := h3.2
            have h6 : ¬ (o = 0 ∨ y < o) := fun hh => h ⟨h4, hh⟩
            clear h1 h h3 h4
            omega
          · exact Or.inr ⟨y, hy, h3⟩
/-- The order in which places are seen. -/
def vis (lv : List Int) : List Int := if 0 < (bnd 0 0 lv).2 then order_Visual.down lv ((bnd 0 0 lv).1 - (bnd 0 0 lv).2 + 1).toNat (bnd 0 0 lv).1 (order_Visual.iota lv.length) else order_Visual.iota lv.length
theorem visual_f (l : List Int) (k : Nat) (hk : l.length < k) (hl : l.length ≤ 35184372088832) : order_Visual.f k l = some (vis (l.map clamp)) := by
  unfold order_Visual.f
  rw [held_f l k hk hl, Option.bind_some, if_pos ⟨by simp, hl⟩, bounds_f _ k (lev_map l) (by simpa using hk) (by simpa using hl), Option.bind_some, if_pos (by rw [bnd_most]; have := most_le (l.map clamp) 0 (lev_map l) (by omega); omega)]
  simp only [vis, List.length_map]


/-- Where each number stands; none: the numbers are no order. -/
def plc : List Int → Nat → List Int → Option (List Int)
  | out, _, [] => some out
  | out, i, v :: rest => if 0 ≤ v ∧ v < (out.length : Int) ∧ rd out v < 0 then plc (out.set v.toNat (i : Int)) (i + 1) rest else none
theorem places_loop (l : List Int) (hm : l.length ≤ 35184372088832) : ∀ (rest pre out : List Int) (k : Nat), l = pre ++ rest → rest.length < k → out.length = l.length →
    order_places.l0 k l out l (l.length : Int) (pre.length : Int) = some (match plc out pre.length rest with | some o => (o, true) | none => ([], false)) := by
  intro rest
  induction rest with
  | nil =>
    intro pre out k hl hk ho
    obtain ⟨k, rfl⟩ : ∃ m, k = m + 1 := ⟨k - 1, by omega⟩
    rw [order_places.l0, if_neg (by rw [hl]; simp)]
    rfl
  | cons v rest ih =>
    intro pre out k hl hk ho
    obtain ⟨k, rfl⟩ : ∃ m, k = m + 1 := ⟨k - 1, by omega⟩
    rw [List.length_cons] at hk
    have hlen : l.length = pre.length + rest.length + 1 := by rw [hl]; simp; omega
    have hrd : rd l (pre.length : Int) = v := by rw [hl]; exact rd_at pre v rest
    have step := fun out ho => ih (pre ++ [v]) out k (by rw [hl]; simp) (by omega) ho
    simp only [List.length_append, List.length_cons, List.length_nil, Nat.zero_add, Int.natCast_add, Int.natCast_one] at step
    rw [order_places.l0, if_pos (by omega), if_pos (by omega), if_pos (by omega), hrd, plc]
    by_cases h1 : v < 0
    · rw [if_pos h1, if_neg (by omega)]
    · rw [if_neg h1]
      by_cases h2 : (l.length : Int) ≤ v
      · rw [if_pos h2, if_neg (by omega)]
      · rw [if_neg h2, if_pos (by omega), if_pos (by omega)]
        by_cases h3 : 0 ≤ rd out v
        · rw [if_pos h3, if_neg (by omega)]
        · rw [if_neg h3, if_pos (by omega), w64 (by omega) (by omega), step _ (by rw [List.length_set]; exact ho)]
theorem places_f (l : List Int) (k : Nat) (hk : l.length < k) (hl : l.length ≤ 35184372088832) :
    order_places.f k l = some (match plc (List.replicate l.length (-1)) 0 l with | some o => (o, true) | none => ([], false)) := by
  unfold order_places.f slices_Repeat_int_int.f
  rw [if_pos (show ([(-1)] : List Int).length = 1 from rfl), if_pos (by omega), if_pos (by omega), Option.bind_some]
  have := places_loop l hl l [] (List.replicate l.length (-1)) k rfl hk (by simp)
  simpa [rd] using this
theorem permutes_f (l : List Int) (k : Nat) (hk : l.length < k) (hl : l.length ≤ 35184372088832) : order_Permutes.f k l = some (plc (List.replicate l.length (-1)) 0 l).isSome := by
  unfold order_Permutes.f
  rw [places_f l k hk hl, Option.bind_some]
  cases plc (List.replicate l.length (-1)) 0 l <;> rfl
theorem rd_set (out : List Int) (v w : Int) (x : Int) (hv : 0 ≤ v ∧ v < (out.length : Int)) (hw : 0 ≤ w) : rd (out.set v.toNat x) w = if w = v then x else rd out w := by
  unfold rd
  simp only [List.getD_eq_getElem?_getD, List.getElem?_set]
  by_cases h : w = v
  · subst h; rw [if_pos rfl, if_pos rfl, if_pos (by omega)]; rfl
  · rw [if_neg h, if_neg (by omega)]
/-- Numbers that are all unlike, and all in, are an order. -/
theorem plc_some : ∀ (rest pre out : List Int), (pre ++ rest).Nodup → (∀ v ∈ rest, 0 ≤ v ∧ v < (out.length : Int)) → (∀ v, 0 ≤ v → (0 ≤ rd out v → v ∈ pre ∨ (out.length : Int) ≤ v)) → ∃ o, plc out pre.length rest = some o
  | [], pre, out, _, _, _ => ⟨out, rfl⟩
  | v :: rest, pre, out, hd, hb, hs => by
    have hv := hb v (by simp)
    have hnp : v ∉ pre := by
      intro h
      rw [List.nodup_append] at hd
      exact hd.2.2 v h v (by simp) rfl
    have hneg : rd out v < 0 := by
      apply Classical.byContradiction
      intro h
      rcases hs v hv.1 (by omega) with h1 | h1
      · exact hnp h1
      · omega
    rw [plc, if_pos ⟨hv.1, hv.2, hneg⟩]
    have h := plc_some rest (pre ++ [v]) (out.set v.toNat (pre.length : Int)) (by simpa using hd) (by rw [List.length_set]; exact fun w hw => hb w (by simp [hw])) (fun w hw h => by
      rw [List.length_set]
      rw [rd_set out v w _ hv hw] at h
      by_cases e : w = v
      · left; simp [e]
      · rw [if_neg e] at h
        rcases hs w hw h with h1 | h1
        · left; simp [h1]
        · right; exact h1)
    simpa using h

theorem iota_mem (n : Nat) (p : Int) (h : p ∈ order_Visual.iota n) : 0 ≤ p ∧ p < (n : Int) := by
  simp only [order_Visual.iota, List.mem_map, List.mem_range] at h
  obtain ⟨i, hi, rfl⟩ := h
  omega
theorem iota_length (n : Nat) : (order_Visual.iota n).length = n := by simp [order_Visual.iota]
theorem turnA_length (q : Int → Bool) : ∀ (rest acc : List Int), (order_Visual.turnA q acc rest).length = acc.length + rest.length
  | [], acc => by simp [order_Visual.turnA]
  | x :: t, acc => by
    rw [order_Visual.turnA]
    split
    · rw [turnA_length q t (x :: acc)]; simp; omega
    · rw [List.length_append, List.length_cons, turnA_length q t []]; simp
theorem turnA_perm (q : Int → Bool) : ∀ (rest acc : List Int), (order_Visual.turnA q acc rest).Perm (acc ++ rest)
  | [], acc => by simp [order_Visual.turnA]
  | x :: t, acc => by
    rw [order_Visual.turnA]
    split
    · refine (turnA_perm q t (x :: acc)).trans ?_
      exact List.perm_middle.symm
    · refine List.Perm.append_left acc ?_
      exact List.Perm.cons x (by simpa using turnA_perm q t [])
theorem down_perm (lv : List Int) : ∀ (k : Nat) (level : Int) (o : List Int), (order_Visual.down lv k level o).Perm o
  | 0, _, o => List.Perm.refl o
  | k + 1, level, o => by
    rw [order_Visual.down]
    exact (down_perm lv k _ _).trans (by simpa using turnA_perm (fun p => decide (level ≤ rd lv p)) o [])
theorem vis_perm (lv : List Int) : (vis lv).Perm (order_Visual.iota lv.length) := by
  unfold vis
  split
  · exact down_perm _ _ _ _
  · exact List.Perm.refl _
theorem iota_nodup (n : Nat) : (order_Visual.iota n).Nodup := by
  unfold order_Visual.iota
  rw [List.nodup_iff_pairwise_ne, List.pairwise_map]
  exact (List.nodup_range (n := n)).imp (fun h e => h (by omega))
theorem vis_length (lv : List Int) : (vis lv).length = lv.length := by rw [(vis_perm lv).length_eq, iota_length]
theorem vis_mem (lv : List Int) (p : Int) (h : p ∈ vis lv) : 0 ≤ p ∧ p < (lv.length : Int) := iota_mem _ _ ((vis_perm lv).mem_iff.mp h)
theorem vis_nodup (lv : List Int) : (vis lv).Nodup := (vis_perm lv).nodup_iff.mpr (iota_nodup _)

theorem awake_ok : naskhlaw29_awake.f 40 = some true := by decide +kernel

theorem vis_even (lv : List Int) (hL : Lev lv) (h : ∀ x ∈ lv, x % 2 = 0) : vis lv = order_Visual.iota lv.length := by
  unfold vis
  rw [if_neg]
  intro ho
  have h1 := ((bnd_odd lv 0 0 hL (by omega) (bnd 0 0 lv).2).1).mp ⟨ho, Int.le_refl _⟩
  rcases h1 with h1 | ⟨x, hx, h2, _⟩
  · omega
  · have := h x hx; omega
theorem bnd_same (L : Int) (h1 : 1 ≤ L) (h2 : L % 2 = 1) : ∀ n : Nat, bnd L L (List.replicate n L) = (L, L)
  | 0 => rfl
  | n + 1 => by
    rw [List.replicate_succ, bnd, if_neg (by omega)]
    have : mx L L = L := by unfold mx; split <;> omega
    rw [this]
    exact bnd_same L h1 h2 n
theorem turnA_all (q : Int → Bool) : ∀ (o acc : List Int), (∀ p ∈ o, q p = true) → order_Visual.turnA q acc o = o.reverse ++ acc
  | [], acc, _ => by simp [order_Visual.turnA]
  | x :: t, acc, h => by
    rw [order_Visual.turnA, if_pos (h x (by simp)), turnA_all q t (x :: acc) (fun p hp => h p (by simp [hp]))]
    simp
theorem vis_same (L : Int) (h1 : 1 ≤ L) (h3 : L ≤ 126) (h2 : L % 2 = 1) (n : Nat) : vis (List.replicate n L) = (order_Visual.iota n).reverse := by
  cases n with
  | zero => rfl
  | succ n =>
    have hb : bnd 0 0 (List.replicate (n + 1) L) = (L, L) := by
      rw [List.replicate_succ, bnd, if_pos ⟨h2, Or.inl rfl⟩]
      have : mx 0 L = L := by unfold mx; split <;> omega
      rw [this]
      exact bnd_same L h1 h2 n
    unfold vis
    rw [hb]
    simp only
    rw [if_pos (by omega), show (L - L + 1).toNat = 1 by omega, order_Visual.down, order_Visual.down, List.length_replicate, turnA_all]
    · simp
    · intro p hp
      have := iota_mem _ _ hp
      have e : rd (List.replicate (n + 1) L) p = L := by
        unfold rd
        rw [List.getD_eq_getElem?_getD, List.getElem?_replicate, if_pos (by omega)]; rfl
      rw [e]; simp
theorem rd_iota (n : Nat) (i : Nat) (h : i < n) : rd (order_Visual.iota n) (i : Int) = (i : Int) := by
  unfold rd order_Visual.iota; simp [h]
theorem rd_iota_rev (n : Nat) (i : Nat) (h : i < n) : rd (order_Visual.iota n).reverse (i : Int) = (n : Int) - 1 - (i : Int) := by
  have hl : (order_Visual.iota n).length = n := iota_length n
  have : rd (order_Visual.iota n).reverse (i : Int) = rd (order_Visual.iota n) ((n - 1 - i : Nat) : Int) := by
    unfold rd
    rw [Int.toNat_natCast, Int.toNat_natCast, List.getD_eq_getElem?_getD, List.getD_eq_getElem?_getD, List.getElem?_reverse (by omega), hl]
  rw [this, rd_iota n _ (by omega)]
  omega
theorem l2_loop (n : Nat) (hn : n ≤ 100) (r : Option Bool) (K : Nat) (hr : ∀ k, K ≤ k → ((naskhlaw29_awake.f k).bind fun t169 => (some t169)) = r) : ∀ (d i k : Nat), i + d = n → d + K < k → naskhlaw29_OrderEven.l2 k (n : Int) (order_Visual.iota n).reverse ((order_Visual.iota n).reverse.length : Int) (i : Int) = r := by
  have hl : (order_Visual.iota n).reverse.length = n := by rw [List.length_reverse, iota_length]
  intro d
  induction d with
  | zero =>
    intro i k hi hk
    obtain ⟨k, rfl⟩ : ∃ m, k = m + 1 := ⟨k - 1, by omega⟩
    rw [naskhlaw29_OrderEven.l2, if_neg (by omega), hr k (by omega)]
  | succ d ih =>
    intro i k hi hk
    obtain ⟨k, rfl⟩ : ∃ m, k = m + 1 := ⟨k - 1, by omega⟩
    have step := ih (i + 1) k (by omega) (by omega)
    simp only [Int.natCast_add, Int.natCast_one] at step
    rw [naskhlaw29_OrderEven.l2, if_pos (by omega), if_pos (by omega), if_pos (by omega), rd_iota_rev n i (by omega), show wrap64 ((n : Int) - 1) = (n : Int) - 1 from w64 (by omega) (by omega), w64 (by omega) (by omega), if_pos rfl, w64 (by omega) (by omega), step]
theorem l1_loop (a1 a2 : Int) (n : Nat) (hn : n ≤ 200) (r : Option Bool) (K : Nat)
    (hr : ∀ k, K ≤ k → ((slices_Repeat_int_int.f (([wrap64 ((wrap64 (2 * (wrap64 (Int.tmod a2 60)))) + 1)] : List Int)) (wrap64 (Int.tmod a1 100))).bind fun t162 => ((order_Visual.f k t162).bind fun t165 => (if (t165.length : Int) = (wrap64 (Int.tmod a1 100)) then (naskhlaw29_OrderEven.l2 k (wrap64 (Int.tmod a1 100)) t165 (t165.length : Int) 0) else (some false)))) = r) :
    ∀ (d i k : Nat), i + d = n → d + K < k → naskhlaw29_OrderEven.l1 k a1 a2 (order_Visual.iota n) ((order_Visual.iota n).length : Int) (i : Int) = r := by
  have hl : (order_Visual.iota n).length = n := iota_length n
  intro d
  induction d with
  | zero =>
    intro i k hi hk
    obtain ⟨k, rfl⟩ : ∃ m, k = m + 1 := ⟨k - 1, by omega⟩
    rw [naskhlaw29_OrderEven.l1, if_neg (by omega), hr k (by omega)]
  | succ d ih =>
    intro i k hi hk
    obtain ⟨k, rfl⟩ : ∃ m, k = m + 1 := ⟨k - 1, by omega⟩
    have step := ih (i + 1) k (by omega) (by omega)
    simp only [Int.natCast_add, Int.natCast_one] at step
    rw [naskhlaw29_OrderEven.l1, if_pos (by omega), if_pos (by omega), if_pos (by omega), rd_iota n i (by omega), if_pos rfl, w64 (by omega) (by omega), step]
def ev (x : Int) : Int := wrap64 (2 * (Int.tmod x 60))
theorem ev_even (x : Int) : clamp (ev x) % 2 = 0 := by
  have h : wrap64 (2 * (Int.tmod x 60)) = 2 * (Int.tmod x 60) := by
    have h1 := Int.tmod_lt_of_pos x (show (0 : Int) < 60 by omega)
    have h2 := Int.lt_tmod_of_pos x (show (0 : Int) < 60 by omega)
    exact w64 (by omega) (by omega)
  unfold clamp ev
  rw [h]
  unfold mn mx
  repeat' split
  all_goals omega
theorem l0_loop (a1 a2 : Int) (l : List Int) (hn : l.length ≤ 200) (r : Option Bool) (K : Nat) (hr : ∀ k, K ≤ k → ((order_Visual.f k (l.map ev)).bind fun t155 => (naskhlaw29_OrderEven.l1 k a1 a2 t155 (t155.length : Int) 0)) = r) :
    ∀ (rest pre : List Int) (k : Nat), l = pre ++ rest → rest.length + K < k → naskhlaw29_OrderEven.l0 k a1 a2 (pre.map ev) l (l.length : Int) (pre.length : Int) = r := by
  intro rest
  induction rest with
  | nil =>
    intro pre k hl hk
    obtain ⟨k, rfl⟩ : ∃ m, k = m + 1 := ⟨k - 1, by omega⟩
    rw [naskhlaw29_OrderEven.l0, if_neg (by rw [hl]; simp)]
    have : pre.map ev = l.map ev := by rw [hl]; simp
    rw [this]
    exact hr k (by simp at hk; omega)
  | cons v rest ih =>
    intro pre k hl hk
    obtain ⟨k, rfl⟩ : ∃ m, k = m + 1 := ⟨k - 1, by omega⟩
    rw [List.length_cons] at hk
    have hlen : l.length = pre.length + rest.length + 1 := by rw [hl]; simp; omega
    have hrd : rd l (pre.length : Int) = v := by rw [hl]; exact rd_at pre v rest
    have step := ih (pre ++ [v]) k (by rw [hl]; simp) (by omega)
    simp only [List.length_append, List.length_cons, List.length_nil, Nat.zero_add, Int.natCast_add, Int.natCast_one, List.map_append, List.map_cons, List.map_nil] at step
    rw [naskhlaw29_OrderEven.l0, if_pos (by omega), if_pos (by omega), if_pos (by omega), hrd, if_pos (by rw [List.length_map]; omega), show wrap64 ((pre.length : Int) + 1) = (pre.length : Int) + 1 from w64 (by omega) (by omega)]
    exact step
theorem wf8 {x : Int} (h : (Lit.int .u8 x).wf = true) : 0 ≤ x ∧ x ≤ 255 := by
  simpa [Lit.wf, IntKind.min, IntKind.max, IntKind.signed, IntKind.bits] using h
theorem OrderEven_ok : naskhlaw29_OrderEven.Pure := by
  intro l0 a1 a2 h1 h2 h3 h4 h5
  refine ⟨2001, ?_⟩
  have haw : ∀ k, 40 ≤ k → naskhlaw29_awake.f k = some true := fun k hk => at_rounds (fun k => naskhlaw29_awake.mono k) hk awake_ok
  unfold naskhlaw29_OrderEven.f
  by_cases hn : (l0.length : Int) > 200
  · rw [if_pos hn, haw _ (by omega)]; rfl
  · rw [if_neg hn]
    have w1 := wf8 h4
    have w2 := wf8 h5
    have e1 : wrap64 (Int.tmod a1 100) = ((a1 % 100).toNat : Int) := by
      rw [Int.tmod_eq_emod_of_nonneg w1.1, w64 (by omega) (by omega)]; omega
    have e2 : wrap64 ((wrap64 (2 * (wrap64 (Int.tmod a2 60)))) + 1) = 2 * (a2 % 60) + 1 := by
      rw [Int.tmod_eq_emod_of_nonneg w2.1, show wrap64 (a2 % 60) = a2 % 60 from w64 (by omega) (by omega), show wrap64 (2 * (a2 % 60)) = 2 * (a2 % 60) from w64 (by omega) (by omega), w64 (by omega) (by omega)]
    obtain ⟨m, hm⟩ : ∃ m : Nat, (a1 % 100).toNat = m := ⟨_, rfl⟩
    obtain ⟨L, hL⟩ : ∃ L : Int, 2 * (a2 % 60) + 1 = L := ⟨_, rfl⟩
    rw [hm] at e1
    rw [hL] at e2
    have hm2 : m ≤ 99 := by omega
    have hL2 : 1 ≤ L ∧ L ≤ 126 ∧ L % 2 = 1 := by omega
    have hcl : clamp L = L := by unfold clamp mn mx; repeat' split <;> omega
    have third : ∀ k, 300 ≤ k → ((slices_Repeat_int_int.f (([wrap64 ((wrap64 (2 * (wrap64 (Int.tmod a2 60)))) + 1)] : List Int)) (wrap64 (Int.tmod a1 100))).bind fun t162 => ((order_Visual.f k t162).bind fun t165 => (if (t165.length : Int) = (wrap64 (Int.tmod a1 100)) then (naskhlaw29_OrderEven.l2 k (wrap64 (Int.tmod a1 100)) t165 (t165.length : Int) 0) else (some false)))) = some true := by
      intro k hk
      rw [e1, e2]
      unfold slices_Repeat_int_int.f
      rw [if_pos (show ([L] : List Int).length = 1 from rfl), if_pos (by omega), if_pos (by omega), Option.bind_some, Int.toNat_natCast, show rd [L] 0 = L from rfl, visual_f _ k (by rw [List.length_replicate]; omega) (by rw [List.length_replicate]; omega), Option.bind_some, List.map_replicate, hcl, vis_same L hL2.1 hL2.2.1 hL2.2.2,
        if_pos (by rw [List.length_reverse, iota_length])]
      exact l2_loop m (by omega) (some true) 100 (fun k hk => by rw [haw k (by omega)]; rfl) m 0 k (by omega) (by omega)
    have second : ∀ k, 600 ≤ k → ((order_Visual.f k (l0.map ev)).bind fun t155 => (naskhlaw29_OrderEven.l1 k a1 a2 t155 (t155.length : Int) 0)) = some true := by
      intro k hk
      have hlm : (l0.map ev).length = l0.length := List.length_map _
      rw [visual_f _ k (by omega) (by omega), Option.bind_some, vis_even _ (lev_map _) (fun x hx => by
        simp only [List.mem_map] at hx
        obtain ⟨y, ⟨z, _, rfl⟩, rfl⟩ := hx
        exact ev_even z), List.length_map, hlm]
      exact l1_loop a1 a2 l0.length (by omega) (some true) 300 third l0.length 0 k (by omega) (by omega)
    have := l0_loop a1 a2 l0 (by omega) (some true) 600 second l0 [] 2001 rfl (by omega)
    exact this
end Go.Proofs.Ytimkacnkmoofdaa.PureOrderEvenAux
namespace Go.Proofs.Ytimkacnkmoofdaa.Pure
open Go.Proofs.Ytimkacnkmoofdaa.POrderEven
theorem OrderEven : naskhlaw29_OrderEven.Pure := PureOrderEvenAux.OrderEven_ok
end Go.Proofs.Ytimkacnkmoofdaa.Pure
