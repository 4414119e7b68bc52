/- Each cell shows the place that is seen there, and each place is shown once. No condition. -/
import Derived.Test.YtmkgihmchkphaaaPCaretHitsx
namespace Go.Proofs.Ytmkgihmchkphaaa.PureCaretHitsAux
open Go.RowKit Go.Proofs.Ytmkgihmchkphaaa.PCaretHits Go.Proofs.YtmkgihmchkphaaaW.PrintWords Go.Proofs.YtmkgihmchkphaaaW.PrintLast

set_option linter.unusedSimpArgs false
set_option linter.unusedVariables false
theorem w64 {x : Int} (h0 : -9223372036854775808 ≤ x) (h1 : x ≤ 9223372036854775807) : wrap64 x = x := by unfold wrap64; omega
theorem rd_at (pre : List Int) (x : Int) (rest : List Int) : rd (pre ++ x :: rest) (pre.length : Int) = x := by simp [rd]
theorem rd_nat (l : List Int) (i : Nat) (h : i < l.length) : rd l (i : Int) = l[i] := by simp [rd, h]
theorem wf64 {x : Int} (h : (Lit.int .i64 x).wf = true) : -9223372036854775808 ≤ x ∧ x ≤ 9223372036854775807 := by
  simpa [Lit.wf, IntKind.min, IntKind.max, IntKind.signed, IntKind.bits] using h
theorem bsome {P : Prop} [Decidable P] {b : Bool} (h : b = true ↔ P) : some b = some (decide P) := by
  congr 1; rw [Bool.eq_iff_iff]; simpa using h
theorem u16w {x : Int} (h0 : 0 ≤ x) (h1 : x ≤ 65535) : IntKind.u16.wrap x = x := by
  simp [IntKind.wrap, IntKind.min, IntKind.max, IntKind.signed, IntKind.bits]; omega

theorem wraps_i64' (n : Int) (h₀ : 0 ≤ n) (h₁ : n < 2 ^ 62) : IntKind.i64.wrap n = n := by rw [IntKind.wrap_i64]; omega
theorem and_mask (x : Int) (i : Nat) (hi : i ≤ 62) (h0 : 0 ≤ x) (h1 : x < 2 ^ 62) : Go.bits .and .i64 x (2 ^ i - 1) = x % 2 ^ i := bits_mask .i64 62 (by decide) wraps_i64' i hi x h0 h1

theorem i64_and1 (n : Int) : Go.bits .and .i64 n 1 = n % 2 := by
  have h1 : (BitVec.ofInt 64 1).toNat = 2 ^ 1 - 1 := by decide
  have key : (BitVec.ofInt 64 n &&& BitVec.ofInt 64 1).toNat = (n % ((2 ^ 64 : Nat) : Int)).toNat % 2 ^ 1 := by
    rw [BitVec.toNat_and, BitVec.toNat_ofInt, h1, Nat.and_two_pow_sub_one_eq_mod]
  show IntKind.i64.wrap ((BitVec.ofInt 64 n &&& BitVec.ofInt 64 1).toNat : Nat) = n % 2
  rw [key, IntKind.wrap_i64]
  omega

def clamp (n : Int) : Int := mn (mx n 0) 126
theorem clamp_ge (n : Int) : 0 ≤ clamp n := by unfold clamp mn mx; repeat' split <;> omega
theorem clamp_le (n : Int) : clamp n ≤ 126 := by unfold clamp mn mx; repeat' split <;> omega
theorem set_at (a : List Int) (y v : Int) (b : List Int) : (a ++ y :: b).set a.length v = a ++ v :: b := by simp
/-- Levels that are not below 0, and not too great. -/
def Lev (l : List Int) : Prop := ∀ x ∈ l, 0 ≤ x ∧ x ≤ 126
theorem lev_map (l : List Int) : Lev (l.map clamp) := by
  intro x hx
  obtain ⟨y, _, rfl⟩ := List.mem_map.mp hx
  exact ⟨clamp_ge y, clamp_le y⟩
theorem and1 (x : Int) (h : 0 ≤ x) (h1 : x ≤ 126) : Go.bits .and .i64 x 1 = x % 2 := by
  have := and_mask x 1 (by decide) h (by omega)
  simpa using this
/-- The greatest level, and the least odd one, of what is behind. -/
def bnd : Int → Int → List Int → Int × Int
  | m, o, [] => (m, o)
  | m, o, x :: rest => bnd (mx m x) (if x % 2 = 1 ∧ (o = 0 ∨ x < o) then x else o) rest
/-- The greatest level. -/
def most : Int → List Int → Int
  | m, [] => m
  | m, x :: rest => most (mx m x) rest
theorem bnd_most : ∀ (l : List Int) (m o : Int), (bnd m o l).1 = most m l
  | [], _, _ => rfl
  | x :: rest, m, o => by rw [bnd, most, bnd_most rest]
theorem most_le : ∀ (l : List Int) (m : Int), Lev l → m ≤ 126 → most m l ≤ 126
  | [], _, _, h => h
  | x :: rest, m, hL, h => by
    rw [most]
    refine most_le rest _ (fun y hy => hL y (by simp [hy])) ?_
    have := hL x (by simp)
    unfold mx; split <;> omega
theorem most_ge : ∀ (l : List Int) (m : Int), m ≤ most m l
  | [], _ => by rw [most]; exact Int.le_refl _
  | x :: rest, m => by
    rw [most]
    have h1 := most_ge rest (mx m x)
    have h2 : m ≤ mx m x := by unfold mx; split <;> omega
    omega
/-- What the second of 'bnd' says. -/
theorem bnd_odd : ∀ (l : List Int) (m o : Int), Lev l → 0 ≤ o → ∀ level : Int, ((0 < (bnd m o l).2 ∧ (bnd m o l).2 ≤ level) ↔ ((0 < o ∧ o ≤ level) ∨ ∃ x ∈ l, x % 2 = 1 ∧ x ≤ level)) ∧ 0 ≤ (bnd m o l).2
  | [], m, o, _, ho, level => by simp [bnd, ho]
  | x :: rest, m, o, hL, ho, level => by
    rw [bnd]
    have hx := hL x (by simp)
    have hL' : Lev rest := fun y hy => hL y (by simp [hy])
    by_cases h : x % 2 = 1 ∧ (o = 0 ∨ x < o)
    · rw [if_pos h]
      obtain ⟨h1, h2⟩ := bnd_odd rest (mx m x) x hL' hx.1 level
      refine ⟨h1.trans ⟨?_, ?_⟩, h2⟩
      · rintro (h3 | ⟨y, hy, h3⟩)
        · exact Or.inr ⟨x, by simp, h.1, h3.2⟩
        · exact Or.inr ⟨y, by simp [hy], h3⟩
      · rintro (h3 | ⟨y, hy, h3⟩)
        · left; have := h.2; omega
        · rcases List.mem_cons.mp hy with rfl | hy
          · left; omega
          · exact Or.inr ⟨y, hy, h3⟩
    · rw [if_neg h]
      obtain ⟨h1, h2⟩ := bnd_odd rest (mx m x) o hL' ho level
      refine ⟨h1.trans ⟨?_, ?_⟩, h2⟩
      · rintro (h3 | ⟨y, hy, h3⟩)
        · exact Or.inl h3
        · exact Or.inr ⟨y, by simp [hy], h3⟩
      · rintro (h3 | ⟨y, hy, h3⟩)
        · exact Or.inl h3
        · rcases List.mem_cons.mp hy with e | hy
          · subst e
            left
            have h4 := h3.1
            have h5 := h3.2
            have h6 : ¬ (o = 0 ∨ y < o) := fun hh => h ⟨h4, hh⟩
            clear h1 h h3 h4
            omega
          · exact Or.inr ⟨y, hy, h3⟩
/-- The order in which places are seen. -/
def vis (lv : List Int) : List Int := if 0 < (bnd 0 0 lv).2 then order_Visual.down lv ((bnd 0 0 lv).1 - (bnd 0 0 lv).2 + 1).toNat (bnd 0 0 lv).1 (order_Visual.iota lv.length) else order_Visual.iota lv.length

theorem held_loop : ∀ (rest pre : List Int) (k : Nat), rest.length < k → pre.length + rest.length ≤ 9223372036854775806 →
    order_held.l0 k (pre.map clamp ++ List.replicate rest.length 0) (pre ++ rest) ((pre ++ rest).length : Int) (pre.length : Int) = some ((pre ++ rest).map clamp) := by
  intro rest
  induction rest with
  | nil =>
    intro pre k hk hm
    obtain ⟨k, rfl⟩ : ∃ m, k = m + 1 := ⟨k - 1, by omega⟩
    rw [order_held.l0, if_neg (by simp)]
    simp
  | cons x rest ih =>
    intro pre k hk hm
    obtain ⟨k, rfl⟩ : ∃ m, k = m + 1 := ⟨k - 1, by omega⟩
    rw [List.length_cons] at hk hm
    have hlen : (pre ++ x :: rest).length = pre.length + rest.length + 1 := by simp; omega
    have step := ih (pre ++ [x]) k (by omega) (by simp; omega)
    simp only [List.append_assoc, List.cons_append, List.nil_append, List.length_append, List.length_cons, List.length_nil, Nat.zero_add, Int.natCast_add, Int.natCast_one, List.map_append, List.map_cons, List.map_nil] at step
    have hm0 : (pre.map clamp).length = pre.length := List.length_map _
    rw [order_held.l0, if_pos (by omega), if_pos (by omega), if_pos (by omega), if_pos (by simp; omega), rd_at, Int.toNat_natCast, List.length_cons, List.replicate_succ]
    have hs := set_at (pre.map clamp) 0 (mn (mx x 0) 126) (List.replicate rest.length 0)
    rw [hm0] at hs
    rw [hs, w64 (by omega) (by omega)]
    have e : ((pre ++ x :: rest).length : Int) = (pre.length : Int) + ((rest.length : Int) + 1) := by omega
    rw [e]
    simp only [List.map_append, List.map_cons]
    exact step
theorem held_f (l : List Int) (k : Nat) (hk : l.length < k) (hl : l.length ≤ 35184372088832) : order_held.f k l = some (l.map clamp) := by
  unfold order_held.f
  rw [if_pos (by omega), if_pos (by omega), Int.toNat_natCast]
  have := held_loop l [] k hk (by simp; omega)
  simpa using this
theorem bounds_loop : ∀ (rest pre : List Int) (m o : Int) (k : Nat), Lev rest → rest.length < k → pre.length + rest.length ≤ 9223372036854775806 →
    order_bounds.l0 k m o (pre ++ rest) ((pre ++ rest).length : Int) (pre.length : Int) = some (bnd m o rest) := by
  intro rest
  induction rest with
  | nil =>
    intro pre m o k hL hk hm
    obtain ⟨k, rfl⟩ : ∃ m, k = m + 1 := ⟨k - 1, by omega⟩
    rw [order_bounds.l0, if_neg (by simp)]
    rfl
  | cons x rest ih =>
    intro pre m o k hL hk hm
    obtain ⟨k, rfl⟩ : ∃ m, k = m + 1 := ⟨k - 1, by omega⟩
    rw [List.length_cons] at hk hm
    have hlen : (pre ++ x :: rest).length = pre.length + rest.length + 1 := by simp; omega
    have hx := hL x (by simp)
    have step := fun m o => ih (pre ++ [x]) m o k (fun y hy => hL y (by simp [hy])) (by omega) (by simp; omega)
    simp only [List.append_assoc, List.cons_append, List.nil_append, List.length_append, List.length_cons, List.length_nil, Nat.zero_add, Int.natCast_add, Int.natCast_one] at step
    have e : ((pre ++ x :: rest).length : Int) = (pre.length : Int) + ((rest.length : Int) + 1) := by omega
    rw [order_bounds.l0, if_pos (by omega), if_pos (by omega), if_pos (by omega), rd_at, and1 x hx.1 hx.2, w64 (by omega) (by omega), e, bnd]
    by_cases h1 : x % 2 = 1
    · rw [if_pos h1]
      by_cases h2 : o = 0
      · rw [if_pos h2, if_pos ⟨h1, Or.inl h2⟩, step]
      · rw [if_neg h2]
        by_cases h3 : x < o
        · rw [if_pos h3, if_pos ⟨h1, Or.inr h3⟩, step]
        · rw [if_neg h3, if_neg (by omega), step]
    · rw [if_neg h1, if_neg (by omega), step]
theorem bounds_f (l : List Int) (k : Nat) (hL : Lev l) (hk : l.length < k) (hl : l.length ≤ 35184372088832) : order_bounds.f k l = some (bnd 0 0 l) := by
  unfold order_bounds.f
  have := bounds_loop l [] 0 0 k hL hk (by simp; omega)
  simpa using this
theorem visual_f (l : List Int) (k : Nat) (hk : l.length < k) (hl : l.length ≤ 35184372088832) : order_Visual.f k l = some (vis (l.map clamp)) := by
  unfold order_Visual.f
  rw [held_f l k hk hl, Option.bind_some, if_pos ⟨by simp, hl⟩, bounds_f _ k (lev_map l) (by simpa using hk) (by simpa using hl), Option.bind_some, if_pos (by rw [bnd_most]; have := most_le (l.map clamp) 0 (lev_map l) (by omega); omega)]
  simp only [vis, List.length_map]


/-- Where each number stands; none: the numbers are no order. -/
def plc : List Int → Nat → List Int → Option (List Int)
  | out, _, [] => some out
  | out, i, v :: rest => if 0 ≤ v ∧ v < (out.length : Int) ∧ rd out v < 0 then plc (out.set v.toNat (i : Int)) (i + 1) rest else none
theorem places_loop (l : List Int) (hm : l.length ≤ 35184372088832) : ∀ (rest pre out : List Int) (k : Nat), l = pre ++ rest → rest.length < k → out.length = l.length →
    order_places.l0 k l out l (l.length : Int) (pre.length : Int) = some (match plc out pre.length rest with | some o => (o, true) | none => ([], false)) := by
  intro rest
  induction rest with
  | nil =>
    intro pre out k hl hk ho
    obtain ⟨k, rfl⟩ : ∃ m, k = m + 1 := ⟨k - 1, by omega⟩
    rw [order_places.l0, if_neg (by rw [hl]; simp)]
    rfl
  | cons v rest ih =>
    intro pre out k hl hk ho
    obtain ⟨k, rfl⟩ : ∃ m, k = m + 1 := ⟨k - 1, by omega⟩
    rw [List.length_cons] at hk
    have hlen : l.length = pre.length + rest.length + 1 := by rw [hl]; simp; omega
    have hrd : rd l (pre.length : Int) = v := by rw [hl]; exact rd_at pre v rest
    have step := fun out ho => ih (pre ++ [v]) out k (by rw [hl]; simp) (by omega) ho
    simp only [List.length_append, List.length_cons, List.length_nil, Nat.zero_add, Int.natCast_add, Int.natCast_one] at step
    rw [order_places.l0, if_pos (by omega), if_pos (by omega), if_pos (by omega), hrd, plc]
    by_cases h1 : v < 0
    · rw [if_pos h1, if_neg (by omega)]
    · rw [if_neg h1]
      by_cases h2 : (l.length : Int) ≤ v
      · rw [if_pos h2, if_neg (by omega)]
      · rw [if_neg h2, if_pos (by omega), if_pos (by omega)]
        by_cases h3 : 0 ≤ rd out v
        · rw [if_pos h3, if_neg (by omega)]
        · rw [if_neg h3, if_pos (by omega), w64 (by omega) (by omega), step _ (by rw [List.length_set]; exact ho)]
theorem places_f (l : List Int) (k : Nat) (hk : l.length < k) (hl : l.length ≤ 35184372088832) :
    order_places.f k l = some (match plc (List.replicate l.length (-1)) 0 l with | some o => (o, true) | none => ([], false)) := by
  unfold order_places.f slices_Repeat_int_int.f
  rw [if_pos (show ([(-1)] : List Int).length = 1 from rfl), if_pos (by omega), if_pos (by omega), Option.bind_some]
  have := places_loop l hl l [] (List.replicate l.length (-1)) k rfl hk (by simp)
  simpa [rd] using this
theorem rd_set (out : List Int) (v w : Int) (x : Int) (hv : 0 ≤ v ∧ v < (out.length : Int)) (hw : 0 ≤ w) : rd (out.set v.toNat x) w = if w = v then x else rd out w := by
  unfold rd
  simp only [List.getD_eq_getElem?_getD, List.getElem?_set]
  by_cases h : w = v
  · subst h; rw [if_pos rfl, if_pos rfl, if_pos (by omega)]; rfl
  · rw [if_neg h, if_neg (by omega)]
/-- Numbers that are all unlike, and all in, are an order. -/
theorem plc_some : ∀ (rest pre out : List Int), (pre ++ rest).Nodup → (∀ v ∈ rest, 0 ≤ v ∧ v < (out.length : Int)) → (∀ v, 0 ≤ v → (0 ≤ rd out v → v ∈ pre ∨ (out.length : Int) ≤ v)) → ∃ o, plc out pre.length rest = some o
  | [], pre, out, _, _, _ => ⟨out, rfl⟩
  | v :: rest, pre, out, hd, hb, hs => by
    have hv := hb v (by simp)
    have hnp : v ∉ pre := by
      intro h
      rw [List.nodup_append] at hd
      exact hd.2.2 v h v (by simp) rfl
    have hneg : rd out v < 0 := by
      apply Classical.byContradiction
      intro h
      rcases hs v hv.1 (by omega) with h1 | h1
      · exact hnp h1
      · omega
    rw [plc, if_pos ⟨hv.1, hv.2, hneg⟩]
    have h := plc_some rest (pre ++ [v]) (out.set v.toNat (pre.length : Int)) (by simpa using hd) (by rw [List.length_set]; exact fun w hw => hb w (by simp [hw])) (fun w hw h => by
      rw [List.length_set]
      rw [rd_set out v w _ hv hw] at h
      by_cases e : w = v
      · left; simp [e]
      · rw [if_neg e] at h
        rcases hs w hw h with h1 | h1
        · left; simp [h1]
        · right; exact h1)
    simpa using h

theorem iota_mem (n : Nat) (p : Int) (h : p ∈ order_Visual.iota n) : 0 ≤ p ∧ p < (n : Int) := by
  simp only [order_Visual.iota, List.mem_map, List.mem_range] at h
  obtain ⟨i, hi, rfl⟩ := h
  omega
theorem iota_length (n : Nat) : (order_Visual.iota n).length = n := by simp [order_Visual.iota]
theorem turnA_length (q : Int → Bool) : ∀ (rest acc : List Int), (order_Visual.turnA q acc rest).length = acc.length + rest.length
  | [], acc => by simp [order_Visual.turnA]
  | x :: t, acc => by
    rw [order_Visual.turnA]
    split
    · rw [turnA_length q t (x :: acc)]; simp; omega
    · rw [List.length_append, List.length_cons, turnA_length q t []]; simp
theorem turnA_perm (q : Int → Bool) : ∀ (rest acc : List Int), (order_Visual.turnA q acc rest).Perm (acc ++ rest)
  | [], acc => by simp [order_Visual.turnA]
  | x :: t, acc => by
    rw [order_Visual.turnA]
    split
    · refine (turnA_perm q t (x :: acc)).trans ?_
      exact List.perm_middle.symm
    · refine List.Perm.append_left acc ?_
      exact List.Perm.cons x (by simpa using turnA_perm q t [])
theorem down_perm (lv : List Int) : ∀ (k : Nat) (level : Int) (o : List Int), (order_Visual.down lv k level o).Perm o
  | 0, _, o => List.Perm.refl o
  | k + 1, level, o => by
    rw [order_Visual.down]
    exact (down_perm lv k _ _).trans (by simpa using turnA_perm (fun p => decide (level ≤ rd lv p)) o [])
theorem vis_perm (lv : List Int) : (vis lv).Perm (order_Visual.iota lv.length) := by
  unfold vis
  split
  · exact down_perm _ _ _ _
  · exact List.Perm.refl _
theorem iota_nodup (n : Nat) : (order_Visual.iota n).Nodup := by
  unfold order_Visual.iota
  rw [List.nodup_iff_pairwise_ne, List.pairwise_map]
  exact (List.nodup_range (n := n)).imp (fun h e => h (by omega))
theorem vis_length (lv : List Int) : (vis lv).length = lv.length := by rw [(vis_perm lv).length_eq, iota_length]
theorem vis_mem (lv : List Int) (p : Int) (h : p ∈ vis lv) : 0 ≤ p ∧ p < (lv.length : Int) := iota_mem _ _ ((vis_perm lv).mem_iff.mp h)
theorem vis_nodup (lv : List Int) : (vis lv).Nodup := (vis_perm lv).nodup_iff.mpr (iota_nodup _)

theorem permutes_f (l : List Int) (k : Nat) (hk : l.length < k) (hl : l.length ≤ 35184372088832) : order_Permutes.f k l = some (plc (List.replicate l.length (-1)) 0 l).isSome := by
  unfold order_Permutes.f
  rw [places_f l k hk hl, Option.bind_some]
  cases plc (List.replicate l.length (-1)) 0 l <;> rfl

theorem refheld_loop : ∀ (rest pre : List Int) (k : Nat), rest.length < k → pre.length + rest.length ≤ 17592186044416 →
    naskhref29_Held.l0 k (pre ++ rest) (pre.map clamp) (pre.length : Int) = some ((pre ++ rest).map clamp) := by
  intro rest
  induction rest with
  | nil =>
    intro pre k hk hm
    obtain ⟨k, rfl⟩ : ∃ m, k = m + 1 := ⟨k - 1, by omega⟩
    rw [naskhref29_Held.l0, if_neg (by simp)]
    simp
  | cons x rest ih =>
    intro pre k hk hm
    obtain ⟨k, rfl⟩ : ∃ m, k = m + 1 := ⟨k - 1, by omega⟩
    rw [List.length_cons] at hk hm
    have hlen : (pre ++ x :: rest).length = pre.length + rest.length + 1 := by simp; omega
    have step := ih (pre ++ [x]) k (by omega) (by simp; omega)
    simp only [List.append_assoc, List.cons_append, List.nil_append, List.length_append, List.length_cons, List.length_nil, Nat.zero_add, Int.natCast_add, Int.natCast_one, List.map_append, List.map_cons, List.map_nil] at step
    rw [naskhref29_Held.l0, if_pos (by omega), if_pos (by omega), if_pos (by simp; omega), rd_at, w64 (by omega) (by omega)]
    simp only [List.map_append, List.map_cons]
    exact step
theorem refheld_f (l : List Int) (k : Nat) (hk : l.length < k) (hl : l.length ≤ 17592186044416) : naskhref29_Held.f k l = some (l.map clamp) := by
  unfold naskhref29_Held.f
  have := refheld_loop l [] k hk (by simp; omega)
  simpa using this
/-- Whether an odd level is at most a level. -/
def oddLe (lv : List Int) (level : Int) : Bool := lv.any fun x => decide (x % 2 = 1 ∧ x ≤ level)
theorem refodd_loop (lv : List Int) (level : Int) : ∀ (rest pre : List Int) (k : Nat), lv = pre ++ rest → Lev rest → rest.length < k → pre.length + rest.length ≤ 9223372036854775806 →
    naskhref29_odd.l0 k lv level (pre.length : Int) = some (rest.any fun x => decide (x % 2 = 1 ∧ x ≤ level)) := by
  intro rest
  induction rest with
  | nil =>
    intro pre k hl hL hk hm
    obtain ⟨k, rfl⟩ : ∃ m, k = m + 1 := ⟨k - 1, by omega⟩
    rw [naskhref29_odd.l0, if_neg (by rw [hl]; simp)]
    rfl
  | cons x rest ih =>
    intro pre k hl hL hk hm
    obtain ⟨k, rfl⟩ : ∃ m, k = m + 1 := ⟨k - 1, by omega⟩
    rw [List.length_cons] at hk hm
    have hlen : lv.length = pre.length + rest.length + 1 := by rw [hl]; simp; omega
    have hx := hL x (by simp)
    have hrd : rd lv (pre.length : Int) = x := by rw [hl]; exact rd_at pre x rest
    have step := ih (pre ++ [x]) k (by rw [hl]; simp) (fun y hy => hL y (by simp [hy])) (by omega) (by simp; omega)
    simp only [List.length_append, List.length_cons, List.length_nil, Nat.zero_add, Int.natCast_add, Int.natCast_one] at step
    rw [naskhref29_odd.l0, if_pos (by omega), if_pos (by omega), hrd, Int.tmod_eq_emod_of_nonneg hx.1, w64 (by omega) (by omega), List.any_cons]
    by_cases h1 : x % 2 = 1
    · rw [if_pos h1]
      by_cases h2 : x ≤ level
      · rw [if_pos h2]; simp [h1, h2]
      · rw [if_neg h2, step]; simp [h2]
    · rw [if_neg h1, step]; simp [h1]
theorem refodd_f (lv : List Int) (level : Int) (k : Nat) (hL : Lev lv) (hk : lv.length < k) (hl : lv.length ≤ 35184372088832) : naskhref29_odd.f k lv level = some (oddLe lv level) := by
  unfold naskhref29_odd.f
  have := refodd_loop lv level lv [] k rfl hL hk (by simp; omega)
  exact this
theorem refplaces_loop (n : Nat) (hn : n ≤ 17592186044416) : ∀ (d i k : Nat), i + d = n → d < k → naskhref29_places.l0 k (n : Int) (order_Visual.iota i) (i : Int) = some (order_Visual.iota n) := by
  intro d
  induction d with
  | zero =>
    intro i k hi hk
    obtain ⟨k, rfl⟩ : ∃ m, k = m + 1 := ⟨k - 1, by omega⟩
    rw [naskhref29_places.l0, if_neg (by omega)]
    rw [show i = n by omega]
  | succ d ih =>
    intro i k hi hk
    obtain ⟨k, rfl⟩ : ∃ m, k = m + 1 := ⟨k - 1, by omega⟩
    have hl : (order_Visual.iota i).length = i := by simp [order_Visual.iota]
    have e : order_Visual.iota i ++ [(i : Int)] = order_Visual.iota (i + 1) := by simp [order_Visual.iota, List.range_succ]
    have step := ih (i + 1) k (by omega) (by omega)
    rw [naskhref29_places.l0, if_pos (by omega), if_pos (by omega), e, w64 (by omega) (by omega), ← step]
    rfl
theorem refplaces_f (n : Nat) (k : Nat) (hk : n < k) (hn : n ≤ 17592186044416) : naskhref29_places.f k (n : Int) = some (order_Visual.iota n) := by
  unfold naskhref29_places.f
  have := refplaces_loop n hn n 0 k (by omega) hk
  simpa [order_Visual.iota] using this
theorem set_set (a m b : List Int) (x y x' y' : Int) (i j : Nat) (hi : i = a.length) (hj : j = a.length + 1 + m.length) : ((a ++ x :: (m ++ y :: b)).set i x').set j y' = a ++ x' :: (m ++ y' :: b) := by
  subst hi hj
  rw [set_at]
  have : a ++ x' :: (m ++ y :: b) = (a ++ x' :: m) ++ y :: b := by simp
  rw [this]
  have h2 := set_at (a ++ x' :: m) y y' b
  rw [show (a ++ x' :: m).length = a.length + 1 + m.length by simp; omega] at h2
  rw [h2]
  simp
theorem list_ends : ∀ (m : List Int), 2 ≤ m.length → ∃ x m' y, m = x :: (m' ++ [y]) := by
  intro m hm
  match m, hm with
  | x :: t, hm =>
    have ht : t ≠ [] := by intro h; subst h; simp at hm
    exact ⟨x, t.dropLast, t.getLast ht, by rw [List.dropLast_concat_getLast ht]⟩
theorem refturn_loop : ∀ (n : Nat) (a m b : List Int) (k : Nat), m.length ≤ n → n < k → a.length + m.length + b.length ≤ 9223372036854775806 →
    naskhref29_turn.l0 k (a ++ (m ++ b)) (a.length : Int) ((a.length + m.length : Nat) : Int) = some (a ++ (m.reverse ++ b)) := by
  intro n
  induction n with
  | zero =>
    intro a m b k hm hk hM
    obtain ⟨k, rfl⟩ : ∃ m, k = m + 1 := ⟨k - 1, by omega⟩
    obtain rfl : m = [] := List.eq_nil_of_length_eq_zero (by omega)
    rw [naskhref29_turn.l0, w64 (by simp) (by simp), if_neg (by simp)]
    simp
  | succ n ih =>
    intro a m b k hm hk hM
    obtain ⟨k, rfl⟩ : ∃ m, k = m + 1 := ⟨k - 1, by omega⟩
    rw [naskhref29_turn.l0, w64 (by omega) (by omega)]
    by_cases h2 : 2 ≤ m.length
    · obtain ⟨x, m', y, rfl⟩ := list_ends m h2
      simp only [List.length_cons, List.length_append, List.length_nil] at hm hM h2
      have e1 : a ++ ((x :: (m' ++ [y])) ++ b) = a ++ x :: (m' ++ y :: b) := by simp
      have hl : (a ++ x :: (m' ++ y :: b)).length = a.length + m'.length + b.length + 2 := by simp; omega
      have e2 : ((a.length + (x :: (m' ++ [y])).length : Nat) : Int) = (a.length : Int) + (m'.length : Int) + 2 := by simp; omega
      have r1 : rd (a ++ x :: (m' ++ y :: b)) (a.length : Int) = x := rd_at a x _
      have r2 : rd (a ++ x :: (m' ++ y :: b)) ((a.length : Int) + (m'.length : Int) + 1) = y := by
        have h3 : a ++ x :: (m' ++ y :: b) = (a ++ x :: m') ++ y :: b := by simp
        have h4 : (a.length : Int) + (m'.length : Int) + 1 = ((a ++ x :: m').length : Int) := by simp; omega
        rw [h3, h4]
        exact rd_at _ y b
      rw [e1, e2, if_pos (by omega), w64 (by omega) (by omega), show (a.length : Int) + (m'.length : Int) + 2 - 1 = (a.length : Int) + (m'.length : Int) + 1 by omega,
        if_pos (by omega), if_pos (by omega), if_pos (by omega), if_pos (by omega), r1, r2, w64 (by omega) (by omega),
        set_set a m' b x y y x _ _ (by simp) (by omega)]
      have step := ih (a ++ [y]) m' (x :: b) k (by omega) (by omega) (by simp; omega)
      have f1 : (a ++ [y]) ++ (m' ++ x :: b) = a ++ y :: (m' ++ x :: b) := by simp
      have f2 : ((a ++ [y]).length : Int) = (a.length : Int) + 1 := by simp
      have f3 : (((a ++ [y]).length + m'.length : Nat) : Int) = (a.length : Int) + (m'.length : Int) + 1 := by simp; omega
      rw [f1, f2, f3] at step
      rw [step]
      simp
    · rw [if_neg (by omega)]
      match m, h2 with
      | [], _ => rfl
      | [x], _ => rfl
      | x :: y :: t, h2 => simp at h2
theorem refturn_f (l : List Int) (lo r : Nat) (k : Nat) (h : lo + r ≤ l.length) (hk : r < k) (hl : l.length ≤ 35184372088832) :
    naskhref29_turn.f k l (lo : Int) ((lo + r : Nat) : Int) = some (l.take lo ++ (((l.drop lo).take r).reverse ++ l.drop (lo + r))) := by
  unfold naskhref29_turn.f
  have e : l = l.take lo ++ ((l.drop lo).take r ++ l.drop (lo + r)) := by
    rw [← List.drop_drop, List.take_append_drop, List.take_append_drop]
  have h1 : (l.take lo).length = lo := by rw [List.length_take]; omega
  have h2 : ((l.drop lo).take r).length = r := by rw [List.length_take, List.length_drop]; omega
  have h3 : (l.drop (lo + r)).length ≤ l.length := by rw [List.length_drop]; omega
  have := refturn_loop r (l.take lo) ((l.drop lo).take r) (l.drop (lo + r)) k (by omega) hk (by omega)
  rw [h1, h2, ← e] at this
  exact this

theorem l3_loop (lv cur : List Int) (level : Int) (lo : Nat) (r : Option (List Int)) (K : Nat) (hp : ∀ p ∈ cur, 0 ≤ p ∧ p < (lv.length : Int)) (hn : cur.length ≤ 900) : ∀ (d h k : Nat), h + d = cur.length → K + d < k →
    (∀ k, K ≤ k → naskhref29_Visual.j4 k lv cur level (lo : Int) ((h + order_Visual.run lv level (cur.drop h) : Nat) : Int) = r) → naskhref29_Visual.l3 k lv cur level (lo : Int) (h : Int) = r := by
  intro d
  induction d with
  | zero =>
    intro h k hh hk hj
    obtain ⟨k, rfl⟩ : ∃ m, k = m + 1 := ⟨k - 1, by omega⟩
    rw [naskhref29_Visual.l3, if_neg (by omega)]
    have := hj k (by omega)
    rwa [List.drop_eq_nil_of_le (by omega), order_Visual.run_nil] at this
  | succ d ih =>
    intro h k hh hk hj
    obtain ⟨k, rfl⟩ : ∃ m, k = m + 1 := ⟨k - 1, by omega⟩
    have hlt : h < cur.length := by omega
    have hg : rd cur (h : Int) = cur.getD h 0 := by simp [rd]
    have hb := hp (rd cur (h : Int)) (by rw [rd_nat cur h hlt]; exact List.getElem_mem hlt)
    rw [naskhref29_Visual.l3, if_pos (by omega), if_pos (by omega), if_pos hb.1, if_pos hb.2]
    by_cases hl : level ≤ rd lv (rd cur (h : Int))
    · rw [if_pos hl, w64 (by omega) (by omega)]
      have e := order_Visual.run_yes lv level cur h hlt (by rw [← hg]; exact hl)
      refine ih (h + 1) k (by omega) (by omega) (fun k hk => ?_)
      have := hj k hk
      rw [e] at this
      rw [← this]
      congr 1
      omega
    · rw [if_neg hl]
      have e := order_Visual.run_no lv level cur h hlt (by rw [← hg]; exact hl)
      have := hj k (by omega)
      rw [e] at this
      exact this
/-- All that are turned at one level, or none. -/
def step (lv : List Int) (level : Int) (o : List Int) : List Int := if oddLe lv level = true then order_Visual.turnA (fun p => decide (level ≤ rd lv p)) [] o else o
set_option maxRecDepth 20000 in
theorem l2_loop (lv : List Int) (level : Int) (res : List Int) (r : Option (List Int)) (K n : Nat) (hL : Lev lv) (hlv : lv.length ≤ 900) (hK : 1000 ≤ K) (hn : n ≤ 900) (hlev : 1 ≤ level ∧ level ≤ 126)
    (hr : ∀ k, K ≤ k → naskhref29_Visual.l1 k lv res (level - 1) = r) : ∀ (d lo : Nat) (cur : List Int) (k : Nat), cur.length = n → lo ≤ n → n ≤ lo + d → (∀ p ∈ cur, 0 ≤ p ∧ p < (lv.length : Int)) → K + 1000 * (d + 1) ≤ k →
    (if oddLe lv level = true then cur.take lo ++ order_Visual.turnA (fun p => decide (level ≤ rd lv p)) [] (cur.drop lo) = res else cur = res) → naskhref29_Visual.l2 k lv cur level (lo : Int) = r := by
  intro d
  induction d with
  | zero =>
    intro lo cur k hc hlo hd hp hk hres
    obtain ⟨k, rfl⟩ : ∃ m, k = m + 1 := ⟨k - 1, by omega⟩
    rw [naskhref29_Visual.l2, if_neg (by omega), w64 (by omega) (by omega)]
    have : cur = res := by
      split at hres
      · rw [List.take_of_length_le (by omega), List.drop_eq_nil_of_le (by omega)] at hres
        simpa [order_Visual.turnA] using hres
      · exact hres
    rw [this]
    exact hr k (by omega)
  | succ d ih =>
    intro lo cur k hc hlo hd hp hk hres
    obtain ⟨k, rfl⟩ : ∃ m, k = m + 1 := ⟨k - 1, by omega⟩
    by_cases hlt : lo < n
    · rw [naskhref29_Visual.l2, if_pos (by omega)]
      obtain ⟨rr, hrr⟩ : ∃ rr, order_Visual.run lv level (cur.drop lo) = rr := ⟨_, rfl⟩
      have hle : rr ≤ n - lo := by have := order_Visual.run_le lv level (cur.drop lo); rw [hrr, List.length_drop] at this; omega
      obtain ⟨nx, hnx⟩ : ∃ nx, nx = if lo + rr < lo + 1 then lo + 1 else lo + rr := ⟨_, rfl⟩
      refine l3_loop lv cur level lo r (K + 1000 * (d + 1) + 1) hp (by omega) (cur.length - lo) lo k (by omega) (by omega) (fun k hk => ?_)
      obtain ⟨k, rfl⟩ : ∃ m, k = m + 1 := ⟨k - 1, by omega⟩
      rw [hrr, naskhref29_Visual.j4, refodd_f lv level k hL (by omega) (by omega), Option.bind_some]
      have hnext : wrap64 ((mx (lo : Int) (wrap64 (((lo + rr : Nat) : Int) - 1))) + 1) = (nx : Int) := by
        rw [show wrap64 (((lo + rr : Nat) : Int) - 1) = ((lo + rr : Nat) : Int) - 1 from w64 (by omega) (by omega)]
        have : mx (lo : Int) (((lo + rr : Nat) : Int) - 1) + 1 = (nx : Int) := by
          rw [hnx]; unfold mx
          repeat' split
          all_goals omega
        rw [this]
        have hnx2 : nx ≤ n := by rw [hnx]; split <;> omega
        exact w64 (by omega) (by omega)
      have hnx1 : nx ≤ n ∧ lo < nx := by rw [hnx]; split <;> omega
      by_cases ho : oddLe lv level = true
      · rw [if_pos ho, refturn_f cur lo rr k (by omega) (by omega) (by omega), Option.bind_some, hnext]
        obtain ⟨new, hnew⟩ : ∃ new, new = cur.take lo ++ (((cur.drop lo).take rr).reverse ++ cur.drop (lo + rr)) := ⟨_, rfl⟩
        obtain ⟨a1, a2, a3, a4, a5⟩ := order_Visual.turn_round lv level cur lo (by omega) rr hrr nx hnx new hnew
        rw [← hnew]
        rw [if_pos ho] at hres
        exact ih nx new k (by omega) (by omega) (by omega) (fun p h => hp p (a5 p h)) (by omega) (by rw [if_pos ho, a4, hres])
      · rw [if_neg ho, hnext]
        rw [if_neg ho] at hres
        exact ih nx cur k hc (by omega) (by omega) hp (by omega) (by rw [if_neg ho]; exact hres)
    · rw [naskhref29_Visual.l2, if_neg (by omega), w64 (by omega) (by omega)]
      have : cur = res := by
        split at hres
        · rw [List.take_of_length_le (by omega), List.drop_eq_nil_of_le (by omega)] at hres
          simpa [order_Visual.turnA] using hres
        · exact hres
      rw [this]
      exact hr k (by omega)
theorem step_length (lv : List Int) (level : Int) (o : List Int) : (step lv level o).length = o.length := by
  unfold step; split
  · rw [turnA_length]; simp
  · rfl
theorem step_mem (lv : List Int) (level : Int) (o : List Int) (p : Int) : p ∈ step lv level o ↔ p ∈ o := by
  unfold step; split
  · rw [order_Visual.turnA_mem]; simp
  · exact Iff.rfl
def rdown (lv : List Int) : Nat → List Int → List Int
  | 0, o => o
  | j + 1, o => rdown lv j (step lv ((j + 1 : Nat) : Int) o)
set_option maxRecDepth 20000 in
theorem l1_loop (lv : List Int) (hL : Lev lv) (hlv : lv.length ≤ 900) : ∀ (j : Nat) (cur : List Int) (k : Nat), j ≤ 126 → cur.length ≤ 900 → (∀ p ∈ cur, 0 ≤ p ∧ p < (lv.length : Int)) → 1000 + 1000000 * (j + 1) ≤ k →
    naskhref29_Visual.l1 k lv cur (j : Int) = some (rdown lv j cur) := by
  intro j
  induction j with
  | zero =>
    intro cur k hj hc hp hk
    obtain ⟨k, rfl⟩ : ∃ m, k = m + 1 := ⟨k - 1, by omega⟩
    rw [naskhref29_Visual.l1, if_neg (by omega)]
    rfl
  | succ j ih =>
    intro cur k hj hc hp hk
    obtain ⟨k, rfl⟩ : ∃ m, k = m + 1 := ⟨k - 1, by omega⟩
    rw [naskhref29_Visual.l1, if_pos (by omega), rdown]
    refine l2_loop lv ((j + 1 : Nat) : Int) (step lv ((j + 1 : Nat) : Int) cur) _ (1000 + 1000000 * (j + 1)) cur.length hL hlv (by omega) hc (by omega) (fun k hk => ?_) cur.length 0 cur k rfl (by omega) (by omega) hp (by omega) ?_
    · have e : ((j + 1 : Nat) : Int) - 1 = (j : Int) := by omega
      rw [e]
      exact ih _ k (by omega) (by rw [step_length]; exact hc) (fun p h => hp p ((step_mem _ _ _ _).mp h)) hk
    · unfold step
      split
      · simp
      · rfl
theorem l0_loop (lv x3 : List Int) (r : Option (List Int)) (K : Nat) : ∀ (rest pre : List Int) (m : Int) (k : Nat), lv = pre ++ rest → rest.length + K < k → lv.length ≤ 900 → (∀ k, K ≤ k → naskhref29_Visual.l1 k lv x3 (most m rest) = r) →
    naskhref29_Visual.l0 k lv x3 m (pre.length : Int) = r := by
  intro rest
  induction rest with
  | nil =>
    intro pre m k hl hk hn hr
    obtain ⟨k, rfl⟩ : ∃ m, k = m + 1 := ⟨k - 1, by omega⟩
    rw [naskhref29_Visual.l0, if_neg (by rw [hl]; simp)]
    exact hr k (by simp at hk; omega)
  | cons x rest ih =>
    intro pre m k hl hk hn hr
    obtain ⟨k, rfl⟩ : ∃ m, k = m + 1 := ⟨k - 1, by omega⟩
    rw [List.length_cons] at hk
    have hlen : lv.length = pre.length + rest.length + 1 := by rw [hl]; simp; omega
    have hrd : rd lv (pre.length : Int) = x := by rw [hl]; exact rd_at pre x rest
    have step := ih (pre ++ [x]) (mx m x) k (by rw [hl]; simp) (by omega) hn hr
    simp only [List.length_append, List.length_cons, List.length_nil, Nat.zero_add, Int.natCast_add, Int.natCast_one] at step
    rw [naskhref29_Visual.l0, if_pos (by omega), if_pos (by omega), hrd, w64 (by omega) (by omega), step]
theorem odd_iff (lv : List Int) (hL : Lev lv) (level : Int) : oddLe lv level = true ↔ (0 < (bnd 0 0 lv).2 ∧ (bnd 0 0 lv).2 ≤ level) := by
  have h := (bnd_odd lv 0 0 hL (by omega) level).1
  rw [h]
  simp [oddLe]
theorem rdown_none (lv : List Int) (hL : Lev lv) (h : ¬ 0 < (bnd 0 0 lv).2) : ∀ (j : Nat) (o : List Int), rdown lv j o = o
  | 0, _ => rfl
  | j + 1, o => by
    rw [rdown, rdown_none lv hL h j, step, if_neg]
    intro hh
    exact h ((odd_iff lv hL _).mp hh).1
theorem rdown_down (lv : List Int) (hL : Lev lv) (h : 0 < (bnd 0 0 lv).2) : ∀ (j : Nat) (o : List Int), rdown lv j o = order_Visual.down lv ((j : Int) - (bnd 0 0 lv).2 + 1).toNat (j : Int) o
  | 0, o => by
    have e : (((0 : Nat) : Int) - (bnd 0 0 lv).2 + 1).toNat = 0 := by omega
    rw [e]; rfl
  | j + 1, o => by
    rw [rdown, rdown_down lv hL h j, step]
    by_cases hj : (bnd 0 0 lv).2 ≤ ((j + 1 : Nat) : Int)
    · rw [if_pos ((odd_iff lv hL _).mpr ⟨h, hj⟩)]
      have e : (((j + 1 : Nat) : Int) - (bnd 0 0 lv).2 + 1).toNat = ((j : Int) - (bnd 0 0 lv).2 + 1).toNat + 1 := by omega
      rw [e, order_Visual.down]
      have e2 : ((j + 1 : Nat) : Int) - 1 = (j : Int) := by omega
      rw [e2]
    · rw [if_neg (fun hh => hj ((odd_iff lv hL _).mp hh).2)]
      have e : (((j + 1 : Nat) : Int) - (bnd 0 0 lv).2 + 1).toNat = 0 := by omega
      have e2 : ((j : Int) - (bnd 0 0 lv).2 + 1).toNat = 0 := by omega
      rw [e, e2]; rfl
theorem most_nonneg (l : List Int) : 0 ≤ most 0 l := most_ge l 0
set_option maxRecDepth 20000 in
theorem refvisual_f (l : List Int) (k : Nat) (hk : 200000000 ≤ k) (hl : l.length ≤ 900) : naskhref29_Visual.f k l = some (vis (l.map clamp)) := by
  unfold naskhref29_Visual.f
  have hL := lev_map l
  have hlm : (l.map clamp).length = l.length := List.length_map _
  rw [refheld_f l k (by omega) (by omega), Option.bind_some, refplaces_f _ k (by omega) (by omega), Option.bind_some]
  obtain ⟨j, hj⟩ : ∃ j : Nat, most 0 (l.map clamp) = (j : Int) := ⟨(most 0 (l.map clamp)).toNat, by have := most_nonneg (l.map clamp); omega⟩
  have hj2 : j ≤ 126 := by have := most_le (l.map clamp) 0 hL (by omega); omega
  have h := l0_loop (l.map clamp) (order_Visual.iota (l.map clamp).length) (some (rdown (l.map clamp) j (order_Visual.iota (l.map clamp).length))) 150000000 (l.map clamp) [] 0 k rfl (by omega) (by omega) (fun k hk => by
    rw [hj]
    have hk2 : 1000 + 1000000 * (j + 1) ≤ k := Nat.le_trans (Nat.le_trans (Nat.add_le_add_left (Nat.mul_le_mul_left 1000000 (Nat.succ_le_succ hj2)) 1000) (by decide : 1000 + 1000000 * (126 + 1) ≤ 150000000)) hk
    exact l1_loop _ hL (by omega) j _ k hj2 (by rw [iota_length]; omega) (fun p h => iota_mem _ p h) hk2)
  have h2 : naskhref29_Visual.l0 k (l.map clamp) (order_Visual.iota (l.map clamp).length) 0 0 = some (rdown (l.map clamp) j (order_Visual.iota (l.map clamp).length)) := h
  rw [h2]
  congr 1
  unfold vis
  split
  · rename_i ho
    rw [rdown_down _ hL ho, bnd_most, hj]
  · rename_i ho
    exact rdown_none _ hL ho j _


theorem vis_plc (lv : List Int) : ∃ o, plc (List.replicate lv.length (-1)) 0 (vis lv) = some o := by
  have := plc_some (vis lv) [] (List.replicate lv.length (-1)) (by simpa using vis_nodup lv) (fun v hv => by rw [List.length_replicate]; exact vis_mem lv v hv) (fun v h0 h1 => by
    right
    rw [List.length_replicate]
    apply Classical.byContradiction
    intro h
    have : rd (List.replicate lv.length (-1)) v = -1 := by
      unfold rd
      rw [List.getD_eq_getElem?_getD, List.getElem?_replicate, if_pos (by omega)]; rfl
    omega)
  simpa using this

theorem plc_range : ∀ (rest out : List Int) (i : Nat) (o : List Int), plc out i rest = some o → (∀ v ∈ rest, 0 ≤ v ∧ v < (out.length : Int)) ∧ o.length = out.length
  | [], out, i, o, h => by rw [plc] at h; obtain rfl := Option.some.inj h; exact ⟨fun v hv => by simp at hv, rfl⟩
  | v :: rest, out, i, o, h => by
    rw [plc] at h
    by_cases hc : 0 ≤ v ∧ v < (out.length : Int) ∧ rd out v < 0
    · rw [if_pos hc] at h
      obtain ⟨h1, h2⟩ := plc_range rest _ _ o h
      rw [List.length_set] at h1 h2
      refine ⟨fun w hw => ?_, h2⟩
      rcases List.mem_cons.mp hw with e | hw
      · subst e; exact ⟨hc.1, hc.2.1⟩
      · exact h1 w hw
    · rw [if_neg hc] at h; cases h
/-- How many places are not filled. -/
def neg (out : List Int) : Nat := out.countP fun x => decide (x < 0)
theorem neg_set (out : List Int) (v : Int) (x : Int) (hv : 0 ≤ v ∧ v < (out.length : Int)) (hn : rd out v < 0) (hx : 0 ≤ x) : neg (out.set v.toNat x) + 1 = neg out := by
  have hlt : v.toNat < out.length := by omega
  have hr : rd out v = out[v.toNat] := by unfold rd; simp [hlt]
  rw [hr] at hn
  have e : out = out.take v.toNat ++ out[v.toNat] :: out.drop (v.toNat + 1) := by rw [← List.drop_eq_getElem_cons hlt, List.take_append_drop]
  unfold neg
  rw [List.set_eq_take_append_cons_drop, if_pos hlt]
  conv => rhs; rw [e]
  rw [List.countP_append, List.countP_append, List.countP_cons, List.countP_cons, if_neg (by simp; omega), if_pos (by simp; omega)]
  omega
theorem plc_neg : ∀ (rest out : List Int) (i : Nat) (o : List Int), plc out i rest = some o → neg o + rest.length = neg out
  | [], out, i, o, h => by rw [plc] at h; obtain rfl := Option.some.inj h; rfl
  | v :: rest, out, i, o, h => by
    rw [plc] at h
    by_cases hc : 0 ≤ v ∧ v < (out.length : Int) ∧ rd out v < 0
    · rw [if_pos hc] at h
      have h1 := plc_neg rest _ _ o h
      have h2 := neg_set out v (i : Int) ⟨hc.1, hc.2.1⟩ hc.2.2 (by omega)
      rw [List.length_cons]
      omega
    · rw [if_neg hc] at h; cases h
theorem neg_zero (o : List Int) (h : neg o = 0) (j : Int) (h0 : 0 ≤ j ∧ j < (o.length : Int)) : 0 ≤ rd o j := by
  unfold neg at h
  rw [List.countP_eq_zero] at h
  have hlt : j.toNat < o.length := by omega
  have hr : rd o j = o[j.toNat] := by unfold rd; simp [hlt]
  rw [hr]
  have := h o[j.toNat] (List.getElem_mem hlt)
  simpa using this
theorem plc_full (l o : List Int) (h : plc (List.replicate l.length (-1)) 0 l = some o) : o.length = l.length ∧ ∀ j : Int, 0 ≤ j → j < (l.length : Int) → 0 ≤ rd o j := by
  obtain ⟨_, h2⟩ := plc_range _ _ _ _ h
  rw [List.length_replicate] at h2
  refine ⟨h2, fun j h0 h1 => neg_zero o ?_ j ⟨h0, by omega⟩⟩
  have h3 := plc_neg _ _ _ _ h
  have h4 : neg (List.replicate l.length (-1)) = l.length := by unfold neg; simp [List.countP_replicate]
  omega
theorem rdB_set (s : List Bool) (v w : Int) (hv : 0 ≤ v ∧ v < (s.length : Int)) (hw : 0 ≤ w) : rdOf false (s.set v.toNat true) w = if w = v then true else rdOf false s w := by
  unfold rdOf
  simp only [List.getD_eq_getElem?_getD, List.getElem?_set]
  by_cases h : w = v
  · subst h; rw [if_pos rfl, if_pos rfl, if_pos (by omega)]; rfl
  · rw [if_neg h, if_neg (by omega)]
theorem rd_ext (a b : List Int) (hl : a.length = b.length) (h : ∀ v : Int, 0 ≤ v → v < (a.length : Int) → rd a v = rd b v) : a = b := by
  apply List.ext_getElem hl
  intro i h1 h2
  have := h (i : Int) (by omega) (by omega)
  rwa [rd_nat a i h1, rd_nat b i h2] at this
theorem inverse_f (l : List Int) (k : Nat) (hk : l.length < k) (hl : l.length ≤ 35184372088832) :
    order_Inverse.f k l = some (match plc (List.replicate l.length (-1)) 0 l with | some o => (o, 0) | none => ([], 13)) := by
  unfold order_Inverse.f
  rw [places_f l k hk hl, Option.bind_some]
  cases plc (List.replicate l.length (-1)) 0 l with
  | none => rw [if_neg (by simp)]
  | some o => rw [if_pos (by simp)]

theorem plc_spec : ∀ (rest out : List Int) (i : Nat) (o : List Int), plc out i rest = some o → (∀ (j : Nat), j < rest.length → rd o (rd rest (j : Int)) = ((i + j : Nat) : Int)) ∧ (∀ w : Int, 0 ≤ w → w ∉ rest → rd o w = rd out w) ∧ (∀ w ∈ rest, rd out w < 0)
  | [], out, i, o, h => by
    rw [plc] at h; obtain rfl := Option.some.inj h
    exact ⟨fun j hj => by simp at hj, fun w _ _ => rfl, fun w hw => by simp at hw⟩
  | v :: rest, out, i, o, h => by
    rw [plc] at h
    by_cases hc : 0 ≤ v ∧ v < (out.length : Int) ∧ rd out v < 0
    · rw [if_pos hc] at h
      obtain ⟨h1, h2, h3⟩ := plc_spec rest _ _ o h
      obtain ⟨hr, _⟩ := plc_range rest _ _ o h
      have hv : 0 ≤ v ∧ v < (out.length : Int) := ⟨hc.1, hc.2.1⟩
      have hnv : v ∉ rest := by
        intro hm
        have := h3 v hm
        rw [rd_set out v v _ hv hv.1, if_pos rfl] at this
        omega
      refine ⟨fun j hj => ?_, fun w h0 hw => ?_, fun w hw => ?_⟩
      · match j with
        | 0 =>
          have e : rd (v :: rest) ((0 : Nat) : Int) = v := rfl
          rw [e, h2 v hv.1 hnv, rd_set out v v _ hv hv.1, if_pos rfl]
          omega
        | j + 1 =>
          have e : rd (v :: rest) ((j + 1 : Nat) : Int) = rd rest (j : Int) := by unfold rd; simp
          rw [e, h1 j (by simpa using hj)]
          omega
      · simp only [List.mem_cons, not_or] at hw
        rw [h2 w h0 hw.2, rd_set out v w _ hv h0, if_neg hw.1]
      · rcases List.mem_cons.mp hw with e | hw
        · rw [e]; exact hc.2.2
        · have h4 := h3 w hw
          have h0 := (hr w hw).1
          rw [rd_set out v w _ hv h0] at h4
          by_cases e : w = v
          · rw [e]; exact hc.2.2
          · rwa [if_neg e] at h4
    · rw [if_neg hc] at h; cases h
theorem rd_mem (l : List Int) (v : Int) (h : v ∈ l) : ∃ j : Nat, j < l.length ∧ rd l (j : Int) = v := by
  obtain ⟨j, hj, e⟩ := List.getElem_of_mem h
  exact ⟨j, hj, by rw [rd_nat l j hj]; exact e⟩
theorem inv_facts (o a : List Int) (h : plc (List.replicate o.length (-1)) 0 o = some a) : a.length = o.length ∧ (∀ p : Nat, p < o.length → rd a (rd o (p : Int)) = (p : Int)) ∧ (∀ v : Int, 0 ≤ v → v < (o.length : Int) → 0 ≤ rd a v ∧ rd a v < (o.length : Int) ∧ rd o (rd a v) = v) := by
  obtain ⟨h1, h2, _⟩ := plc_spec _ _ _ _ h
  obtain ⟨h4, h5⟩ := plc_full o a h
  refine ⟨h4, fun p hp => by rw [h1 p hp]; omega, fun v h0 hv => ?_⟩
  have hm : v ∈ o := by
    apply Classical.byContradiction
    intro hn
    have := h2 v h0 hn
    have e2 : rd (List.replicate o.length (-1)) v = -1 := by
      unfold rd; rw [List.getD_eq_getElem?_getD, List.getElem?_replicate, if_pos (by omega)]; rfl
    have := h5 v h0 hv
    omega
  obtain ⟨j, hj, e⟩ := rd_mem o v hm
  have := h1 j hj
  rw [e] at this
  rw [this]
  refine ⟨by omega, by omega, ?_⟩
  rw [show ((0 + j : Nat) : Int) = (j : Int) by omega]
  exact e
theorem nodup_of_rd (a : List Int) (h : ∀ v w : Int, 0 ≤ v → v < (a.length : Int) → 0 ≤ w → w < (a.length : Int) → rd a v = rd a w → v = w) : a.Nodup := by
  rw [List.nodup_iff_pairwise_ne, List.pairwise_iff_getElem]
  intro i j hi hj hij e
  have := h (i : Int) (j : Int) (by omega) (by omega) (by omega) (by omega) (by rw [rd_nat a i hi, rd_nat a j hj]; exact e)
  omega
theorem inv_inv (o a : List Int) (h : plc (List.replicate o.length (-1)) 0 o = some a) : plc (List.replicate o.length (-1)) 0 a = some o := by
  obtain ⟨h1, h2, h3⟩ := inv_facts o a h
  have hnd : a.Nodup := nodup_of_rd a (fun v w a0 a1 b0 b1 e => by
    have e1 := (h3 v a0 (by omega)).2.2
    have e2 := (h3 w b0 (by omega)).2.2
    rw [← e1, e, e2])
  have hneg : ∀ v : Int, 0 ≤ v → v < (o.length : Int) → rd (List.replicate o.length (-1)) v = -1 := fun v h0 h1 => by
    unfold rd; rw [List.getD_eq_getElem?_getD, List.getElem?_replicate, if_pos (by omega)]; rfl
  obtain ⟨b, hb⟩ := plc_some a [] (List.replicate o.length (-1)) (by simpa using hnd) (fun v hv => by
    rw [List.length_replicate]
    obtain ⟨j, hj, e⟩ := rd_mem a v hv
    have := h3 (j : Int) (by omega) (by omega)
    rw [e] at this
    exact ⟨this.1, this.2.1⟩) (fun v h0 h4 => by
    right
    rw [List.length_replicate]
    apply Classical.byContradiction
    intro hn
    have := hneg v h0 (by omega)
    omega)
  have hb' : plc (List.replicate a.length (-1)) 0 a = some b := by rw [h1]; simpa using hb
  obtain ⟨g1, g2, _⟩ := inv_facts a b hb'
  have : b = o := rd_ext b o (by omega) (fun p h0 h4 => by
    have k1 := h2 p.toNat (by omega)
    rw [show ((p.toNat : Nat) : Int) = p by omega] at k1
    have k2 : 0 ≤ rd o p ∧ rd o p < (o.length : Int) := by
      obtain ⟨r1, _⟩ := plc_range _ _ _ _ h
      have := r1 (rd o p) (by
        have hp : p.toNat < o.length := by omega
        have : rd o p = o[p.toNat] := by unfold rd; simp [hp]
        rw [this]; exact List.getElem_mem hp)
      rwa [List.length_replicate] at this
    have k3 := g2 (rd o p).toNat (by omega)
    rw [show (((rd o p).toNat : Nat) : Int) = rd o p by omega, k1] at k3
    exact k3)
  subst this
  simpa using hb

def odd (x : Int) : Bool := decide (x % 2 = 1)
theorem codd_f (x : Int) : caret_odd.f x = some (odd x) := by
  unfold caret_odd.f odd
  rw [i64_and1]
  congr 1
def frn (l a : List Int) (p : Int) : Int := if odd (rd l p) = true then rd a p + 1 else rd a p
def bak (l a : List Int) (p : Int) : Int := if odd (rd l p) = true then rd a p else rd a p + 1
def ahd (l a : List Int) (b p : Int) : Int := if p < (l.length : Int) then frn l a p else if odd b = true then 0 else (l.length : Int)
def bhd (l a : List Int) (b p : Int) : Int := if 0 < p then bak l a (p - 1) else if odd b = true then (l.length : Int) else 0
def trn (l : List Int) (b p : Int) : Bool := decide (0 ≤ p ∧ p < (l.length : Int)) && (odd (rd l p) != odd b)
def stp1 (l a : List Int) (b p : Int) : Int := if trn l b p = true ∧ trn l b (p - 1) = false then bhd l a b p else ahd l a b p
def stp2 (l a : List Int) (b p : Int) : Int := if trn l b p = true ∧ trn l b (p - 1) = false then ahd l a b p else bhd l a b p
/-- What an inverse of so many places is. -/
def Inv (l a : List Int) : Prop := a.length = l.length ∧ l.length ≤ 100 ∧ ∀ v : Int, 0 ≤ v → v < (l.length : Int) → 0 ≤ rd a v ∧ rd a v < (l.length : Int)
theorem there_f (l a : List Int) (b p : Int) : caret_line_there.f l b a p = some (decide (0 ≤ p ∧ p < (l.length : Int)), b) := by
  unfold caret_line_there.f
  by_cases h : p ≥ 0
  · rw [if_pos h]
    by_cases h2 : p < (l.length : Int)
    · rw [decide_eq_true h2, decide_eq_true ⟨h, h2⟩]
    · rw [decide_eq_false h2, decide_eq_false (fun e => h2 e.2)]
  · rw [if_neg h, decide_eq_false (fun e => h e.1)]
theorem front_f (l a : List Int) (b p : Int) (hI : Inv l a) (h0 : 0 ≤ p) (h1 : p < (l.length : Int)) : caret_line_front.f l b a p = some (frn l a p, b) := by
  obtain ⟨e1, e2, e3⟩ := hI
  have h2 := e3 p h0 h1
  unfold caret_line_front.f frn
  rw [if_pos h0, if_pos h1, codd_f, Option.bind_some]
  split
  · rw [if_pos (by omega), w64 (by omega) (by omega)]
  · rw [if_pos (by omega)]
theorem back_f (l a : List Int) (b p : Int) (hI : Inv l a) (h0 : 0 ≤ p) (h1 : p < (l.length : Int)) : caret_line_back.f l b a p = some (bak l a p, b) := by
  obtain ⟨e1, e2, e3⟩ := hI
  have h2 := e3 p h0 h1
  unfold caret_line_back.f bak
  rw [if_pos h0, if_pos h1, codd_f, Option.bind_some]
  split
  · rw [if_pos (by omega)]
  · rw [if_pos (by omega), w64 (by omega) (by omega)]
theorem outer_f (l a : List Int) (b : Int) (last : Bool) : caret_line_outer.f l b a last = some (if (last != odd b) = true then (l.length : Int) else 0, b) := by
  unfold caret_line_outer.f
  rw [codd_f, Option.bind_some]
  split <;> rfl
theorem ahead_f (l a : List Int) (b p : Int) (hI : Inv l a) (h0 : 0 ≤ p) : caret_line_ahead.f l b a p = some (ahd l a b p, b) := by
  unfold caret_line_ahead.f ahd
  rw [there_f, Option.bind_some]
  by_cases h1 : p < (l.length : Int)
  · rw [if_pos h1, if_pos (decide_eq_true ⟨h0, h1⟩), front_f l a b p hI h0 h1]; rfl
  · rw [if_neg h1, if_neg (by simp [h1]), outer_f]
    cases odd b <;> simp
theorem behind_f (l a : List Int) (b p : Int) (hI : Inv l a) (h0 : 0 ≤ p) (h1 : p ≤ (l.length : Int)) : caret_line_behind.f l b a p = some (bhd l a b p, b) := by
  have e2 := hI.2.1
  unfold caret_line_behind.f bhd
  rw [w64 (by omega) (by omega), there_f, Option.bind_some]
  by_cases h2 : 0 < p
  · rw [if_pos h2, if_pos (decide_eq_true ⟨by omega, by omega⟩), back_f l a b (p - 1) hI (by omega) (by omega)]; rfl
  · rw [if_neg h2, if_neg (by simp; omega), outer_f]
    cases odd b <;> simp
theorem turns_f (l a : List Int) (b p : Int) : caret_line_turns.f l b a p = some (trn l b p, b) := by
  unfold caret_line_turns.f trn
  rw [i64_and1, i64_and1]
  by_cases h : 0 ≤ p ∧ p < (l.length : Int)
  · rw [if_pos h, decide_eq_true h]; rfl
  · rw [if_neg h, decide_eq_false h]; rfl
theorem stop_f (l a : List Int) (b p : Int) (hI : Inv l a) (h0 : 0 ≤ p) (h1 : p ≤ (l.length : Int)) : caret_line_stop.f l b a p = some (stp1 l a b p, stp2 l a b p, b) := by
  have e2 := hI.2.1
  unfold caret_line_stop.f stp1 stp2
  rw [ahead_f l a b p hI h0, Option.bind_some, behind_f l a b p hI h0 h1, Option.bind_some, turns_f, Option.bind_some, w64 (by omega) (by omega), turns_f]
  cases trn l b p with
  | true => cases trn l b (p - 1) <;> simp
  | false => simp
def stopsL (l a : List Int) (b : Int) (m : Nat) : List S51 := (List.range m).map (fun (i : Nat) => ⟨stp1 l a b (i : Int), stp2 l a b (i : Int)⟩)
theorem stops_loop (l a : List Int) (b : Int) (hI : Inv l a) : ∀ (d i k : Nat), i + d = l.length + 1 → d < k → caret_line_stops.l0 k (stopsL l a b i) ((l.length : Int) + 1) (i : Int) l b a = some (stopsL l a b (l.length + 1), b) := by
  have e2 := hI.2.1
  intro d
  induction d with
  | zero =>
    intro i k hi hk
    obtain ⟨k, rfl⟩ : ∃ m, k = m + 1 := ⟨k - 1, by omega⟩
    rw [caret_line_stops.l0, if_neg (by omega), show i = l.length + 1 by omega]
  | succ d ih =>
    intro i k hi hk
    obtain ⟨k, rfl⟩ : ∃ m, k = m + 1 := ⟨k - 1, by omega⟩
    have hl : (stopsL l a b i).length = i := by simp [stopsL]
    have e : stopsL l a b i ++ [⟨stp1 l a b (i : Int), stp2 l a b (i : Int)⟩] = stopsL l a b (i + 1) := by simp [stopsL, List.range_succ]
    have step := ih (i + 1) k (by omega) (by omega)
    rw [caret_line_stops.l0, if_pos (by omega), stop_f l a b _ hI (by omega) (by omega), Option.bind_some, if_pos (by omega), e, w64 (by omega) (by omega)]
    exact step
theorem stopsl_f (l a : List Int) (b : Int) (hI : Inv l a) (k : Nat) (hk : 200 ≤ k) : caret_line_stops.f k l b a = some (stopsL l a b (l.length + 1), b) := by
  have e2 := hI.2.1
  unfold caret_line_stops.f
  rw [w64 (by omega) (by omega), if_pos (by omega), if_pos (by omega)]
  exact stops_loop l a b hI (l.length + 1) 0 k (by omega) (by omega)
theorem inv_of (l a : List Int) (hl : l.length ≤ 100) (ha : plc (List.replicate l.length (-1)) 0 (vis (l.map clamp)) = some a) : Inv l a := by
  have hv : (vis (l.map clamp)).length = l.length := by rw [vis_length, List.length_map]
  rw [← hv] at ha
  obtain ⟨h1, h2, h3⟩ := inv_facts (vis (l.map clamp)) a ha
  rw [hv] at h1 h3
  exact ⟨h1, hl, fun v h0 hv => ⟨(h3 v h0 hv).1, (h3 v h0 hv).2.1⟩⟩
theorem inv_some (l : List Int) : ∃ a, plc (List.replicate l.length (-1)) 0 (vis (l.map clamp)) = some a := by
  obtain ⟨a, ha⟩ := vis_plc (l.map clamp)
  rw [List.length_map] at ha
  exact ⟨a, ha⟩
theorem stops_f (l a : List Int) (b : Int) (hl : l.length ≤ 100) (ha : plc (List.replicate l.length (-1)) 0 (vis (l.map clamp)) = some a) (k : Nat) (hk : 200 ≤ k) : caret_Stops.f k l b = some (stopsL l a b (l.length + 1)) := by
  have hv : (vis (l.map clamp)).length = l.length := by rw [vis_length, List.length_map]
  unfold caret_Stops.f
  rw [visual_f l k (by omega) (by omega), Option.bind_some, inverse_f _ k (by omega) (by omega), hv, ha]
  dsimp only
  rw [Option.bind_some, stopsl_f l a b (inv_of l a hl ha) k hk, Option.bind_some]
theorem stopsL_length (l a : List Int) (b : Int) (m : Nat) : (stopsL l a b m).length = m := by simp [stopsL]
theorem stopsL_rd (l a : List Int) (b : Int) (m i : Nat) (h : i < m) : rd_T51 (stopsL l a b m) (i : Int) = ⟨stp1 l a b (i : Int), stp2 l a b (i : Int)⟩ := by
  simp [rd_T51, stopsL, h]
theorem hit_f (l : List Int) (x : Int) (hl : l.length ≤ 100) (k : Nat) (hk : 200 ≤ k) : caret_Hit.f k l x = some (if 0 ≤ x ∧ x < (l.length : Int) then (rd (vis (l.map clamp)) x, true) else (0, false)) := by
  have hv : (vis (l.map clamp)).length = l.length := by rw [vis_length, List.length_map]
  unfold caret_Hit.f
  by_cases h0 : x < 0
  · rw [if_pos h0, if_neg (by omega)]
  · rw [if_neg h0]
    by_cases h1 : x ≥ (l.length : Int)
    · rw [if_pos h1, if_neg (by omega)]
    · rw [if_neg h1, visual_f l k (by omega) (by omega), Option.bind_some, if_pos (by omega), if_pos (by omega), if_pos ⟨by omega, by omega⟩]
/-- The place to which the caret goes. -/
def mvF (on better : Int → Int → Bool) (P : Nat → Int) (at_ : Nat) : Nat → Nat → Nat → Nat
  | 0, _, best => best
  | d + 1, i, best => mvF on better P at_ d (i + 1) (if on (P i) (P at_) = true then (if best = at_ then i else if better (P i) (P best) = true then i else best) else best)
theorem mvF_le (on better : Int → Int → Bool) (P : Nat → Int) (at_ m : Nat) : ∀ (d i best : Nat), i + d ≤ m → best < m → mvF on better P at_ d i best < m
  | 0, _, _, _, h => h
  | d + 1, i, best, h1, h2 => by
    rw [mvF]
    refine mvF_le on better P at_ m d (i + 1) _ (by omega) ?_
    split
    · split
      · omega
      · split <;> omega
    · exact h2
theorem mvF_on (on better : Int → Int → Bool) (P : Nat → Int) (at_ : Nat) : ∀ (d i best : Nat), (best = at_ ∨ on (P best) (P at_) = true) → (mvF on better P at_ d i best = at_ ∨ on (P (mvF on better P at_ d i best)) (P at_) = true)
  | 0, _, _, h => h
  | d + 1, i, best, h => by
    rw [mvF]
    refine mvF_on on better P at_ d (i + 1) _ ?_
    split
    · rename_i ho
      split
      · exact Or.inr ho
      · split
        · exact Or.inr ho
        · exact h
    · exact h

def onRight (a b : Int) : Bool := decide (a>b)
def betterRight (a b : Int) : Bool := decide (a<b)
theorem moveRight_loop (l a : List Int) (b : Int) (hl : l.length ≤ 100) (at_ : Nat) (ha : at_ < l.length + 1) : ∀ (d i best k : Nat), i + d = l.length + 1 → best < l.length + 1 → d < k →
    caret_moveRight.l0 k (at_ : Int) (stopsL l a b (l.length + 1)) (best : Int) (stopsL l a b (l.length + 1)) ((l.length : Int) + 1) (i : Int) = some ((mvF onRight betterRight (fun i => stp1 l a b (i : Int)) at_ d i best : Nat) : Int) := by
  have hL := stopsL_length l a b (l.length + 1)
  intro d
  induction d with
  | zero =>
    intro i best k hi hb hk
    obtain ⟨k, rfl⟩ : ∃ m, k = m + 1 := ⟨k - 1, by omega⟩
    rw [caret_moveRight.l0, if_neg (by omega)]
    rfl
  | succ d ih =>
    intro i best k hi hb hk
    obtain ⟨k, rfl⟩ : ∃ m, k = m + 1 := ⟨k - 1, by omega⟩
    have r1 := stopsL_rd l a b (l.length + 1) i (by omega)
    have r2 := stopsL_rd l a b (l.length + 1) at_ ha
    have r3 := stopsL_rd l a b (l.length + 1) best hb
    have s1 := ih (i + 1) i k (by omega) (by omega) (by omega)
    have s2 := ih (i + 1) best k (by omega) hb (by omega)
    rw [Int.natCast_add] at s1 s2
    rw [caret_moveRight.l0, if_pos (by omega), if_pos (by omega), if_pos (by omega), if_pos (by omega), if_pos (by omega), r1, r2, r3, mvF, w64 (by omega) (by omega)]
    unfold caret_Right_1.f caret_Right_2.f
    simp only [Option.bind_some]
    unfold onRight betterRight at *
    by_cases h1 : decide (stp1 l a b (i : Int)>stp1 l a b (at_ : Int)) = true
    · rw [if_pos h1, if_pos h1]
      by_cases h2 : best = at_
      · rw [if_pos (by omega), if_pos h2]
        exact s1
      · rw [if_neg (by omega), if_neg h2, if_pos (by omega), if_pos (by omega)]
        by_cases h3 : decide (stp1 l a b (i : Int)<stp1 l a b (best : Int)) = true
        · rw [if_pos h3, if_pos h3]
          exact s1
        · rw [if_neg h3, if_neg h3]
          exact s2
    · rw [if_neg h1, if_neg h1]
      exact s2
theorem moveRight_f (l a : List Int) (b at_ : Int) (hl : l.length ≤ 100) (ha : plc (List.replicate l.length (-1)) 0 (vis (l.map clamp)) = some a) (k : Nat) (hk : 300 ≤ k) :
    caret_Right.f k l b at_ = some (if 0 ≤ at_ ∧ at_ ≤ (l.length : Int) then ((mvF onRight betterRight (fun i => stp1 l a b (i : Int)) at_.toNat (l.length + 1) 0 at_.toNat : Nat) : Int) else at_) := by
  obtain ⟨k, rfl⟩ : ∃ m, k = m + 1 := ⟨k - 1, by omega⟩
  unfold caret_Right.f caret_moveRight.f
  by_cases h0 : at_ < 0
  · rw [if_pos h0, caret_moveRight.j0, if_pos rfl, if_neg (by omega)]
    rfl
  · rw [if_neg h0, caret_moveRight.j0]
    by_cases h1 : at_ > (l.length : Int)
    · rw [if_pos (decide_eq_true h1), if_neg (by omega)]
      rfl
    · rw [if_neg (by simp [h1]), stops_f l a b hl ha k (by omega), Option.bind_some, if_pos ⟨by omega, by omega⟩, stopsL_length]
      have := moveRight_loop l a b hl at_.toNat (by omega) (l.length + 1) 0 at_.toNat k (by omega) (by omega) (by omega)
      rw [show ((at_.toNat : Nat) : Int) = at_ by omega] at this
      rw [show ((l.length + 1 : Nat) : Int) = (l.length : Int) + 1 by omega]
      rw [show (0 : Int) = ((0 : Nat) : Int) from rfl, this]
      rfl

theorem awake_ok : naskhlaw44_awake.f 100 = some true := by decide +kernel
theorem haw (k : Nat) (hk : 100 ≤ k) : naskhlaw44_awake.f k = some true := at_rounds (fun k => naskhlaw44_awake.mono k) hk awake_ok
theorem take_rd (V : List Int) (i : Nat) (h : i < V.length) : V.take i ++ [rd V (i : Int)] = V.take (i + 1) := by
  rw [List.take_add_one]
  simp [rd, h]
theorem law_loop (l V : List Int) (hl : l.length ≤ 60) (hV : vis (l.map clamp) = V) : ∀ (d i k : Nat), i + d = l.length → d + 200000300 < k →
    naskhlaw44_CaretHits.l0 k l (V.take i) (l.length : Int) (i : Int) = some true := by
  have hv : V.length = l.length := by rw [← hV, vis_length, List.length_map]
  intro d
  induction d with
  | zero =>
    intro i k hi hk
    obtain ⟨k, rfl⟩ : ∃ m, k = m + 1 := ⟨k - 1, by omega⟩
    obtain ⟨a, ha⟩ := vis_plc (l.map clamp)
    rw [List.length_map, hV] at ha
    rw [naskhlaw44_CaretHits.l0, if_neg (by omega), hit_f l _ (by omega) k (by omega), if_neg (by omega), Option.bind_some, List.take_of_length_le (by omega), permutes_f V k (by omega) (by omega), hv, ha, Option.bind_some, if_pos (show (some a).isSome = true from rfl), if_neg (by simp), haw k (by omega)]
    rfl
  | succ d ih =>
    intro i k hi hk
    obtain ⟨k, rfl⟩ : ∃ m, k = m + 1 := ⟨k - 1, by omega⟩
    have step := ih (i + 1) k (by omega) (by omega)
    rw [Int.natCast_add, ← take_rd V i (by omega)] at step
    rw [naskhlaw44_CaretHits.l0, if_pos (by omega), hit_f l _ (by omega) k (by omega), if_pos ⟨by omega, by omega⟩, Option.bind_some, if_pos rfl, refvisual_f l k (by omega) (by omega), hV, Option.bind_some, if_pos (by omega), if_pos (by omega), if_pos rfl, if_pos (by rw [List.length_take]; omega), w64 (by omega) (by omega)]
    exact step
theorem CaretHits_ok : naskhlaw44_CaretHits.Pure := by
  intro l h1 h2 h3
  refine ⟨200001000, ?_⟩
  unfold naskhlaw44_CaretHits.f
  by_cases hn : (l.length : Int) > 60
  · rw [if_pos hn, haw 200001000 (by omega)]; rfl
  · rw [if_neg hn]
    exact law_loop l _ (by omega) rfl l.length 0 200001000 (by omega) (by omega)
end Go.Proofs.Ytmkgihmchkphaaa.PureCaretHitsAux
namespace Go.Proofs.Ytmkgihmchkphaaa.Pure
open Go.Proofs.Ytmkgihmchkphaaa.PCaretHits
theorem CaretHits : naskhlaw44_CaretHits.Pure := PureCaretHitsAux.CaretHits_ok
end Go.Proofs.Ytmkgihmchkphaaa.Pure
