/- Where all goes from the left, each place stands ahead of its cell; where all goes from the right, it is the other way round. No condition. -/
import Derived.Test.YtmkgihmchkphaaaPCaretPlainx
namespace Go.Proofs.Ytmkgihmchkphaaa.PureCaretPlainAux
open Go.RowKit Go.Proofs.Ytmkgihmchkphaaa.PCaretPlain Go.Proofs.YtmkgihmchkphaaaW.PrintWords Go.Proofs.YtmkgihmchkphaaaW.PrintLast

set_option linter.unusedSimpArgs false
set_option linter.unusedVariables false
theorem w64 {x : Int} (h0 : -9223372036854775808 ≤ x) (h1 : x ≤ 9223372036854775807) : wrap64 x = x := by unfold wrap64; omega
theorem rd_at (pre : List Int) (x : Int) (rest : List Int) : rd (pre ++ x :: rest) (pre.length : Int) = x := by simp [rd]
theorem rd_nat (l : List Int) (i : Nat) (h : i < l.length) : rd l (i : Int) = l[i] := by simp [rd, h]
theorem wf64 {x : Int} (h : (Lit.int .i64 x).wf = true) : -9223372036854775808 ≤ x ∧ x ≤ 9223372036854775807 := by
  simpa [Lit.wf, IntKind.min, IntKind.max, IntKind.signed, IntKind.bits] using h
theorem bsome {P : Prop} [Decidable P] {b : Bool} (h : b = true ↔ P) : some b = some (decide P) := by
  congr 1; rw [Bool.eq_iff_iff]; simpa using h
theorem u16w {x : Int} (h0 : 0 ≤ x) (h1 : x ≤ 65535) : IntKind.u16.wrap x = x := by
  simp [IntKind.wrap, IntKind.min, IntKind.max, IntKind.signed, IntKind.bits]; omega

theorem wraps_i64' (n : Int) (h₀ : 0 ≤ n) (h₁ : n < 2 ^ 62) : IntKind.i64.wrap n = n := by rw [IntKind.wrap_i64]; omega
theorem and_mask (x : Int) (i : Nat) (hi : i ≤ 62) (h0 : 0 ≤ x) (h1 : x < 2 ^ 62) : Go.bits .and .i64 x (2 ^ i - 1) = x % 2 ^ i := bits_mask .i64 62 (by decide) wraps_i64' i hi x h0 h1

theorem i64_and1 (n : Int) : Go.bits .and .i64 n 1 = n % 2 := by
  have h1 : (BitVec.ofInt 64 1).toNat = 2 ^ 1 - 1 := by decide
  have key : (BitVec.ofInt 64 n &&& BitVec.ofInt 64 1).toNat = (n % ((2 ^ 64 : Nat) : Int)).toNat % 2 ^ 1 := by
    rw [BitVec.toNat_and, BitVec.toNat_ofInt, h1, Nat.and_two_pow_sub_one_eq_mod]
  show IntKind.i64.wrap ((BitVec.ofInt 64 n &&& BitVec.ofInt 64 1).toNat : Nat) = n % 2
  rw [key, IntKind.wrap_i64]
  omega

def clamp (n : Int) : Int := mn (mx n 0) 126
theorem clamp_ge (n : Int) : 0 ≤ clamp n := by unfold clamp mn mx; repeat' split <;> omega
theorem clamp_le (n : Int) : clamp n ≤ 126 := by unfold clamp mn mx; repeat' split <;> omega
theorem set_at (a : List Int) (y v : Int) (b : List Int) : (a ++ y :: b).set a.length v = a ++ v :: b := by simp
/-- Levels that are not below 0, and not too great. -/
def Lev (l : List Int) : Prop := ∀ x ∈ l, 0 ≤ x ∧ x ≤ 126
theorem lev_map (l : List Int) : Lev (l.map clamp) := by
  intro x hx
  obtain ⟨y, _, rfl⟩ := List.mem_map.mp hx
  exact ⟨clamp_ge y, clamp_le y⟩
theorem and1 (x : Int) (h : 0 ≤ x) (h1 : x ≤ 126) : Go.bits .and .i64 x 1 = x % 2 := by
  have := and_mask x 1 (by decide) h (by omega)
  simpa using this
/-- The greatest level, and the least odd one, of what is behind. -/
def bnd : Int → Int → List Int → Int × Int
  | m, o, [] => (m, o)
  | m, o, x :: rest => bnd (mx m x) (if x % 2 = 1 ∧ (o = 0 ∨ x < o) then x else o) rest
/-- The greatest level. -/
def most : Int → List Int → Int
  | m, [] => m
  | m, x :: rest => most (mx m x) rest
theorem bnd_most : ∀ (l : List Int) (m o : Int), (bnd m o l).1 = most m l
  | [], _, _ => rfl
  | x :: rest, m, o => by rw [bnd, most, bnd_most rest]
theorem most_le : ∀ (l : List Int) (m : Int), Lev l → m ≤ 126 → most m l ≤ 126
  | [], _, _, h => h
  | x :: rest, m, hL, h => by
    rw [most]
    refine most_le rest _ (fun y hy => hL y (by simp [hy])) ?_
    have := hL x (by simp)
    unfold mx; split <;> omega
theorem most_ge : ∀ (l : List Int) (m : Int), m ≤ most m l
  | [], _ => by rw [most]; exact Int.le_refl _
  | x :: rest, m => by
    rw [most]
    have h1 := most_ge rest (mx m x)
    have h2 : m ≤ mx m x := by unfold mx; split <;> omega
    omega
/-- What the second of 'bnd' says. -/
theorem bnd_odd : ∀ (l : List Int) (m o : Int), Lev l → 0 ≤ o → ∀ level : Int, ((0 < (bnd m o l).2 ∧ (bnd m o l).2 ≤ level) ↔ ((0 < o ∧ o ≤ level) ∨ ∃ x ∈ l, x % 2 = 1 ∧ x ≤ level)) ∧ 0 ≤ (bnd m o l).2
  | [], m, o, _, ho, level => by simp [bnd, ho]
  | x :: rest, m, o, hL, ho, level => by
    rw [bnd]
    have hx := hL x (by simp)
    have hL' : Lev rest := fun y hy => hL y (by simp [hy])
    by_cases h : x % 2 = 1 ∧ (o = 0 ∨ x < o)
    · rw [if_pos h]
      obtain ⟨h1, h2⟩ := bnd_odd rest (mx m x) x hL' hx.1 level
      refine ⟨h1.trans ⟨?_, ?_⟩, h2⟩
      · rintro (h3 | ⟨y, hy, h3⟩)
        · exact Or.inr ⟨x, by simp, h.1, h3.2⟩
        · exact Or.inr ⟨y, by simp [hy], h3⟩
      · rintro (h3 | ⟨y, hy, h3⟩)
        · left; have := h.2; omega
        · rcases List.mem_cons.mp hy with rfl | hy
          · left; omega
          · exact Or.inr ⟨y, hy, h3⟩
    · rw [if_neg h]
      obtain ⟨h1, h2⟩ := bnd_odd rest (mx m x) o hL' ho level
      refine ⟨h1.trans ⟨?_, ?_⟩, h2⟩
      · rintro (h3 | ⟨y, hy, h3⟩)
        · exact Or.inl h3
        · exact Or.inr ⟨y, by simp [hy], h3⟩
      · rintro (h3 | ⟨y, hy, h3⟩)
        · exact Or.inl h3
        · rcases List.mem_cons.mp hy with e | hy
          · subst e
            left
            have h4 := h3.1
            have h5 := h3.2
            have h6 : ¬ (o = 0 ∨ y < o) := fun hh => h ⟨h4, hh⟩
            clear h1 h h3 h4
            omega
          · exact Or.inr ⟨y, hy, h3⟩
/-- The order in which places are seen. -/
def vis (lv : List Int) : List Int := if 0 < (bnd 0 0 lv).2 then order_Visual.down lv ((bnd 0 0 lv).1 - (bnd 0 0 lv).2 + 1).toNat (bnd 0 0 lv).1 (order_Visual.iota lv.length) else order_Visual.iota lv.length

theorem held_loop : ∀ (rest pre : List Int) (k : Nat), rest.length < k → pre.length + rest.length ≤ 9223372036854775806 →
    order_held.l0 k (pre.map clamp ++ List.replicate rest.length 0) (pre ++ rest) ((pre ++ rest).length : Int) (pre.length : Int) = some ((pre ++ rest).map clamp) := by
  intro rest
  induction rest with
  | nil =>
    intro pre k hk hm
    obtain ⟨k, rfl⟩ : ∃ m, k = m + 1 := ⟨k - 1, by omega⟩
    rw [order_held.l0, if_neg (by simp)]
    simp
  | cons x rest ih =>
    intro pre k hk hm
    obtain ⟨k, rfl⟩ : ∃ m, k = m + 1 := ⟨k - 1, by omega⟩
    rw [List.length_cons] at hk hm
    have hlen : (pre ++ x :: rest).length = pre.length + rest.length + 1 := by simp; omega
    have step := ih (pre ++ [x]) k (by omega) (by simp; omega)
    simp only [List.append_assoc, List.cons_append, List.nil_append, List.length_append, List.length_cons, List.length_nil, Nat.zero_add, Int.natCast_add, Int.natCast_one, List.map_append, List.map_cons, List.map_nil] at step
    have hm0 : (pre.map clamp).length = pre.length := List.length_map _
    rw [order_held.l0, if_pos (by omega), if_pos (by omega), if_pos (by omega), if_pos (by simp; omega), rd_at, Int.toNat_natCast, List.length_cons, List.replicate_succ]
    have hs := set_at (pre.map clamp) 0 (mn (mx x 0) 126) (List.replicate rest.length 0)
    rw [hm0] at hs
    rw [hs, w64 (by omega) (by omega)]
    have e : ((pre ++ x :: rest).length : Int) = (pre.length : Int) + ((rest.length : Int) + 1) := by omega
    rw [e]
    simp only [List.map_append, List.map_cons]
    exact step
theorem held_f (l : List Int) (k : Nat) (hk : l.length < k) (hl : l.length ≤ 35184372088832) : order_held.f k l = some (l.map clamp) := by
  unfold order_held.f
  rw [if_pos (by omega), if_pos (by omega), Int.toNat_natCast]
  have := held_loop l [] k hk (by simp; omega)
  simpa using this
theorem bounds_loop : ∀ (rest pre : List Int) (m o : Int) (k : Nat), Lev rest → rest.length < k → pre.length + rest.length ≤ 9223372036854775806 →
    order_bounds.l0 k m o (pre ++ rest) ((pre ++ rest).length : Int) (pre.length : Int) = some (bnd m o rest) := by
  intro rest
  induction rest with
  | nil =>
    intro pre m o k hL hk hm
    obtain ⟨k, rfl⟩ : ∃ m, k = m + 1 := ⟨k - 1, by omega⟩
    rw [order_bounds.l0, if_neg (by simp)]
    rfl
  | cons x rest ih =>
    intro pre m o k hL hk hm
    obtain ⟨k, rfl⟩ : ∃ m, k = m + 1 := ⟨k - 1, by omega⟩
    rw [List.length_cons] at hk hm
    have hlen : (pre ++ x :: rest).length = pre.length + rest.length + 1 := by simp; omega
    have hx := hL x (by simp)
    have step := fun m o => ih (pre ++ [x]) m o k (fun y hy => hL y (by simp [hy])) (by omega) (by simp; omega)
    simp only [List.append_assoc, List.cons_append, List.nil_append, List.length_append, List.length_cons, List.length_nil, Nat.zero_add, Int.natCast_add, Int.natCast_one] at step
    have e : ((pre ++ x :: rest).length : Int) = (pre.length : Int) + ((rest.length : Int) + 1) := by omega
    rw [order_bounds.l0, if_pos (by omega), if_pos (by omega), if_pos (by omega), rd_at, and1 x hx.1 hx.2, w64 (by omega) (by omega), e, bnd]
    by_cases h1 : x % 2 = 1
    · rw [if_pos h1]
      by_cases h2 : o = 0
      · rw [if_pos h2, if_pos ⟨h1, Or.inl h2⟩, step]
      · rw [if_neg h2]
        by_cases h3 : x < o
        · rw [if_pos h3, if_pos ⟨h1, Or.inr h3⟩, step]
        · rw [if_neg h3, if_neg (by omega), step]
    · rw [if_neg h1, if_neg (by omega), step]
theorem bounds_f (l : List Int) (k : Nat) (hL : Lev l) (hk : l.length < k) (hl : l.length ≤ 35184372088832) : order_bounds.f k l = some (bnd 0 0 l) := by
  unfold order_bounds.f
  have := bounds_loop l [] 0 0 k hL hk (by simp; omega)
  simpa using this
theorem visual_f (l : List Int) (k : Nat) (hk : l.length < k) (hl : l.length ≤ 35184372088832) : order_Visual.f k l = some (vis (l.map clamp)) := by
  unfold order_Visual.f
  rw [held_f l k hk hl, Option.bind_some, if_pos ⟨by simp, hl⟩, bounds_f _ k (lev_map l) (by simpa using hk) (by simpa using hl), Option.bind_some, if_pos (by rw [bnd_most]; have := most_le (l.map clamp) 0 (lev_map l) (by omega); omega)]
  simp only [vis, List.length_map]


/-- Where each number stands; none: the numbers are no order. -/
def plc : List Int → Nat → List Int → Option (List Int)
  | out, _, [] => some out
  | out, i, v :: rest => if 0 ≤ v ∧ v < (out.length : Int) ∧ rd out v < 0 then plc (out.set v.toNat (i : Int)) (i + 1) rest else none
theorem places_loop (l : List Int) (hm : l.length ≤ 35184372088832) : ∀ (rest pre out : List Int) (k : Nat), l = pre ++ rest → rest.length < k → out.length = l.length →
    order_places.l0 k l out l (l.length : Int) (pre.length : Int) = some (match plc out pre.length rest with | some o => (o, true) | none => ([], false)) := by
  intro rest
  induction rest with
  | nil =>
    intro pre out k hl hk ho
    obtain ⟨k, rfl⟩ : ∃ m, k = m + 1 := ⟨k - 1, by omega⟩
    rw [order_places.l0, if_neg (by rw [hl]; simp)]
    rfl
  | cons v rest ih =>
    intro pre out k hl hk ho
    obtain ⟨k, rfl⟩ : ∃ m, k = m + 1 := ⟨k - 1, by omega⟩
    rw [List.length_cons] at hk
    have hlen : l.length = pre.length + rest.length + 1 := by rw [hl]; simp; omega
    have hrd : rd l (pre.length : Int) = v := by rw [hl]; exact rd_at pre v rest
    have step := fun out ho => ih (pre ++ [v]) out k (by rw [hl]; simp) (by omega) ho
    simp only [List.length_append, List.length_cons, List.length_nil, Nat.zero_add, Int.natCast_add, Int.natCast_one] at step
    rw [order_places.l0, if_pos (by omega), if_pos (by omega), if_pos (by omega), hrd, plc]
    by_cases h1 : v < 0
    · rw [if_pos h1, if_neg (by omega)]
    · rw [if_neg h1]
      by_cases h2 : (l.length : Int) ≤ v
      · rw [if_pos h2, if_neg (by omega)]
      · rw [if_neg h2, if_pos (by omega), if_pos (by omega)]
        by_cases h3 : 0 ≤ rd out v
        · rw [if_pos h3, if_neg (by omega)]
        · rw [if_neg h3, if_pos (by omega), w64 (by omega) (by omega), step _ (by rw [List.length_set]; exact ho)]
theorem places_f (l : List Int) (k : Nat) (hk : l.length < k) (hl : l.length ≤ 35184372088832) :
    order_places.f k l = some (match plc (List.replicate l.length (-1)) 0 l with | some o => (o, true) | none => ([], false)) := by
  unfold order_places.f slices_Repeat_int_int.f
  rw [if_pos (show ([(-1)] : List Int).length = 1 from rfl), if_pos (by omega), if_pos (by omega), Option.bind_some]
  have := places_loop l hl l [] (List.replicate l.length (-1)) k rfl hk (by simp)
  simpa [rd] using this
theorem rd_set (out : List Int) (v w : Int) (x : Int) (hv : 0 ≤ v ∧ v < (out.length : Int)) (hw : 0 ≤ w) : rd (out.set v.toNat x) w = if w = v then x else rd out w := by
  unfold rd
  simp only [List.getD_eq_getElem?_getD, List.getElem?_set]
  by_cases h : w = v
  · subst h; rw [if_pos rfl, if_pos rfl, if_pos (by omega)]; rfl
  · rw [if_neg h, if_neg (by omega)]
/-- Numbers that are all unlike, and all in, are an order. -/
theorem plc_some : ∀ (rest pre out : List Int), (pre ++ rest).Nodup → (∀ v ∈ rest, 0 ≤ v ∧ v < (out.length : Int)) → (∀ v, 0 ≤ v → (0 ≤ rd out v → v ∈ pre ∨ (out.length : Int) ≤ v)) → ∃ o, plc out pre.length rest = some o
  | [], pre, out, _, _, _ => ⟨out, rfl⟩
  | v :: rest, pre, out, hd, hb, hs => by
    have hv := hb v (by simp)
    have hnp : v ∉ pre := by
      intro h
      rw [List.nodup_append] at hd
      exact hd.2.2 v h v (by simp) rfl
    have hneg : rd out v < 0 := by
      apply Classical.byContradiction
      intro h
      rcases hs v hv.1 (by omega) with h1 | h1
      · exact hnp h1
      · omega
    rw [plc, if_pos ⟨hv.1, hv.2, hneg⟩]
    have h := plc_some rest (pre ++ [v]) (out.set v.toNat (pre.length : Int)) (by simpa using hd) (by rw [List.length_set]; exact fun w hw => hb w (by simp [hw])) (fun w hw h => by
      rw [List.length_set]
      rw [rd_set out v w _ hv hw] at h
      by_cases e : w = v
      · left; simp [e]
      · rw [if_neg e] at h
        rcases hs w hw h with h1 | h1
        · left; simp [h1]
        · right; exact h1)
    simpa using h

theorem iota_mem (n : Nat) (p : Int) (h : p ∈ order_Visual.iota n) : 0 ≤ p ∧ p < (n : Int) := by
  simp only [order_Visual.iota, List.mem_map, List.mem_range] at h
  obtain ⟨i, hi, rfl⟩ := h
  omega
theorem iota_length (n : Nat) : (order_Visual.iota n).length = n := by simp [order_Visual.iota]
theorem turnA_length (q : Int → Bool) : ∀ (rest acc : List Int), (order_Visual.turnA q acc rest).length = acc.length + rest.length
  | [], acc => by simp [order_Visual.turnA]
  | x :: t, acc => by
    rw [order_Visual.turnA]
    split
    · rw [turnA_length q t (x :: acc)]; simp; omega
    · rw [List.length_append, List.length_cons, turnA_length q t []]; simp
theorem turnA_perm (q : Int → Bool) : ∀ (rest acc : List Int), (order_Visual.turnA q acc rest).Perm (acc ++ rest)
  | [], acc => by simp [order_Visual.turnA]
  | x :: t, acc => by
    rw [order_Visual.turnA]
    split
    · refine (turnA_perm q t (x :: acc)).trans ?_
      exact List.perm_middle.symm
    · refine List.Perm.append_left acc ?_
      exact List.Perm.cons x (by simpa using turnA_perm q t [])
theorem down_perm (lv : List Int) : ∀ (k : Nat) (level : Int) (o : List Int), (order_Visual.down lv k level o).Perm o
  | 0, _, o => List.Perm.refl o
  | k + 1, level, o => by
    rw [order_Visual.down]
    exact (down_perm lv k _ _).trans (by simpa using turnA_perm (fun p => decide (level ≤ rd lv p)) o [])
theorem vis_perm (lv : List Int) : (vis lv).Perm (order_Visual.iota lv.length) := by
  unfold vis
  split
  · exact down_perm _ _ _ _
  · exact List.Perm.refl _
theorem iota_nodup (n : Nat) : (order_Visual.iota n).Nodup := by
  unfold order_Visual.iota
  rw [List.nodup_iff_pairwise_ne, List.pairwise_map]
  exact (List.nodup_range (n := n)).imp (fun h e => h (by omega))
theorem vis_length (lv : List Int) : (vis lv).length = lv.length := by rw [(vis_perm lv).length_eq, iota_length]
theorem vis_mem (lv : List Int) (p : Int) (h : p ∈ vis lv) : 0 ≤ p ∧ p < (lv.length : Int) := iota_mem _ _ ((vis_perm lv).mem_iff.mp h)
theorem vis_nodup (lv : List Int) : (vis lv).Nodup := (vis_perm lv).nodup_iff.mpr (iota_nodup _)

theorem vis_plc (lv : List Int) : ∃ o, plc (List.replicate lv.length (-1)) 0 (vis lv) = some o := by
  have := plc_some (vis lv) [] (List.replicate lv.length (-1)) (by simpa using vis_nodup lv) (fun v hv => by rw [List.length_replicate]; exact vis_mem lv v hv) (fun v h0 h1 => by
    right
    rw [List.length_replicate]
    apply Classical.byContradiction
    intro h
    have : rd (List.replicate lv.length (-1)) v = -1 := by
      unfold rd
      rw [List.getD_eq_getElem?_getD, List.getElem?_replicate, if_pos (by omega)]; rfl
    omega)
  simpa using this

theorem vis_even (lv : List Int) (hL : Lev lv) (h : ∀ x ∈ lv, x % 2 = 0) : vis lv = order_Visual.iota lv.length := by
  unfold vis
  rw [if_neg]
  intro ho
  have h1 := ((bnd_odd lv 0 0 hL (by omega) (bnd 0 0 lv).2).1).mp ⟨ho, Int.le_refl _⟩
  rcases h1 with h1 | ⟨x, hx, h2, _⟩
  · omega
  · have := h x hx; omega
theorem bnd_same (L : Int) (h1 : 1 ≤ L) (h2 : L % 2 = 1) : ∀ n : Nat, bnd L L (List.replicate n L) = (L, L)
  | 0 => rfl
  | n + 1 => by
    rw [List.replicate_succ, bnd, if_neg (by omega)]
    have : mx L L = L := by unfold mx; split <;> omega
    rw [this]
    exact bnd_same L h1 h2 n
theorem turnA_all (q : Int → Bool) : ∀ (o acc : List Int), (∀ p ∈ o, q p = true) → order_Visual.turnA q acc o = o.reverse ++ acc
  | [], acc, _ => by simp [order_Visual.turnA]
  | x :: t, acc, h => by
    rw [order_Visual.turnA, if_pos (h x (by simp)), turnA_all q t (x :: acc) (fun p hp => h p (by simp [hp]))]
    simp
theorem vis_same (L : Int) (h1 : 1 ≤ L) (h3 : L ≤ 126) (h2 : L % 2 = 1) (n : Nat) : vis (List.replicate n L) = (order_Visual.iota n).reverse := by
  cases n with
  | zero => rfl
  | succ n =>
    have hb : bnd 0 0 (List.replicate (n + 1) L) = (L, L) := by
      rw [List.replicate_succ, bnd, if_pos ⟨h2, Or.inl rfl⟩]
      have : mx 0 L = L := by unfold mx; split <;> omega
      rw [this]
      exact bnd_same L h1 h2 n
    unfold vis
    rw [hb]
    simp only
    rw [if_pos (by omega), show (L - L + 1).toNat = 1 by omega, order_Visual.down, order_Visual.down, List.length_replicate, turnA_all]
    · simp
    · intro p hp
      have := iota_mem _ _ hp
      have e : rd (List.replicate (n + 1) L) p = L := by
        unfold rd
        rw [List.getD_eq_getElem?_getD, List.getElem?_replicate, if_pos (by omega)]; rfl
      rw [e]; simp
theorem rd_iota (n : Nat) (i : Nat) (h : i < n) : rd (order_Visual.iota n) (i : Int) = (i : Int) := by
  unfold rd order_Visual.iota; simp [h]
theorem rd_iota_rev (n : Nat) (i : Nat) (h : i < n) : rd (order_Visual.iota n).reverse (i : Int) = (n : Int) - 1 - (i : Int) := by
  have hl : (order_Visual.iota n).length = n := iota_length n
  have : rd (order_Visual.iota n).reverse (i : Int) = rd (order_Visual.iota n) ((n - 1 - i : Nat) : Int) := by
    unfold rd
    rw [Int.toNat_natCast, Int.toNat_natCast, List.getD_eq_getElem?_getD, List.getD_eq_getElem?_getD, List.getElem?_reverse (by omega), hl]
  rw [this, rd_iota n _ (by omega)]
  omega
theorem wf8 {x : Int} (h : (Lit.int .u8 x).wf = true) : 0 ≤ x ∧ x ≤ 255 := by
  simpa [Lit.wf, IntKind.min, IntKind.max, IntKind.signed, IntKind.bits] using h

theorem plc_range : ∀ (rest out : List Int) (i : Nat) (o : List Int), plc out i rest = some o → (∀ v ∈ rest, 0 ≤ v ∧ v < (out.length : Int)) ∧ o.length = out.length
  | [], out, i, o, h => by rw [plc] at h; obtain rfl := Option.some.inj h; exact ⟨fun v hv => by simp at hv, rfl⟩
  | v :: rest, out, i, o, h => by
    rw [plc] at h
    by_cases hc : 0 ≤ v ∧ v < (out.length : Int) ∧ rd out v < 0
    · rw [if_pos hc] at h
      obtain ⟨h1, h2⟩ := plc_range rest _ _ o h
      rw [List.length_set] at h1 h2
      refine ⟨fun w hw => ?_, h2⟩
      rcases List.mem_cons.mp hw with e | hw
      · subst e; exact ⟨hc.1, hc.2.1⟩
      · exact h1 w hw
    · rw [if_neg hc] at h; cases h
/-- How many places are not filled. -/
def neg (out : List Int) : Nat := out.countP fun x => decide (x < 0)
theorem neg_set (out : List Int) (v : Int) (x : Int) (hv : 0 ≤ v ∧ v < (out.length : Int)) (hn : rd out v < 0) (hx : 0 ≤ x) : neg (out.set v.toNat x) + 1 = neg out := by
  have hlt : v.toNat < out.length := by omega
  have hr : rd out v = out[v.toNat] := by unfold rd; simp [hlt]
  rw [hr] at hn
  have e : out = out.take v.toNat ++ out[v.toNat] :: out.drop (v.toNat + 1) := by rw [← List.drop_eq_getElem_cons hlt, List.take_append_drop]
  unfold neg
  rw [List.set_eq_take_append_cons_drop, if_pos hlt]
  conv => rhs; rw [e]
  rw [List.countP_append, List.countP_append, List.countP_cons, List.countP_cons, if_neg (by simp; omega), if_pos (by simp; omega)]
  omega
theorem plc_neg : ∀ (rest out : List Int) (i : Nat) (o : List Int), plc out i rest = some o → neg o + rest.length = neg out
  | [], out, i, o, h => by rw [plc] at h; obtain rfl := Option.some.inj h; rfl
  | v :: rest, out, i, o, h => by
    rw [plc] at h
    by_cases hc : 0 ≤ v ∧ v < (out.length : Int) ∧ rd out v < 0
    · rw [if_pos hc] at h
      have h1 := plc_neg rest _ _ o h
      have h2 := neg_set out v (i : Int) ⟨hc.1, hc.2.1⟩ hc.2.2 (by omega)
      rw [List.length_cons]
      omega
    · rw [if_neg hc] at h; cases h
theorem neg_zero (o : List Int) (h : neg o = 0) (j : Int) (h0 : 0 ≤ j ∧ j < (o.length : Int)) : 0 ≤ rd o j := by
  unfold neg at h
  rw [List.countP_eq_zero] at h
  have hlt : j.toNat < o.length := by omega
  have hr : rd o j = o[j.toNat] := by unfold rd; simp [hlt]
  rw [hr]
  have := h o[j.toNat] (List.getElem_mem hlt)
  simpa using this
theorem plc_full (l o : List Int) (h : plc (List.replicate l.length (-1)) 0 l = some o) : o.length = l.length ∧ ∀ j : Int, 0 ≤ j → j < (l.length : Int) → 0 ≤ rd o j := by
  obtain ⟨_, h2⟩ := plc_range _ _ _ _ h
  rw [List.length_replicate] at h2
  refine ⟨h2, fun j h0 h1 => neg_zero o ?_ j ⟨h0, by omega⟩⟩
  have h3 := plc_neg _ _ _ _ h
  have h4 : neg (List.replicate l.length (-1)) = l.length := by unfold neg; simp [List.countP_replicate]
  omega
theorem rdB_set (s : List Bool) (v w : Int) (hv : 0 ≤ v ∧ v < (s.length : Int)) (hw : 0 ≤ w) : rdOf false (s.set v.toNat true) w = if w = v then true else rdOf false s w := by
  unfold rdOf
  simp only [List.getD_eq_getElem?_getD, List.getElem?_set]
  by_cases h : w = v
  · subst h; rw [if_pos rfl, if_pos rfl, if_pos (by omega)]; rfl
  · rw [if_neg h, if_neg (by omega)]
theorem rd_ext (a b : List Int) (hl : a.length = b.length) (h : ∀ v : Int, 0 ≤ v → v < (a.length : Int) → rd a v = rd b v) : a = b := by
  apply List.ext_getElem hl
  intro i h1 h2
  have := h (i : Int) (by omega) (by omega)
  rwa [rd_nat a i h1, rd_nat b i h2] at this
theorem inverse_f (l : List Int) (k : Nat) (hk : l.length < k) (hl : l.length ≤ 35184372088832) :
    order_Inverse.f k l = some (match plc (List.replicate l.length (-1)) 0 l with | some o => (o, 0) | none => ([], 13)) := by
  unfold order_Inverse.f
  rw [places_f l k hk hl, Option.bind_some]
  cases plc (List.replicate l.length (-1)) 0 l with
  | none => rw [if_neg (by simp)]
  | some o => rw [if_pos (by simp)]

theorem plc_spec : ∀ (rest out : List Int) (i : Nat) (o : List Int), plc out i rest = some o → (∀ (j : Nat), j < rest.length → rd o (rd rest (j : Int)) = ((i + j : Nat) : Int)) ∧ (∀ w : Int, 0 ≤ w → w ∉ rest → rd o w = rd out w) ∧ (∀ w ∈ rest, rd out w < 0)
  | [], out, i, o, h => by
    rw [plc] at h; obtain rfl := Option.some.inj h
    exact ⟨fun j hj => by simp at hj, fun w _ _ => rfl, fun w hw => by simp at hw⟩
  | v :: rest, out, i, o, h => by
    rw [plc] at h
    by_cases hc : 0 ≤ v ∧ v < (out.length : Int) ∧ rd out v < 0
    · rw [if_pos hc] at h
      obtain ⟨h1, h2, h3⟩ := plc_spec rest _ _ o h
      obtain ⟨hr, _⟩ := plc_range rest _ _ o h
      have hv : 0 ≤ v ∧ v < (out.length : Int) := ⟨hc.1, hc.2.1⟩
      have hnv : v ∉ rest := by
        intro hm
        have := h3 v hm
        rw [rd_set out v v _ hv hv.1, if_pos rfl] at this
        omega
      refine ⟨fun j hj => ?_, fun w h0 hw => ?_, fun w hw => ?_⟩
      · match j with
        | 0 =>
          have e : rd (v :: rest) ((0 : Nat) : Int) = v := rfl
          rw [e, h2 v hv.1 hnv, rd_set out v v _ hv hv.1, if_pos rfl]
          omega
        | j + 1 =>
          have e : rd (v :: rest) ((j + 1 : Nat) : Int) = rd rest (j : Int) := by unfold rd; simp
          rw [e, h1 j (by simpa using hj)]
          omega
      · simp only [List.mem_cons, not_or] at hw
        rw [h2 w h0 hw.2, rd_set out v w _ hv h0, if_neg hw.1]
      · rcases List.mem_cons.mp hw with e | hw
        · rw [e]; exact hc.2.2
        · have h4 := h3 w hw
          have h0 := (hr w hw).1
          rw [rd_set out v w _ hv h0] at h4
          by_cases e : w = v
          · rw [e]; exact hc.2.2
          · rwa [if_neg e] at h4
    · rw [if_neg hc] at h; cases h
theorem rd_mem (l : List Int) (v : Int) (h : v ∈ l) : ∃ j : Nat, j < l.length ∧ rd l (j : Int) = v := by
  obtain ⟨j, hj, e⟩ := List.getElem_of_mem h
  exact ⟨j, hj, by rw [rd_nat l j hj]; exact e⟩
theorem inv_facts (o a : List Int) (h : plc (List.replicate o.length (-1)) 0 o = some a) : a.length = o.length ∧ (∀ p : Nat, p < o.length → rd a (rd o (p : Int)) = (p : Int)) ∧ (∀ v : Int, 0 ≤ v → v < (o.length : Int) → 0 ≤ rd a v ∧ rd a v < (o.length : Int) ∧ rd o (rd a v) = v) := by
  obtain ⟨h1, h2, _⟩ := plc_spec _ _ _ _ h
  obtain ⟨h4, h5⟩ := plc_full o a h
  refine ⟨h4, fun p hp => by rw [h1 p hp]; omega, fun v h0 hv => ?_⟩
  have hm : v ∈ o := by
    apply Classical.byContradiction
    intro hn
    have := h2 v h0 hn
    have e2 : rd (List.replicate o.length (-1)) v = -1 := by
      unfold rd; rw [List.getD_eq_getElem?_getD, List.getElem?_replicate, if_pos (by omega)]; rfl
    have := h5 v h0 hv
    omega
  obtain ⟨j, hj, e⟩ := rd_mem o v hm
  have := h1 j hj
  rw [e] at this
  rw [this]
  refine ⟨by omega, by omega, ?_⟩
  rw [show ((0 + j : Nat) : Int) = (j : Int) by omega]
  exact e
theorem nodup_of_rd (a : List Int) (h : ∀ v w : Int, 0 ≤ v → v < (a.length : Int) → 0 ≤ w → w < (a.length : Int) → rd a v = rd a w → v = w) : a.Nodup := by
  rw [List.nodup_iff_pairwise_ne, List.pairwise_iff_getElem]
  intro i j hi hj hij e
  have := h (i : Int) (j : Int) (by omega) (by omega) (by omega) (by omega) (by rw [rd_nat a i hi, rd_nat a j hj]; exact e)
  omega
theorem inv_inv (o a : List Int) (h : plc (List.replicate o.length (-1)) 0 o = some a) : plc (List.replicate o.length (-1)) 0 a = some o := by
  obtain ⟨h1, h2, h3⟩ := inv_facts o a h
  have hnd : a.Nodup := nodup_of_rd a (fun v w a0 a1 b0 b1 e => by
    have e1 := (h3 v a0 (by omega)).2.2
    have e2 := (h3 w b0 (by omega)).2.2
    rw [← e1, e, e2])
  have hneg : ∀ v : Int, 0 ≤ v → v < (o.length : Int) → rd (List.replicate o.length (-1)) v = -1 := fun v h0 h1 => by
    unfold rd; rw [List.getD_eq_getElem?_getD, List.getElem?_replicate, if_pos (by omega)]; rfl
  obtain ⟨b, hb⟩ := plc_some a [] (List.replicate o.length (-1)) (by simpa using hnd) (fun v hv => by
    rw [List.length_replicate]
    obtain ⟨j, hj, e⟩ := rd_mem a v hv
    have := h3 (j : Int) (by omega) (by omega)
    rw [e] at this
    exact ⟨this.1, this.2.1⟩) (fun v h0 h4 => by
    right
    rw [List.length_replicate]
    apply Classical.byContradiction
    intro hn
    have := hneg v h0 (by omega)
    omega)
  have hb' : plc (List.replicate a.length (-1)) 0 a = some b := by rw [h1]; simpa using hb
  obtain ⟨g1, g2, _⟩ := inv_facts a b hb'
  have : b = o := rd_ext b o (by omega) (fun p h0 h4 => by
    have k1 := h2 p.toNat (by omega)
    rw [show ((p.toNat : Nat) : Int) = p by omega] at k1
    have k2 : 0 ≤ rd o p ∧ rd o p < (o.length : Int) := by
      obtain ⟨r1, _⟩ := plc_range _ _ _ _ h
      have := r1 (rd o p) (by
        have hp : p.toNat < o.length := by omega
        have : rd o p = o[p.toNat] := by unfold rd; simp [hp]
        rw [this]; exact List.getElem_mem hp)
      rwa [List.length_replicate] at this
    have k3 := g2 (rd o p).toNat (by omega)
    rw [show (((rd o p).toNat : Nat) : Int) = rd o p by omega, k1] at k3
    exact k3)
  subst this
  simpa using hb

def odd (x : Int) : Bool := decide (x % 2 = 1)
theorem codd_f (x : Int) : caret_odd.f x = some (odd x) := by
  unfold caret_odd.f odd
  rw [i64_and1]
  congr 1
def frn (l a : List Int) (p : Int) : Int := if odd (rd l p) = true then rd a p + 1 else rd a p
def bak (l a : List Int) (p : Int) : Int := if odd (rd l p) = true then rd a p else rd a p + 1
def ahd (l a : List Int) (b p : Int) : Int := if p < (l.length : Int) then frn l a p else if odd b = true then 0 else (l.length : Int)
def bhd (l a : List Int) (b p : Int) : Int := if 0 < p then bak l a (p - 1) else if odd b = true then (l.length : Int) else 0
def trn (l : List Int) (b p : Int) : Bool := decide (0 ≤ p ∧ p < (l.length : Int)) && (odd (rd l p) != odd b)
def stp1 (l a : List Int) (b p : Int) : Int := if trn l b p = true ∧ trn l b (p - 1) = false then bhd l a b p else ahd l a b p
def stp2 (l a : List Int) (b p : Int) : Int := if trn l b p = true ∧ trn l b (p - 1) = false then ahd l a b p else bhd l a b p
/-- What an inverse of so many places is. -/
def Inv (l a : List Int) : Prop := a.length = l.length ∧ l.length ≤ 100 ∧ ∀ v : Int, 0 ≤ v → v < (l.length : Int) → 0 ≤ rd a v ∧ rd a v < (l.length : Int)
theorem there_f (l a : List Int) (b p : Int) : caret_line_there.f l b a p = some (decide (0 ≤ p ∧ p < (l.length : Int)), b) := by
  unfold caret_line_there.f
  by_cases h : p ≥ 0
  · rw [if_pos h]
    by_cases h2 : p < (l.length : Int)
    · rw [decide_eq_true h2, decide_eq_true ⟨h, h2⟩]
    · rw [decide_eq_false h2, decide_eq_false (fun e => h2 e.2)]
  · rw [if_neg h, decide_eq_false (fun e => h e.1)]
theorem front_f (l a : List Int) (b p : Int) (hI : Inv l a) (h0 : 0 ≤ p) (h1 : p < (l.length : Int)) : caret_line_front.f l b a p = some (frn l a p, b) := by
  obtain ⟨e1, e2, e3⟩ := hI
  have h2 := e3 p h0 h1
  unfold caret_line_front.f frn
  rw [if_pos h0, if_pos h1, codd_f, Option.bind_some]
  split
  · rw [if_pos (by omega), w64 (by omega) (by omega)]
  · rw [if_pos (by omega)]
theorem back_f (l a : List Int) (b p : Int) (hI : Inv l a) (h0 : 0 ≤ p) (h1 : p < (l.length : Int)) : caret_line_back.f l b a p = some (bak l a p, b) := by
  obtain ⟨e1, e2, e3⟩ := hI
  have h2 := e3 p h0 h1
  unfold caret_line_back.f bak
  rw [if_pos h0, if_pos h1, codd_f, Option.bind_some]
  split
  · rw [if_pos (by omega)]
  · rw [if_pos (by omega), w64 (by omega) (by omega)]
theorem outer_f (l a : List Int) (b : Int) (last : Bool) : caret_line_outer.f l b a last = some (if (last != odd b) = true then (l.length : Int) else 0, b) := by
  unfold caret_line_outer.f
  rw [codd_f, Option.bind_some]
  split <;> rfl
theorem ahead_f (l a : List Int) (b p : Int) (hI : Inv l a) (h0 : 0 ≤ p) : caret_line_ahead.f l b a p = some (ahd l a b p, b) := by
  unfold caret_line_ahead.f ahd
  rw [there_f, Option.bind_some]
  by_cases h1 : p < (l.length : Int)
  · rw [if_pos h1, if_pos (decide_eq_true ⟨h0, h1⟩), front_f l a b p hI h0 h1]; rfl
  · rw [if_neg h1, if_neg (by simp [h1]), outer_f]
    cases odd b <;> simp
theorem behind_f (l a : List Int) (b p : Int) (hI : Inv l a) (h0 : 0 ≤ p) (h1 : p ≤ (l.length : Int)) : caret_line_behind.f l b a p = some (bhd l a b p, b) := by
  have e2 := hI.2.1
  unfold caret_line_behind.f bhd
  rw [w64 (by omega) (by omega), there_f, Option.bind_some]
  by_cases h2 : 0 < p
  · rw [if_pos h2, if_pos (decide_eq_true ⟨by omega, by omega⟩), back_f l a b (p - 1) hI (by omega) (by omega)]; rfl
  · rw [if_neg h2, if_neg (by simp; omega), outer_f]
    cases odd b <;> simp
theorem turns_f (l a : List Int) (b p : Int) : caret_line_turns.f l b a p = some (trn l b p, b) := by
  unfold caret_line_turns.f trn
  rw [i64_and1, i64_and1]
  by_cases h : 0 ≤ p ∧ p < (l.length : Int)
  · rw [if_pos h, decide_eq_true h]; rfl
  · rw [if_neg h, decide_eq_false h]; rfl
theorem stop_f (l a : List Int) (b p : Int) (hI : Inv l a) (h0 : 0 ≤ p) (h1 : p ≤ (l.length : Int)) : caret_line_stop.f l b a p = some (stp1 l a b p, stp2 l a b p, b) := by
  have e2 := hI.2.1
  unfold caret_line_stop.f stp1 stp2
  rw [ahead_f l a b p hI h0, Option.bind_some, behind_f l a b p hI h0 h1, Option.bind_some, turns_f, Option.bind_some, w64 (by omega) (by omega), turns_f]
  cases trn l b p with
  | true => cases trn l b (p - 1) <;> simp
  | false => simp
def stopsL (l a : List Int) (b : Int) (m : Nat) : List S51 := (List.range m).map (fun (i : Nat) => ⟨stp1 l a b (i : Int), stp2 l a b (i : Int)⟩)
theorem stops_loop (l a : List Int) (b : Int) (hI : Inv l a) : ∀ (d i k : Nat), i + d = l.length + 1 → d < k → caret_line_stops.l0 k (stopsL l a b i) ((l.length : Int) + 1) (i : Int) l b a = some (stopsL l a b (l.length + 1), b) := by
  have e2 := hI.2.1
  intro d
  induction d with
  | zero =>
    intro i k hi hk
    obtain ⟨k, rfl⟩ : ∃ m, k = m + 1 := ⟨k - 1, by omega⟩
    rw [caret_line_stops.l0, if_neg (by omega), show i = l.length + 1 by omega]
  | succ d ih =>
    intro i k hi hk
    obtain ⟨k, rfl⟩ : ∃ m, k = m + 1 := ⟨k - 1, by omega⟩
    have hl : (stopsL l a b i).length = i := by simp [stopsL]
    have e : stopsL l a b i ++ [⟨stp1 l a b (i : Int), stp2 l a b (i : Int)⟩] = stopsL l a b (i + 1) := by simp [stopsL, List.range_succ]
    have step := ih (i + 1) k (by omega) (by omega)
    rw [caret_line_stops.l0, if_pos (by omega), stop_f l a b _ hI (by omega) (by omega), Option.bind_some, if_pos (by omega), e, w64 (by omega) (by omega)]
    exact step
theorem stopsl_f (l a : List Int) (b : Int) (hI : Inv l a) (k : Nat) (hk : 200 ≤ k) : caret_line_stops.f k l b a = some (stopsL l a b (l.length + 1), b) := by
  have e2 := hI.2.1
  unfold caret_line_stops.f
  rw [w64 (by omega) (by omega), if_pos (by omega), if_pos (by omega)]
  exact stops_loop l a b hI (l.length + 1) 0 k (by omega) (by omega)
theorem inv_of (l a : List Int) (hl : l.length ≤ 100) (ha : plc (List.replicate l.length (-1)) 0 (vis (l.map clamp)) = some a) : Inv l a := by
  have hv : (vis (l.map clamp)).length = l.length := by rw [vis_length, List.length_map]
  rw [← hv] at ha
  obtain ⟨h1, h2, h3⟩ := inv_facts (vis (l.map clamp)) a ha
  rw [hv] at h1 h3
  exact ⟨h1, hl, fun v h0 hv => ⟨(h3 v h0 hv).1, (h3 v h0 hv).2.1⟩⟩
theorem inv_some (l : List Int) : ∃ a, plc (List.replicate l.length (-1)) 0 (vis (l.map clamp)) = some a := by
  obtain ⟨a, ha⟩ := vis_plc (l.map clamp)
  rw [List.length_map] at ha
  exact ⟨a, ha⟩
theorem stops_f (l a : List Int) (b : Int) (hl : l.length ≤ 100) (ha : plc (List.replicate l.length (-1)) 0 (vis (l.map clamp)) = some a) (k : Nat) (hk : 200 ≤ k) : caret_Stops.f k l b = some (stopsL l a b (l.length + 1)) := by
  have hv : (vis (l.map clamp)).length = l.length := by rw [vis_length, List.length_map]
  unfold caret_Stops.f
  rw [visual_f l k (by omega) (by omega), Option.bind_some, inverse_f _ k (by omega) (by omega), hv, ha]
  dsimp only
  rw [Option.bind_some, stopsl_f l a b (inv_of l a hl ha) k hk, Option.bind_some]
theorem stopsL_length (l a : List Int) (b : Int) (m : Nat) : (stopsL l a b m).length = m := by simp [stopsL]
theorem stopsL_rd (l a : List Int) (b : Int) (m i : Nat) (h : i < m) : rd_T51 (stopsL l a b m) (i : Int) = ⟨stp1 l a b (i : Int), stp2 l a b (i : Int)⟩ := by
  simp [rd_T51, stopsL, h]
theorem hit_f (l : List Int) (x : Int) (hl : l.length ≤ 100) (k : Nat) (hk : 200 ≤ k) : caret_Hit.f k l x = some (if 0 ≤ x ∧ x < (l.length : Int) then (rd (vis (l.map clamp)) x, true) else (0, false)) := by
  have hv : (vis (l.map clamp)).length = l.length := by rw [vis_length, List.length_map]
  unfold caret_Hit.f
  by_cases h0 : x < 0
  · rw [if_pos h0, if_neg (by omega)]
  · rw [if_neg h0]
    by_cases h1 : x ≥ (l.length : Int)
    · rw [if_pos h1, if_neg (by omega)]
    · rw [if_neg h1, visual_f l k (by omega) (by omega), Option.bind_some, if_pos (by omega), if_pos (by omega), if_pos ⟨by omega, by omega⟩]
/-- The place to which the caret goes. -/
def mvF (on better : Int → Int → Bool) (P : Nat → Int) (at_ : Nat) : Nat → Nat → Nat → Nat
  | 0, _, best => best
  | d + 1, i, best => mvF on better P at_ d (i + 1) (if on (P i) (P at_) = true then (if best = at_ then i else if better (P i) (P best) = true then i else best) else best)
theorem mvF_le (on better : Int → Int → Bool) (P : Nat → Int) (at_ m : Nat) : ∀ (d i best : Nat), i + d ≤ m → best < m → mvF on better P at_ d i best < m
  | 0, _, _, _, h => h
  | d + 1, i, best, h1, h2 => by
    rw [mvF]
    refine mvF_le on better P at_ m d (i + 1) _ (by omega) ?_
    split
    · split
      · omega
      · split <;> omega
    · exact h2
theorem mvF_on (on better : Int → Int → Bool) (P : Nat → Int) (at_ : Nat) : ∀ (d i best : Nat), (best = at_ ∨ on (P best) (P at_) = true) → (mvF on better P at_ d i best = at_ ∨ on (P (mvF on better P at_ d i best)) (P at_) = true)
  | 0, _, _, h => h
  | d + 1, i, best, h => by
    rw [mvF]
    refine mvF_on on better P at_ d (i + 1) _ ?_
    split
    · rename_i ho
      split
      · exact Or.inr ho
      · split
        · exact Or.inr ho
        · exact h
    · exact h

def onLeft (a b : Int) : Bool := decide (a<b)
def betterLeft (a b : Int) : Bool := decide (a≥b)
theorem moveLeft_loop (l a : List Int) (b : Int) (hl : l.length ≤ 100) (at_ : Nat) (ha : at_ < l.length + 1) : ∀ (d i best k : Nat), i + d = l.length + 1 → best < l.length + 1 → d < k →
    caret_moveLeft.l0 k (at_ : Int) (stopsL l a b (l.length + 1)) (best : Int) (stopsL l a b (l.length + 1)) ((l.length : Int) + 1) (i : Int) = some ((mvF onLeft betterLeft (fun i => stp1 l a b (i : Int)) at_ d i best : Nat) : Int) := by
  have hL := stopsL_length l a b (l.length + 1)
  intro d
  induction d with
  | zero =>
    intro i best k hi hb hk
    obtain ⟨k, rfl⟩ : ∃ m, k = m + 1 := ⟨k - 1, by omega⟩
    rw [caret_moveLeft.l0, if_neg (by omega)]
    rfl
  | succ d ih =>
    intro i best k hi hb hk
    obtain ⟨k, rfl⟩ : ∃ m, k = m + 1 := ⟨k - 1, by omega⟩
    have r1 := stopsL_rd l a b (l.length + 1) i (by omega)
    have r2 := stopsL_rd l a b (l.length + 1) at_ ha
    have r3 := stopsL_rd l a b (l.length + 1) best hb
    have s1 := ih (i + 1) i k (by omega) (by omega) (by omega)
    have s2 := ih (i + 1) best k (by omega) hb (by omega)
    rw [Int.natCast_add] at s1 s2
    rw [caret_moveLeft.l0, if_pos (by omega), if_pos (by omega), if_pos (by omega), if_pos (by omega), if_pos (by omega), r1, r2, r3, mvF, w64 (by omega) (by omega)]
    unfold caret_Left_1.f caret_Left_2.f
    simp only [Option.bind_some]
    unfold onLeft betterLeft at *
    by_cases h1 : decide (stp1 l a b (i : Int)<stp1 l a b (at_ : Int)) = true
    · rw [if_pos h1, if_pos h1]
      by_cases h2 : best = at_
      · rw [if_pos (by omega), if_pos h2]
        exact s1
      · rw [if_neg (by omega), if_neg h2, if_pos (by omega), if_pos (by omega)]
        by_cases h3 : decide (stp1 l a b (i : Int)≥stp1 l a b (best : Int)) = true
        · rw [if_pos h3, if_pos h3]
          exact s1
        · rw [if_neg h3, if_neg h3]
          exact s2
    · rw [if_neg h1, if_neg h1]
      exact s2
theorem moveLeft_f (l a : List Int) (b at_ : Int) (hl : l.length ≤ 100) (ha : plc (List.replicate l.length (-1)) 0 (vis (l.map clamp)) = some a) (k : Nat) (hk : 300 ≤ k) :
    caret_Left.f k l b at_ = some (if 0 ≤ at_ ∧ at_ ≤ (l.length : Int) then ((mvF onLeft betterLeft (fun i => stp1 l a b (i : Int)) at_.toNat (l.length + 1) 0 at_.toNat : Nat) : Int) else at_) := by
  obtain ⟨k, rfl⟩ : ∃ m, k = m + 1 := ⟨k - 1, by omega⟩
  unfold caret_Left.f caret_moveLeft.f
  by_cases h0 : at_ < 0
  · rw [if_pos h0, caret_moveLeft.j0, if_pos rfl, if_neg (by omega)]
    rfl
  · rw [if_neg h0, caret_moveLeft.j0]
    by_cases h1 : at_ > (l.length : Int)
    · rw [if_pos (decide_eq_true h1), if_neg (by omega)]
      rfl
    · rw [if_neg (by simp [h1]), stops_f l a b hl ha k (by omega), Option.bind_some, if_pos ⟨by omega, by omega⟩, stopsL_length]
      have := moveLeft_loop l a b hl at_.toNat (by omega) (l.length + 1) 0 at_.toNat k (by omega) (by omega) (by omega)
      rw [show ((at_.toNat : Nat) : Int) = at_ by omega] at this
      rw [show ((l.length + 1 : Nat) : Int) = (l.length : Int) + 1 by omega]
      rw [show (0 : Int) = ((0 : Nat) : Int) from rfl, this]
      rfl

def onRight (a b : Int) : Bool := decide (a>b)
def betterRight (a b : Int) : Bool := decide (a<b)
theorem moveRight_loop (l a : List Int) (b : Int) (hl : l.length ≤ 100) (at_ : Nat) (ha : at_ < l.length + 1) : ∀ (d i best k : Nat), i + d = l.length + 1 → best < l.length + 1 → d < k →
    caret_moveRight.l0 k (at_ : Int) (stopsL l a b (l.length + 1)) (best : Int) (stopsL l a b (l.length + 1)) ((l.length : Int) + 1) (i : Int) = some ((mvF onRight betterRight (fun i => stp1 l a b (i : Int)) at_ d i best : Nat) : Int) := by
  have hL := stopsL_length l a b (l.length + 1)
  intro d
  induction d with
  | zero =>
    intro i best k hi hb hk
    obtain ⟨k, rfl⟩ : ∃ m, k = m + 1 := ⟨k - 1, by omega⟩
    rw [caret_moveRight.l0, if_neg (by omega)]
    rfl
  | succ d ih =>
    intro i best k hi hb hk
    obtain ⟨k, rfl⟩ : ∃ m, k = m + 1 := ⟨k - 1, by omega⟩
    have r1 := stopsL_rd l a b (l.length + 1) i (by omega)
    have r2 := stopsL_rd l a b (l.length + 1) at_ ha
    have r3 := stopsL_rd l a b (l.length + 1) best hb
    have s1 := ih (i + 1) i k (by omega) (by omega) (by omega)
    have s2 := ih (i + 1) best k (by omega) hb (by omega)
    rw [Int.natCast_add] at s1 s2
    rw [caret_moveRight.l0, if_pos (by omega), if_pos (by omega), if_pos (by omega), if_pos (by omega), if_pos (by omega), r1, r2, r3, mvF, w64 (by omega) (by omega)]
    unfold caret_Right_1.f caret_Right_2.f
    simp only [Option.bind_some]
    unfold onRight betterRight at *
    by_cases h1 : decide (stp1 l a b (i : Int)>stp1 l a b (at_ : Int)) = true
    · rw [if_pos h1, if_pos h1]
      by_cases h2 : best = at_
      · rw [if_pos (by omega), if_pos h2]
        exact s1
      · rw [if_neg (by omega), if_neg h2, if_pos (by omega), if_pos (by omega)]
        by_cases h3 : decide (stp1 l a b (i : Int)<stp1 l a b (best : Int)) = true
        · rw [if_pos h3, if_pos h3]
          exact s1
        · rw [if_neg h3, if_neg h3]
          exact s2
    · rw [if_neg h1, if_neg h1]
      exact s2
theorem moveRight_f (l a : List Int) (b at_ : Int) (hl : l.length ≤ 100) (ha : plc (List.replicate l.length (-1)) 0 (vis (l.map clamp)) = some a) (k : Nat) (hk : 300 ≤ k) :
    caret_Right.f k l b at_ = some (if 0 ≤ at_ ∧ at_ ≤ (l.length : Int) then ((mvF onRight betterRight (fun i => stp1 l a b (i : Int)) at_.toNat (l.length + 1) 0 at_.toNat : Nat) : Int) else at_) := by
  obtain ⟨k, rfl⟩ : ∃ m, k = m + 1 := ⟨k - 1, by omega⟩
  unfold caret_Right.f caret_moveRight.f
  by_cases h0 : at_ < 0
  · rw [if_pos h0, caret_moveRight.j0, if_pos rfl, if_neg (by omega)]
    rfl
  · rw [if_neg h0, caret_moveRight.j0]
    by_cases h1 : at_ > (l.length : Int)
    · rw [if_pos (decide_eq_true h1), if_neg (by omega)]
      rfl
    · rw [if_neg (by simp [h1]), stops_f l a b hl ha k (by omega), Option.bind_some, if_pos ⟨by omega, by omega⟩, stopsL_length]
      have := moveRight_loop l a b hl at_.toNat (by omega) (l.length + 1) 0 at_.toNat k (by omega) (by omega) (by omega)
      rw [show ((at_.toNat : Nat) : Int) = at_ by omega] at this
      rw [show ((l.length + 1 : Nat) : Int) = (l.length : Int) + 1 by omega]
      rw [show (0 : Int) = ((0 : Nat) : Int) from rfl, this]
      rfl

theorem awake_ok : naskhlaw44_awake.f 100 = some true := by decide +kernel
theorem haw (k : Nat) (hk : 100 ≤ k) : naskhlaw44_awake.f k = some true := at_rounds (fun k => naskhlaw44_awake.mono k) hk awake_ok
theorem rd_rep (n : Nat) (L : Int) (p : Int) (h0 : 0 ≤ p) (h1 : p < (n : Int)) : rd (List.replicate n L) p = L := by
  unfold rd
  rw [List.getD_eq_getElem?_getD, List.getElem?_replicate, if_pos (by omega)]; rfl
theorem mvR (P : Nat → Int) (at_ : Nat) : ∀ (d i best : Nat), ((best = at_ ∧ ∀ j, j < i → ¬ P j > P at_) ∨ (P best > P at_ ∧ ∀ j, j < i → P j > P at_ → P best ≤ P j)) →
    ((mvF onRight betterRight P at_ d i best = at_ ∧ ∀ j, j < i + d → ¬ P j > P at_) ∨ (P (mvF onRight betterRight P at_ d i best) > P at_ ∧ ∀ j, j < i + d → P j > P at_ → P (mvF onRight betterRight P at_ d i best) ≤ P j))
  | 0, i, best, h => h
  | d + 1, i, best, h => by
    rw [mvF]
    have e : i + (d + 1) = (i + 1) + d := by omega
    rw [e]
    refine mvR P at_ d (i + 1) _ ?_
    unfold onRight betterRight
    have cases_ : ∀ j, j < i + 1 → j < i ∨ j = i := fun j hj => by omega
    by_cases ho : P i > P at_
    · rw [if_pos (decide_eq_true ho)]
      by_cases hb : best = at_
      · rw [if_pos hb]
        right
        refine ⟨ho, fun j hj hp => ?_⟩
        rcases cases_ j hj with h1 | h1
        · rcases h with h | h
          · exact absurd hp (h.2 j h1)
          · rw [hb] at h; have := h.1; omega
        · rw [h1]; omega
      · rw [if_neg hb]
        rcases h with h | h
        · exact absurd h.1 hb
        · right
          by_cases hc : P i < P best
          · rw [if_pos (decide_eq_true hc)]
            refine ⟨ho, fun j hj hp => ?_⟩
            rcases cases_ j hj with h1 | h1
            · have := h.2 j h1 hp; omega
            · rw [h1]; omega
          · rw [if_neg (by simpa using hc)]
            refine ⟨h.1, fun j hj hp => ?_⟩
            rcases cases_ j hj with h1 | h1
            · exact h.2 j h1 hp
            · rw [h1]; omega
    · rw [if_neg (by simpa using ho)]
      rcases h with h | h
      · left
        refine ⟨h.1, fun j hj => ?_⟩
        rcases cases_ j hj with h1 | h1
        · exact h.2 j h1
        · rw [h1]; exact ho
      · right
        refine ⟨h.1, fun j hj hp => ?_⟩
        rcases cases_ j hj with h1 | h1
        · exact h.2 j h1 hp
        · rw [h1] at hp; exact absurd hp ho
theorem mvL (P : Nat → Int) (at_ : Nat) : ∀ (d i best : Nat), ((best = at_ ∧ ∀ j, j < i → ¬ P j < P at_) ∨ (P best < P at_ ∧ ∀ j, j < i → P j < P at_ → P best ≥ P j)) →
    ((mvF onLeft betterLeft P at_ d i best = at_ ∧ ∀ j, j < i + d → ¬ P j < P at_) ∨ (P (mvF onLeft betterLeft P at_ d i best) < P at_ ∧ ∀ j, j < i + d → P j < P at_ → P (mvF onLeft betterLeft P at_ d i best) ≥ P j))
  | 0, i, best, h => h
  | d + 1, i, best, h => by
    rw [mvF]
    have e : i + (d + 1) = (i + 1) + d := by omega
    rw [e]
    refine mvL P at_ d (i + 1) _ ?_
    unfold onLeft betterLeft
    have cases_ : ∀ j, j < i + 1 → j < i ∨ j = i := fun j hj => by omega
    by_cases ho : P i < P at_
    · rw [if_pos (decide_eq_true ho)]
      by_cases hb : best = at_
      · rw [if_pos hb]
        right
        refine ⟨ho, fun j hj hp => ?_⟩
        rcases cases_ j hj with h1 | h1
        · rcases h with h | h
          · exact absurd hp (h.2 j h1)
          · rw [hb] at h; have := h.1; omega
        · rw [h1]; omega
      · rw [if_neg hb]
        rcases h with h | h
        · exact absurd h.1 hb
        · right
          by_cases hc : P i ≥ P best
          · rw [if_pos (decide_eq_true hc)]
            refine ⟨ho, fun j hj hp => ?_⟩
            rcases cases_ j hj with h1 | h1
            · have := h.2 j h1 hp; omega
            · rw [h1]; omega
          · rw [if_neg (by simpa using hc)]
            refine ⟨h.1, fun j hj hp => ?_⟩
            rcases cases_ j hj with h1 | h1
            · exact h.2 j h1 hp
            · rw [h1]; omega
    · rw [if_neg (by simpa using ho)]
      rcases h with h | h
      · left
        refine ⟨h.1, fun j hj => ?_⟩
        rcases cases_ j hj with h1 | h1
        · exact h.2 j h1
        · rw [h1]; exact ho
      · right
        refine ⟨h.1, fun j hj hp => ?_⟩
        rcases cases_ j hj with h1 | h1
        · exact h.2 j h1 hp
        · rw [h1] at hp; exact absurd hp ho
/-- The edge at a place of a line that goes one way. -/
def edg (n : Nat) (r : Bool) (i : Nat) : Int := if r = true then (n : Int) - (i : Int) else (i : Int)
def lvl (r : Bool) : Int := if r = true then 1 else 0
def nxt (n : Nat) (r : Bool) (i : Nat) : Nat := if r = true then i - 1 else if i + 1 ≤ n then i + 1 else n
def lst (n : Nat) (r : Bool) (i : Nat) : Nat := if r = true then (if i + 1 ≤ n then i + 1 else n) else i - 1
theorem right_is (n : Nat) (r : Bool) (P : Nat → Int) (hP : ∀ i, i ≤ n → P i = edg n r i) (i : Nat) (hi : i ≤ n) : mvF onRight betterRight P i (n + 1) 0 i = nxt n r i := by
  have h := mvR P i (n + 1) 0 i (Or.inl ⟨rfl, fun j hj => absurd hj (by omega)⟩)
  have hm := mvF_le onRight betterRight P i (n + 1) (n + 1) 0 i (by omega) (by omega)
  revert h hm
  generalize mvF onRight betterRight P i (n + 1) 0 i = q
  intro h hm
  have e0 := hP i hi
  have e1 := hP q (by omega)
  unfold nxt
  cases r with
  | false =>
    simp only [edg, Bool.false_eq_true, if_false] at *
    by_cases hx : i + 1 ≤ n
    · have e2 := hP (i + 1) hx
      rw [if_pos hx]
      rcases h with h | h
      · have := h.2 (i + 1) (by omega); omega
      · have := h.2 (i + 1) (by omega); omega
    · rw [if_neg hx]
      rcases h with h | h <;> omega
  | true =>
    simp only [edg, if_true] at *
    by_cases hx : 1 ≤ i
    · have e2 := hP (i - 1) (by omega)
      rcases h with h | h
      · have := h.2 (i - 1) (by omega); omega
      · have := h.2 (i - 1) (by omega); omega
    · rcases h with h | h <;> omega
theorem left_is (n : Nat) (r : Bool) (P : Nat → Int) (hP : ∀ i, i ≤ n → P i = edg n r i) (i : Nat) (hi : i ≤ n) : mvF onLeft betterLeft P i (n + 1) 0 i = lst n r i := by
  have h := mvL P i (n + 1) 0 i (Or.inl ⟨rfl, fun j hj => absurd hj (by omega)⟩)
  have hm := mvF_le onLeft betterLeft P i (n + 1) (n + 1) 0 i (by omega) (by omega)
  revert h hm
  generalize mvF onLeft betterLeft P i (n + 1) 0 i = q
  intro h hm
  have e0 := hP i hi
  have e1 := hP q (by omega)
  unfold lst
  cases r with
  | true =>
    simp only [edg, if_true] at *
    by_cases hx : i + 1 ≤ n
    · have e2 := hP (i + 1) hx
      rw [if_pos hx]
      rcases h with h | h
      · have := h.2 (i + 1) (by omega); omega
      · have := h.2 (i + 1) (by omega); omega
    · rw [if_neg hx]
      rcases h with h | h <;> omega
  | false =>
    simp only [edg, Bool.false_eq_true, if_false] at *
    by_cases hx : 1 ≤ i
    · have e2 := hP (i - 1) (by omega)
      rcases h with h | h
      · have := h.2 (i - 1) (by omega); omega
      · have := h.2 (i - 1) (by omega); omega
    · rcases h with h | h <;> omega
theorem odd_lvl (r : Bool) : odd (lvl r) = r := by cases r <;> decide
theorem clamp_rep (n : Nat) (r : Bool) : (List.replicate n (lvl r)).map clamp = List.replicate n (lvl r) := by
  rw [List.map_replicate]
  cases r <;> rfl
theorem vis_rep (n : Nat) (r : Bool) (hn : n ≤ 100) (p : Nat) (hp : p < n) : rd (vis (List.replicate n (lvl r))) (p : Int) = if r = true then (n : Int) - 1 - (p : Int) else (p : Int) := by
  cases r with
  | true => rw [show lvl true = 1 from rfl, vis_same 1 (by omega) (by omega) (by omega) n, rd_iota_rev n p hp, if_pos rfl]
  | false =>
    rw [show lvl false = 0 from rfl, vis_even (List.replicate n 0) (fun x hx => by rw [List.mem_replicate] at hx; omega) (fun x hx => by rw [List.mem_replicate] at hx; omega), List.length_replicate, rd_iota n p hp]
    rfl
section
variable (n : Nat) (r : Bool) (a : List Int) (hn : n ≤ 100) (ha : plc (List.replicate n (-1)) 0 (vis (List.replicate n (lvl r))) = some a)
include hn ha
theorem a_rd (p : Int) (h0 : 0 ≤ p) (h1 : p < (n : Int)) : rd a p = if r = true then (n : Int) - 1 - p else p := by
  have hv : (vis (List.replicate n (lvl r))).length = n := by rw [vis_length, List.length_replicate]
  have ha' : plc (List.replicate (vis (List.replicate n (lvl r))).length (-1)) 0 (vis (List.replicate n (lvl r))) = some a := by rw [hv]; exact ha
  obtain ⟨_, h2, _⟩ := inv_facts _ a ha'
  rw [hv] at h2
  cases r with
  | false =>
    have h3 := h2 p.toNat (by omega)
    rw [vis_rep n false hn p.toNat (by omega)] at h3
    simp only [Bool.false_eq_true, if_false] at h3 ⊢
    rw [show ((p.toNat : Nat) : Int) = p by omega] at h3
    exact h3
  | true =>
    have h3 := h2 ((n : Int) - 1 - p).toNat (by omega)
    rw [vis_rep n true hn _ (by omega)] at h3
    simp only [if_true] at h3 ⊢
    rw [show (((n : Int) - 1 - p).toNat : Int) = (n : Int) - 1 - p by omega] at h3
    rw [show (n : Int) - 1 - ((n : Int) - 1 - p) = p by omega] at h3
    exact h3
theorem stp_is (i : Nat) (hi : i ≤ n) : stp1 (List.replicate n (lvl r)) a (lvl r) (i : Int) = edg n r i ∧ stp2 (List.replicate n (lvl r)) a (lvl r) (i : Int) = edg n r i := by
  have ht : trn (List.replicate n (lvl r)) (lvl r) (i : Int) = false := by
    unfold trn
    rw [List.length_replicate]
    by_cases h : 0 ≤ (i : Int) ∧ (i : Int) < (n : Int)
    · rw [rd_rep n _ _ h.1 h.2]; simp
    · rw [decide_eq_false h]; rfl
  have hA : ahd (List.replicate n (lvl r)) a (lvl r) (i : Int) = edg n r i := by
    unfold ahd edg frn
    rw [List.length_replicate, odd_lvl]
    by_cases h : (i : Int) < (n : Int)
    · rw [if_pos h, rd_rep n _ _ (by omega) h, odd_lvl, a_rd n r a hn ha _ (by omega) h]
      cases r <;> simp <;> omega
    · rw [if_neg h]
      cases r <;> simp <;> omega
  have hB : bhd (List.replicate n (lvl r)) a (lvl r) (i : Int) = edg n r i := by
    unfold bhd edg bak
    rw [List.length_replicate, odd_lvl]
    by_cases h : 0 < (i : Int)
    · rw [if_pos h, rd_rep n _ _ (by omega) (by omega), odd_lvl, a_rd n r a hn ha _ (by omega) (by omega)]
      cases r <;> simp <;> omega
    · rw [if_neg h]
      cases r <;> simp <;> omega
  unfold stp1 stp2
  rw [ht, if_neg (by simp), if_neg (by simp)]
  exact ⟨hA, hB⟩
theorem l1_loop : ∀ (d i k : Nat), i + d = n + 1 → 2 * d + 400 < k →
    naskhlaw44_CaretPlain.l1 k r (n : Int) (lvl r) (List.replicate n (lvl r)) (stopsL (List.replicate n (lvl r)) a (lvl r) (n + 1)) ((n : Int) + 1) (i : Int) = some true := by
  have hl : (List.replicate n (lvl r)).length = n := List.length_replicate
  have hL := stopsL_length (List.replicate n (lvl r)) a (lvl r) (n + 1)
  have ha2 : plc (List.replicate (List.replicate n (lvl r)).length (-1)) 0 (vis ((List.replicate n (lvl r)).map clamp)) = some a := by rw [hl, clamp_rep]; exact ha
  intro d
  induction d with
  | zero =>
    intro i k hi hk
    obtain ⟨k, rfl⟩ : ∃ m, k = m + 1 := ⟨k - 1, by omega⟩
    rw [naskhlaw44_CaretPlain.l1, if_neg (by omega), haw k (by omega)]
    rfl
  | succ d ih =>
    intro i k hi hk
    obtain ⟨k, rfl⟩ : ∃ m, k = m + 1 := ⟨k - 1, by omega⟩
    obtain ⟨k, rfl⟩ : ∃ m, k = m + 1 := ⟨k - 1, by omega⟩
    have r1 := stopsL_rd (List.replicate n (lvl r)) a (lvl r) (n + 1) i (by omega)
    have step := ih (i + 1) k (by omega) (by omega)
    rw [Int.natCast_add] at step
    obtain ⟨s1, s2⟩ := stp_is n r a hn ha i (by omega)
    have mR := moveRight_f (List.replicate n (lvl r)) a (lvl r) (i : Int) (by omega) ha2 k (by omega)
    have mL := moveLeft_f (List.replicate n (lvl r)) a (lvl r) (i : Int) (by omega) ha2 k (by omega)
    rw [hl, if_pos ⟨by omega, by omega⟩, Int.toNat_natCast] at mR mL
    rw [right_is n r _ (fun j hj => (stp_is n r a hn ha j hj).1) i (by omega)] at mR
    rw [left_is n r _ (fun j hj => (stp_is n r a hn ha j hj).1) i (by omega)] at mL
    have key : ∀ x12 x13 x14 : Int, x12 = edg n r i → x13 = (nxt n r i : Int) → x14 = (lst n r i : Int) → naskhlaw44_CaretPlain.j3 (k + 1) r (n : Int) (lvl r) (List.replicate n (lvl r)) (i : Int) x12 x13 x14 (stopsL (List.replicate n (lvl r)) a (lvl r) (n + 1)) ((n : Int) + 1) (i : Int) (stp1 (List.replicate n (lvl r)) a (lvl r) (i : Int)) (stp2 (List.replicate n (lvl r)) a (lvl r) (i : Int)) = some true := by
      intro x12 x13 x14 e1 e2 e3
      rw [naskhlaw44_CaretPlain.j3, s1, s2, e1, e2, e3, if_pos rfl, if_pos rfl, mR, Option.bind_some, if_pos rfl, mL, Option.bind_some, if_pos rfl, w64 (by omega) (by omega)]
      exact step
    rw [naskhlaw44_CaretPlain.l1, if_pos (by omega), if_pos (by omega), if_pos (by omega), r1]
    dsimp only
    rw [w64 (x := (n : Int) - (i : Int)) (by omega) (by omega), w64 (x := (i : Int) - 1) (by omega) (by omega), w64 (x := (i : Int) + 1) (by omega) (by omega)]
    by_cases hr : r = true
    · rw [if_pos hr]
      refine key _ _ _ ?_ ?_ ?_
      · unfold edg; rw [if_pos hr]
      · unfold nxt mx; rw [if_pos hr]; split <;> omega
      · unfold lst mn; rw [if_pos hr]; split <;> split <;> omega
    · rw [if_neg hr]
      refine key _ _ _ ?_ ?_ ?_
      · unfold edg; rw [if_neg hr]
      · unfold nxt mn; rw [if_neg hr]; split <;> split <;> omega
      · unfold lst mx; rw [if_neg hr]; split <;> omega
end
theorem l0_loop (n : Nat) (r : Bool) (hn : n ≤ 100) : ∀ (d i k : Nat), i + d = n → d + 900 < k →
    naskhlaw44_CaretPlain.l0 k r (n : Int) (lvl r) (List.replicate i (lvl r) ++ List.replicate d 0) (n : Int) (i : Int) = some true := by
  intro d
  induction d with
  | zero =>
    intro i k hi hk
    obtain ⟨k, rfl⟩ : ∃ m, k = m + 1 := ⟨k - 1, by omega⟩
    obtain rfl : i = n := by omega
    have hl : (List.replicate i (lvl r)).length = i := List.length_replicate
    obtain ⟨a, ha⟩ := inv_some (List.replicate i (lvl r))
    have ha' := ha
    rw [hl, clamp_rep] at ha'
    have hs := stops_f (List.replicate i (lvl r)) a (lvl r) (by omega) ha k (by omega)
    rw [hl] at hs
    rw [naskhlaw44_CaretPlain.l0, if_neg (by omega), List.replicate_zero, List.append_nil, hs, Option.bind_some, stopsL_length, w64 (by omega) (by omega), if_pos (by omega)]
    exact l1_loop i r a hn ha' (i + 1) 0 k (by omega) (by omega)
  | succ d ih =>
    intro i k hi hk
    obtain ⟨k, rfl⟩ : ∃ m, k = m + 1 := ⟨k - 1, by omega⟩
    have step := ih (i + 1) k (by omega) (by omega)
    have e : (List.replicate i (lvl r) ++ List.replicate (d + 1) 0).set i (lvl r) = List.replicate (i + 1) (lvl r) ++ List.replicate d 0 := by
      rw [List.replicate_succ (n := d), List.replicate_succ' (n := i)]
      have := set_at (List.replicate i (lvl r)) 0 (lvl r) (List.replicate d 0)
      rw [List.length_replicate] at this
      rw [this]
      simp
    rw [Int.natCast_add, ← e] at step
    rw [naskhlaw44_CaretPlain.l0, if_pos (by omega), if_pos (by omega), if_pos (by rw [List.length_append, List.length_replicate, List.length_replicate]; omega), w64 (by omega) (by omega)]
    exact step
theorem CaretPlain_ok : naskhlaw44_CaretPlain.Pure := by
  intro a0 r h1
  refine ⟨2001, ?_⟩
  have w1 := wf8 h1
  have e1 : wrap64 (Int.tmod a0 60) = ((a0 % 60).toNat : Int) := by
    rw [Int.tmod_eq_emod_of_nonneg w1.1, w64 (by omega) (by omega)]; omega
  obtain ⟨n, hm⟩ : ∃ m : Nat, (a0 % 60).toNat = m := ⟨_, rfl⟩
  have hn : n ≤ 59 := by omega
  have key : naskhlaw44_CaretPlain.j0 2001 r (n : Int) (lvl r) = some true := by
    rw [naskhlaw44_CaretPlain.j0, if_pos (by omega), Int.toNat_natCast, if_pos (by omega), Option.bind_some, List.length_replicate]
    have := l0_loop n r (by omega) n 0 2000 (by omega) (by omega)
    rw [List.replicate_zero, List.nil_append] at this
    exact this
  unfold naskhlaw44_CaretPlain.f
  rw [e1, hm]
  by_cases hr : r = true
  · rw [if_pos hr]; subst hr; exact key
  · rw [if_neg hr]
    have : r = false := by simpa using hr
    subst this; exact key
end Go.Proofs.Ytmkgihmchkphaaa.PureCaretPlainAux
namespace Go.Proofs.Ytmkgihmchkphaaa.Pure
open Go.Proofs.Ytmkgihmchkphaaa.PCaretPlain
theorem CaretPlain : naskhlaw44_CaretPlain.Pure := PureCaretPlainAux.CaretPlain_ok
end Go.Proofs.Ytmkgihmchkphaaa.Pure
