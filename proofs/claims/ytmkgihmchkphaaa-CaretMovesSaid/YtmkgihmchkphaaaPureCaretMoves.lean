/- The caret never goes back: to the left its edge is less, to the right greater, or it stays where it is. No condition. -/
import Derived.Test.YtmkgihmchkphaaaPCaretMovesx10
namespace Go.Proofs.Ytmkgihmchkphaaa.PureCaretMovesAux
open Go.RowKit Go.Proofs.Ytmkgihmchkphaaa.PCaretMoves Go.Proofs.YtmkgihmchkphaaaW.PrintWords Go.Proofs.YtmkgihmchkphaaaW.PrintLast

set_option linter.unusedSimpArgs false
set_option linter.unusedVariables false
theorem w64 {x : Int} (h0 : -9223372036854775808 ≤ x) (h1 : x ≤ 9223372036854775807) : wrap64 x = x := by unfold wrap64; omega
theorem rd_at (pre : List Int) (x : Int) (rest : List Int) : rd (pre ++ x :: rest) (pre.length : Int) = x := by simp [rd]
theorem rd_nat (l : List Int) (i : Nat) (h : i < l.length) : rd l (i : Int) = l[i] := by simp [rd, h]
theorem wf64 {x : Int} (h : (Lit.int .i64 x).wf = true) : -9223372036854775808 ≤ x ∧ x ≤ 9223372036854775807 := by
  simpa [Lit.wf, IntKind.min, IntKind.max, IntKind.signed, IntKind.bits] using h
theorem bsome {P : Prop} [Decidable P] {b : Bool} (h : b = true ↔ P) : some b = some (decide P) := by
  congr 1; rw [Bool.eq_iff_iff]; simpa using h
theorem u16w {x : Int} (h0 : 0 ≤ x) (h1 : x ≤ 65535) : IntKind.u16.wrap x = x := by
  simp [IntKind.wrap, IntKind.min, IntKind.max, IntKind.signed, IntKind.bits]; omega

theorem wraps_i64' (n : Int) (h₀ : 0 ≤ n) (h₁ : n < 2 ^ 62) : IntKind.i64.wrap n = n := by rw [IntKind.wrap_i64]; omega
theorem and_mask (x : Int) (i : Nat) (hi : i ≤ 62) (h0 : 0 ≤ x) (h1 : x < 2 ^ 62) : Go.bits .and .i64 x (2 ^ i - 1) = x % 2 ^ i := bits_mask .i64 62 (by decide) wraps_i64' i hi x h0 h1

theorem i64_and1 (n : Int) : Go.bits .and .i64 n 1 = n % 2 := by
  have h1 : (BitVec.ofInt 64 1).toNat = 2 ^ 1 - 1 := by decide
  have key : (BitVec.ofInt 64 n &&& BitVec.ofInt 64 1).toNat = (n % ((2 ^ 64 : Nat) : Int)).toNat % 2 ^ 1 := by
    rw [BitVec.toNat_and, BitVec.toNat_ofInt, h1, Nat.and_two_pow_sub_one_eq_mod]
  show IntKind.i64.wrap ((BitVec.ofInt 64 n &&& BitVec.ofInt 64 1).toNat : Nat) = n % 2
  rw [key, IntKind.wrap_i64]
  omega

def clamp (n : Int) : Int := mn (mx n 0) 126
theorem clamp_ge (n : Int) : 0 ≤ clamp n := by unfold clamp mn mx; repeat' split <;> omega
theorem clamp_le (n : Int) : clamp n ≤ 126 := by unfold clamp mn mx; repeat' split <;> omega
theorem set_at (a : List Int) (y v : Int) (b : List Int) : (a ++ y :: b).set a.length v = a ++ v :: b := by simp
/-- Levels that are not below 0, and not too great. -/
def Lev (l : List Int) : Prop := ∀ x ∈ l, 0 ≤ x ∧ x ≤ 126
theorem lev_map (l : List Int) : Lev (l.map clamp) := by
  intro x hx
  obtain ⟨y, _, rfl⟩ := List.mem_map.mp hx
  exact ⟨clamp_ge y, clamp_le y⟩
theorem and1 (x : Int) (h : 0 ≤ x) (h1 : x ≤ 126) : Go.bits .and .i64 x 1 = x % 2 := by
  have := and_mask x 1 (by decide) h (by omega)
  simpa using this
/-- The greatest level, and the least odd one, of what is behind. -/
def bnd : Int → Int → List Int → Int × Int
  | m, o, [] => (m, o)
  | m, o, x :: rest => bnd (mx m x) (if x % 2 = 1 ∧ (o = 0 ∨ x < o) then x else o) rest
/-- The greatest level. -/
def most : Int → List Int → Int
  | m, [] => m
  | m, x :: rest => most (mx m x) rest
theorem bnd_most : ∀ (l : List Int) (m o : Int), (bnd m o l).1 = most m l
  | [], _, _ => rfl
  | x :: rest, m, o => by rw [bnd, most, bnd_most rest]
theorem most_le : ∀ (l : List Int) (m : Int), Lev l → m ≤ 126 → most m l ≤ 126
  | [], _, _, h => h
  | x :: rest, m, hL, h => by
    rw [most]
    refine most_le rest _ (fun y hy => hL y (by simp [hy])) ?_
    have := hL x (by simp)
    unfold mx; split <;> omega
theorem most_ge : ∀ (l : List Int) (m : Int), m ≤ most m l
  | [], _ => by rw [most]; exact Int.le_refl _
  | x :: rest, m => by
    rw [most]
    have h1 := most_ge rest (mx m x)
    have h2 : m ≤ mx m x := by unfold mx; split <;> omega
    omega
/-- What the second of 'bnd' says. -/
theorem bnd_odd : ∀ (l : List Int) (m o : Int), Lev l → 0 ≤ o → ∀ level : Int, ((0 < (bnd m o l).2 ∧ (bnd m o l).2 ≤ level) ↔ ((0 < o ∧ o ≤ level) ∨ ∃ x ∈ l, x % 2 = 1 ∧ x ≤ level)) ∧ 0 ≤ (bnd m o l).2
  | [], m, o, _, ho, level => by simp [bnd, ho]
  | x :: rest, m, o, hL, ho, level => by
    rw [bnd]
    have hx := hL x (by simp)
    have hL' : Lev rest := fun y hy => hL y (by simp [hy])
    by_cases h : x % 2 = 1 ∧ (o = 0 ∨ x < o)
    · rw [if_pos h]
      obtain ⟨h1, h2⟩ := bnd_odd rest (mx m x) x hL' hx.1 level
      refine ⟨h1.trans ⟨?_, ?_⟩, h2⟩
      · rintro (h3 | ⟨y, hy, h3⟩)
        · exact Or.inr ⟨x, by simp, h.1, h3.2⟩
        · exact Or.inr ⟨y, by simp [hy], h3⟩
      · rintro (h3 | ⟨y, hy, h3⟩)
        · left; have := h.2; omega
        · rcases List.mem_cons.mp hy with rfl | hy
          · left; omega
          · exact Or.inr ⟨y, hy, h3⟩
    · rw [if_neg h]
      obtain ⟨h1, h2⟩ := bnd_odd rest (mx m x) o hL' ho level
      refine ⟨h1.trans ⟨?_, ?_⟩, h2⟩
      · rintro (h3 | ⟨y, hy, h3⟩)
        · exact Or.inl h3
        · exact Or.inr ⟨y, by simp [hy], h3⟩
      · rintro (h3 | ⟨y, hy, h3⟩)
        · exact Or.inl h3
        · rcases List.mem_cons.mp hy with e | hy
          · subst e
            left
            have h4 := h3.1
            have h5 := h3.2
            have h6 : ¬ (o = 0 ∨ y < o) := fun hh => h ⟨h4, hh⟩
            clear h1 h h3 h4
            omega
          · exact Or.inr ⟨y, hy, h3⟩
/-- The order in which places are seen. -/
def vis (lv : List Int) : List Int := if 0 < (bnd 0 0 lv).2 then order_Visual.down lv ((bnd 0 0 lv).1 - (bnd 0 0 lv).2 + 1).toNat (bnd 0 0 lv).1 (order_Visual.iota lv.length) else order_Visual.iota lv.length

theorem held_loop : ∀ (rest pre : List Int) (k : Nat), rest.length < k → pre.length + rest.length ≤ 9223372036854775806 →
    order_held.l0 k (pre.map clamp ++ List.replicate rest.length 0) (pre ++ rest) ((pre ++ rest).length : Int) (pre.length : Int) = some ((pre ++ rest).map clamp) := by
  intro rest
  induction rest with
  | nil =>
    intro pre k hk hm
    obtain ⟨k, rfl⟩ : ∃ m, k = m + 1 := ⟨k - 1, by omega⟩
    rw [order_held.l0, if_neg (by simp)]
    simp
  | cons x rest ih =>
    intro pre k hk hm
    obtain ⟨k, rfl⟩ : ∃ m, k = m + 1 := ⟨k - 1, by omega⟩
    rw [List.length_cons] at hk hm
    have hlen : (pre ++ x :: rest).length = pre.length + rest.length + 1 := by simp; omega
    have step := ih (pre ++ [x]) k (by omega) (by simp; omega)
    simp only [List.append_assoc, List.cons_append, List.nil_append, List.length_append, List.length_cons, List.length_nil, Nat.zero_add, Int.natCast_add, Int.natCast_one, List.map_append, List.map_cons, List.map_nil] at step
    have hm0 : (pre.map clamp).length = pre.length := List.length_map _
    rw [order_held.l0, if_pos (by omega), if_pos (by omega), if_pos (by omega), if_pos (by simp; omega), rd_at, Int.toNat_natCast, List.length_cons, List.replicate_succ]
    have hs := set_at (pre.map clamp) 0 (mn (mx x 0) 126) (List.replicate rest.length 0)
    rw [hm0] at hs
    rw [hs, w64 (by omega) (by omega)]
    have e : ((pre ++ x :: rest).length : Int) = (pre.length : Int) + ((rest.length : Int) + 1) := by omega
    rw [e]
    simp only [List.map_append, List.map_cons]
    exact step
theorem held_f (l : List Int) (k : Nat) (hk : l.length < k) (hl : l.length ≤ 35184372088832) : order_held.f k l = some (l.map clamp) := by
  unfold order_held.f
  rw [if_pos (by omega), if_pos (by omega), Int.toNat_natCast]
  have := held_loop l [] k hk (by simp; omega)
  simpa using this
theorem bounds_loop : ∀ (rest pre : List Int) (m o : Int) (k : Nat), Lev rest → rest.length < k → pre.length + rest.length ≤ 9223372036854775806 →
    order_bounds.l0 k m o (pre ++ rest) ((pre ++ rest).length : Int) (pre.length : Int) = some (bnd m o rest) := by
  intro rest
  induction rest with
  | nil =>
    intro pre m o k hL hk hm
    obtain ⟨k, rfl⟩ : ∃ m, k = m + 1 := ⟨k - 1, by omega⟩
    rw [order_bounds.l0, if_neg (by simp)]
    rfl
  | cons x rest ih =>
    intro pre m o k hL hk hm
    obtain ⟨k, rfl⟩ : ∃ m, k = m + 1 := ⟨k - 1, by omega⟩
    rw [List.length_cons] at hk hm
    have hlen : (pre ++ x :: rest).length = pre.length + rest.length + 1 := by simp; omega
    have hx := hL x (by simp)
    have step := fun m o => ih (pre ++ [x]) m o k (fun y hy => hL y (by simp [hy])) (by omega) (by simp; omega)
    simp only [List.append_assoc, List.cons_append, List.nil_append, List.length_append, List.length_cons, List.length_nil, Nat.zero_add, Int.natCast_add, Int.natCast_one] at step
    have e : ((pre ++ x :: rest).length : Int) = (pre.length : Int) + ((rest.length : Int) + 1) := by omega
    rw [order_bounds.l0, if_pos (by omega), if_pos (by omega), if_pos (by omega), rd_at, and1 x hx.1 hx.2, w64 (by omega) (by omega), e, bnd]
    by_cases h1 : x % 2 = 1
    · rw [if_pos h1]
      by_cases h2 : o = 0
      · rw [if_pos h2, if_pos ⟨h1, Or.inl h2⟩, step]
      · rw [if_neg h2]
        by_cases h3 : x < o
        · rw [if_pos h3, if_pos ⟨h1, Or.inr h3⟩, step]
        · rw [if_neg h3, if_neg (by omega), step]
    · rw [if_neg h1, if_neg (by omega), step]
theorem bounds_f (l : List Int) (k : Nat) (hL : Lev l) (hk : l.length < k) (hl : l.length ≤ 35184372088832) : order_bounds.f k l = some (bnd 0 0 l) := by
  unfold order_bounds.f
  have := bounds_loop l [] 0 0 k hL hk (by simp; omega)
  simpa using this
theorem visual_f (l : List Int) (k : Nat) (hk : l.length < k) (hl : l.length ≤ 35184372088832) : order_Visual.f k l = some (vis (l.map clamp)) := by
  unfold order_Visual.f
  rw [held_f l k hk hl, Option.bind_some, if_pos ⟨by simp, hl⟩, bounds_f _ k (lev_map l) (by simpa using hk) (by simpa using hl), Option.bind_some, if_pos (by rw [bnd_most]; have := most_le (l.map clamp) 0 (lev_map l) (by omega); omega)]
  simp only [vis, List.length_map]


/-- Where each number stands; none: the numbers are no order. -/
def plc : List Int → Nat → List Int → Option (List Int)
  | out, _, [] => some out
  | out, i, v :: rest => if 0 ≤ v ∧ v < (out.length : Int) ∧ rd out v < 0 then plc (out.set v.toNat (i : Int)) (i + 1) rest else none
theorem places_loop (l : List Int) (hm : l.length ≤ 35184372088832) : ∀ (rest pre out : List Int) (k : Nat), l = pre ++ rest → rest.length < k → out.length = l.length →
    order_places.l0 k l out l (l.length : Int) (pre.length : Int) = some (match plc out pre.length rest with | some o => (o, true) | none => ([], false)) := by
  intro rest
  induction rest with
  | nil =>
    intro pre out k hl hk ho
    obtain ⟨k, rfl⟩ : ∃ m, k = m + 1 := ⟨k - 1, by omega⟩
    rw [order_places.l0, if_neg (by rw [hl]; simp)]
    rfl
  | cons v rest ih =>
    intro pre out k hl hk ho
    obtain ⟨k, rfl⟩ : ∃ m, k = m + 1 := ⟨k - 1, by omega⟩
    rw [List.length_cons] at hk
    have hlen : l.length = pre.length + rest.length + 1 := by rw [hl]; simp; omega
    have hrd : rd l (pre.length : Int) = v := by rw [hl]; exact rd_at pre v rest
    have step := fun out ho => ih (pre ++ [v]) out k (by rw [hl]; simp) (by omega) ho
    simp only [List.length_append, List.length_cons, List.length_nil, Nat.zero_add, Int.natCast_add, Int.natCast_one] at step
    rw [order_places.l0, if_pos (by omega), if_pos (by omega), if_pos (by omega), hrd, plc]
    by_cases h1 : v < 0
    · rw [if_pos h1, if_neg (by omega)]
    · rw [if_neg h1]
      by_cases h2 : (l.length : Int) ≤ v
      · rw [if_pos h2, if_neg (by omega)]
      · rw [if_neg h2, if_pos (by omega), if_pos (by omega)]
        by_cases h3 : 0 ≤ rd out v
        · rw [if_pos h3, if_neg (by omega)]
        · rw [if_neg h3, if_pos (by omega), w64 (by omega) (by omega), step _ (by rw [List.length_set]; exact ho)]
theorem places_f (l : List Int) (k : Nat) (hk : l.length < k) (hl : l.length ≤ 35184372088832) :
    order_places.f k l = some (match plc (List.replicate l.length (-1)) 0 l with | some o => (o, true) | none => ([], false)) := by
  unfold order_places.f slices_Repeat_int_int.f
  rw [if_pos (show ([(-1)] : List Int).length = 1 from rfl), if_pos (by omega), if_pos (by omega), Option.bind_some]
  have := places_loop l hl l [] (List.replicate l.length (-1)) k rfl hk (by simp)
  simpa [rd] using this
theorem rd_set (out : List Int) (v w : Int) (x : Int) (hv : 0 ≤ v ∧ v < (out.length : Int)) (hw : 0 ≤ w) : rd (out.set v.toNat x) w = if w = v then x else rd out w := by
  unfold rd
  simp only [List.getD_eq_getElem?_getD, List.getElem?_set]
  by_cases h : w = v
  · subst h; rw [if_pos rfl, if_pos rfl, if_pos (by omega)]; rfl
  · rw [if_neg h, if_neg (by omega)]
/-- Numbers that are all unlike, and all in, are an order. -/
theorem plc_some : ∀ (rest pre out : List Int), (pre ++ rest).Nodup → (∀ v ∈ rest, 0 ≤ v ∧ v < (out.length : Int)) → (∀ v, 0 ≤ v → (0 ≤ rd out v → v ∈ pre ∨ (out.length : Int) ≤ v)) → ∃ o, plc out pre.length rest = some o
  | [], pre, out, _, _, _ => ⟨out, rfl⟩
  | v :: rest, pre, out, hd, hb, hs => by
    have hv := hb v (by simp)
    have hnp : v ∉ pre := by
      intro h
      rw [List.nodup_append] at hd
      exact hd.2.2 v h v (by simp) rfl
    have hneg : rd out v < 0 := by
      apply Classical.byContradiction
      intro h
      rcases hs v hv.1 (by omega) with h1 | h1
      · exact hnp h1
      · omega
    rw [plc, if_pos ⟨hv.1, hv.2, hneg⟩]
    have h := plc_some rest (pre ++ [v]) (out.set v.toNat (pre.length : Int)) (by simpa using hd) (by rw [List.length_set]; exact fun w hw => hb w (by simp [hw])) (fun w hw h => by
      rw [List.length_set]
      rw [rd_set out v w _ hv hw] at h
      by_cases e : w = v
      · left; simp [e]
      · rw [if_neg e] at h
        rcases hs w hw h with h1 | h1
        · left; simp [h1]
        · right; exact h1)
    simpa using h

theorem iota_mem (n : Nat) (p : Int) (h : p ∈ order_Visual.iota n) : 0 ≤ p ∧ p < (n : Int) := by
  simp only [order_Visual.iota, List.mem_map, List.mem_range] at h
  obtain ⟨i, hi, rfl⟩ := h
  omega
theorem iota_length (n : Nat) : (order_Visual.iota n).length = n := by simp [order_Visual.iota]
theorem turnA_length (q : Int → Bool) : ∀ (rest acc : List Int), (order_Visual.turnA q acc rest).length = acc.length + rest.length
  | [], acc => by simp [order_Visual.turnA]
  | x :: t, acc => by
    rw [order_Visual.turnA]
    split
    · rw [turnA_length q t (x :: acc)]; simp; omega
    · rw [List.length_append, List.length_cons, turnA_length q t []]; simp
theorem turnA_perm (q : Int → Bool) : ∀ (rest acc : List Int), (order_Visual.turnA q acc rest).Perm (acc ++ rest)
  | [], acc => by simp [order_Visual.turnA]
  | x :: t, acc => by
    rw [order_Visual.turnA]
    split
    · refine (turnA_perm q t (x :: acc)).trans ?_
      exact List.perm_middle.symm
    · refine List.Perm.append_left acc ?_
      exact List.Perm.cons x (by simpa using turnA_perm q t [])
theorem down_perm (lv : List Int) : ∀ (k : Nat) (level : Int) (o : List Int), (order_Visual.down lv k level o).Perm o
  | 0, _, o => List.Perm.refl o
  | k + 1, level, o => by
    rw [order_Visual.down]
    exact (down_perm lv k _ _).trans (by simpa using turnA_perm (fun p => decide (level ≤ rd lv p)) o [])
theorem vis_perm (lv : List Int) : (vis lv).Perm (order_Visual.iota lv.length) := by
  unfold vis
  split
  · exact down_perm _ _ _ _
  · exact List.Perm.refl _
theorem iota_nodup (n : Nat) : (order_Visual.iota n).Nodup := by
  unfold order_Visual.iota
  rw [List.nodup_iff_pairwise_ne, List.pairwise_map]
  exact (List.nodup_range (n := n)).imp (fun h e => h (by omega))
theorem vis_length (lv : List Int) : (vis lv).length = lv.length := by rw [(vis_perm lv).length_eq, iota_length]
theorem vis_mem (lv : List Int) (p : Int) (h : p ∈ vis lv) : 0 ≤ p ∧ p < (lv.length : Int) := iota_mem _ _ ((vis_perm lv).mem_iff.mp h)
theorem vis_nodup (lv : List Int) : (vis lv).Nodup := (vis_perm lv).nodup_iff.mpr (iota_nodup _)

theorem vis_plc (lv : List Int) : ∃ o, plc (List.replicate lv.length (-1)) 0 (vis lv) = some o := by
  have := plc_some (vis lv) [] (List.replicate lv.length (-1)) (by simpa using vis_nodup lv) (fun v hv => by rw [List.length_replicate]; exact vis_mem lv v hv) (fun v h0 h1 => by
    right
    rw [List.length_replicate]
    apply Classical.byContradiction
    intro h
    have : rd (List.replicate lv.length (-1)) v = -1 := by
      unfold rd
      rw [List.getD_eq_getElem?_getD, List.getElem?_replicate, if_pos (by omega)]; rfl
    omega)
  simpa using this

theorem plc_range : ∀ (rest out : List Int) (i : Nat) (o : List Int), plc out i rest = some o → (∀ v ∈ rest, 0 ≤ v ∧ v < (out.length : Int)) ∧ o.length = out.length
  | [], out, i, o, h => by rw [plc] at h; obtain rfl := Option.some.inj h; exact ⟨fun v hv => by simp at hv, rfl⟩
  | v :: rest, out, i, o, h => by
    rw [plc] at h
    by_cases hc : 0 ≤ v ∧ v < (out.length : Int) ∧ rd out v < 0
    · rw [if_pos hc] at h
      obtain ⟨h1, h2⟩ := plc_range rest _ _ o h
      rw [List.length_set] at h1 h2
      refine ⟨fun w hw => ?_, h2⟩
      rcases List.mem_cons.mp hw with e | hw
      · subst e; exact ⟨hc.1, hc.2.1⟩
      · exact h1 w hw
    · rw [if_neg hc] at h; cases h
/-- How many places are not filled. -/
def neg (out : List Int) : Nat := out.countP fun x => decide (x < 0)
theorem neg_set (out : List Int) (v : Int) (x : Int) (hv : 0 ≤ v ∧ v < (out.length : Int)) (hn : rd out v < 0) (hx : 0 ≤ x) : neg (out.set v.toNat x) + 1 = neg out := by
  have hlt : v.toNat < out.length := by omega
  have hr : rd out v = out[v.toNat] := by unfold rd; simp [hlt]
  rw [hr] at hn
  have e : out = out.take v.toNat ++ out[v.toNat] :: out.drop (v.toNat + 1) := by rw [← List.drop_eq_getElem_cons hlt, List.take_append_drop]
  unfold neg
  rw [List.set_eq_take_append_cons_drop, if_pos hlt]
  conv => rhs; rw [e]
  rw [List.countP_append, List.countP_append, List.countP_cons, List.countP_cons, if_neg (by simp; omega), if_pos (by simp; omega)]
  omega
theorem plc_neg : ∀ (rest out : List Int) (i : Nat) (o : List Int), plc out i rest = some o → neg o + rest.length = neg out
  | [], out, i, o, h => by rw [plc] at h; obtain rfl := Option.some.inj h; rfl
  | v :: rest, out, i, o, h => by
    rw [plc] at h
    by_cases hc : 0 ≤ v ∧ v < (out.length : Int) ∧ rd out v < 0
    · rw [if_pos hc] at h
      have h1 := plc_neg rest _ _ o h
      have h2 := neg_set out v (i : Int) ⟨hc.1, hc.2.1⟩ hc.2.2 (by omega)
      rw [List.length_cons]
      omega
    · rw [if_neg hc] at h; cases h
theorem neg_zero (o : List Int) (h : neg o = 0) (j : Int) (h0 : 0 ≤ j ∧ j < (o.length : Int)) : 0 ≤ rd o j := by
  unfold neg at h
  rw [List.countP_eq_zero] at h
  have hlt : j.toNat < o.length := by omega
  have hr : rd o j = o[j.toNat] := by unfold rd; simp [hlt]
  rw [hr]
  have := h o[j.toNat] (List.getElem_mem hlt)
  simpa using this
theorem plc_full (l o : List Int) (h : plc (List.replicate l.length (-1)) 0 l = some o) : o.length = l.length ∧ ∀ j : Int, 0 ≤ j → j < (l.length : Int) → 0 ≤ rd o j := by
  obtain ⟨_, h2⟩ := plc_range _ _ _ _ h
  rw [List.length_replicate] at h2
  refine ⟨h2, fun j h0 h1 => neg_zero o ?_ j ⟨h0, by omega⟩⟩
  have h3 := plc_neg _ _ _ _ h
  have h4 : neg (List.replicate l.length (-1)) = l.length := by unfold neg; simp [List.countP_replicate]
  omega
theorem rdB_set (s : List Bool) (v w : Int) (hv : 0 ≤ v ∧ v < (s.length : Int)) (hw : 0 ≤ w) : rdOf false (s.set v.toNat true) w = if w = v then true else rdOf false s w := by
  unfold rdOf
  simp only [List.getD_eq_getElem?_getD, List.getElem?_set]
  by_cases h : w = v
  · subst h; rw [if_pos rfl, if_pos rfl, if_pos (by omega)]; rfl
  · rw [if_neg h, if_neg (by omega)]
theorem rd_ext (a b : List Int) (hl : a.length = b.length) (h : ∀ v : Int, 0 ≤ v → v < (a.length : Int) → rd a v = rd b v) : a = b := by
  apply List.ext_getElem hl
  intro i h1 h2
  have := h (i : Int) (by omega) (by omega)
  rwa [rd_nat a i h1, rd_nat b i h2] at this
theorem inverse_f (l : List Int) (k : Nat) (hk : l.length < k) (hl : l.length ≤ 35184372088832) :
    order_Inverse.f k l = some (match plc (List.replicate l.length (-1)) 0 l with | some o => (o, 0) | none => ([], 13)) := by
  unfold order_Inverse.f
  rw [places_f l k hk hl, Option.bind_some]
  cases plc (List.replicate l.length (-1)) 0 l with
  | none => rw [if_neg (by simp)]
  | some o => rw [if_pos (by simp)]

theorem plc_spec : ∀ (rest out : List Int) (i : Nat) (o : List Int), plc out i rest = some o → (∀ (j : Nat), j < rest.length → rd o (rd rest (j : Int)) = ((i + j : Nat) : Int)) ∧ (∀ w : Int, 0 ≤ w → w ∉ rest → rd o w = rd out w) ∧ (∀ w ∈ rest, rd out w < 0)
  | [], out, i, o, h => by
    rw [plc] at h; obtain rfl := Option.some.inj h
    exact ⟨fun j hj => by simp at hj, fun w _ _ => rfl, fun w hw => by simp at hw⟩
  | v :: rest, out, i, o, h => by
    rw [plc] at h
    by_cases hc : 0 ≤ v ∧ v < (out.length : Int) ∧ rd out v < 0
    · rw [if_pos hc] at h
      obtain ⟨h1, h2, h3⟩ := plc_spec rest _ _ o h
      obtain ⟨hr, _⟩ := plc_range rest _ _ o h
      have hv : 0 ≤ v ∧ v < (out.length : Int) := ⟨hc.1, hc.2.1⟩
      have hnv : v ∉ rest := by
        intro hm
        have := h3 v hm
        rw [rd_set out v v _ hv hv.1, if_pos rfl] at this
        omega
      refine ⟨fun j hj => ?_, fun w h0 hw => ?_, fun w hw => ?_⟩
      · match j with
        | 0 =>
          have e : rd (v :: rest) ((0 : Nat) : Int) = v := rfl
          rw [e, h2 v hv.1 hnv, rd_set out v v _ hv hv.1, if_pos rfl]
          omega
        | j + 1 =>
          have e : rd (v :: rest) ((j + 1 : Nat) : Int) = rd rest (j : Int) := by unfold rd; simp
          rw [e, h1 j (by simpa using hj)]
          omega
      · simp only [List.mem_cons, not_or] at hw
        rw [h2 w h0 hw.2, rd_set out v w _ hv h0, if_neg hw.1]
      · rcases List.mem_cons.mp hw with e | hw
        · rw [e]; exact hc.2.2
        · have h4 := h3 w hw
          have h0 := (hr w hw).1
          rw [rd_set out v w _ hv h0] at h4
          by_cases e : w = v
          · rw [e]; exact hc.2.2
          · rwa [if_neg e] at h4
    · rw [if_neg hc] at h; cases h
theorem rd_mem (l : List Int) (v : Int) (h : v ∈ l) : ∃ j : Nat, j < l.length ∧ rd l (j : Int) = v := by
  obtain ⟨j, hj, e⟩ := List.getElem_of_mem h
  exact ⟨j, hj, by rw [rd_nat l j hj]; exact e⟩
theorem inv_facts (o a : List Int) (h : plc (List.replicate o.length (-1)) 0 o = some a) : a.length = o.length ∧ (∀ p : Nat, p < o.length → rd a (rd o (p : Int)) = (p : Int)) ∧ (∀ v : Int, 0 ≤ v → v < (o.length : Int) → 0 ≤ rd a v ∧ rd a v < (o.length : Int) ∧ rd o (rd a v) = v) := by
  obtain ⟨h1, h2, _⟩ := plc_spec _ _ _ _ h
  obtain ⟨h4, h5⟩ := plc_full o a h
  refine ⟨h4, fun p hp => by rw [h1 p hp]; omega, fun v h0 hv => ?_⟩
  have hm : v ∈ o := by
    apply Classical.byContradiction
    intro hn
    have := h2 v h0 hn
    have e2 : rd (List.replicate o.length (-1)) v = -1 := by
      unfold rd; rw [List.getD_eq_getElem?_getD, List.getElem?_replicate, if_pos (by omega)]; rfl
    have := h5 v h0 hv
    omega
  obtain ⟨j, hj, e⟩ := rd_mem o v hm
  have := h1 j hj
  rw [e] at this
  rw [this]
  refine ⟨by omega, by omega, ?_⟩
  rw [show ((0 + j : Nat) : Int) = (j : Int) by omega]
  exact e
theorem nodup_of_rd (a : List Int) (h : ∀ v w : Int, 0 ≤ v → v < (a.length : Int) → 0 ≤ w → w < (a.length : Int) → rd a v = rd a w → v = w) : a.Nodup := by
  rw [List.nodup_iff_pairwise_ne, List.pairwise_iff_getElem]
  intro i j hi hj hij e
  have := h (i : Int) (j : Int) (by omega) (by omega) (by omega) (by omega) (by rw [rd_nat a i hi, rd_nat a j hj]; exact e)
  omega
theorem inv_inv (o a : List Int) (h : plc (List.replicate o.length (-1)) 0 o = some a) : plc (List.replicate o.length (-1)) 0 a = some o := by
  obtain ⟨h1, h2, h3⟩ := inv_facts o a h
  have hnd : a.Nodup := nodup_of_rd a (fun v w a0 a1 b0 b1 e => by
    have e1 := (h3 v a0 (by omega)).2.2
    have e2 := (h3 w b0 (by omega)).2.2
    rw [← e1, e, e2])
  have hneg : ∀ v : Int, 0 ≤ v → v < (o.length : Int) → rd (List.replicate o.length (-1)) v = -1 := fun v h0 h1 => by
    unfold rd; rw [List.getD_eq_getElem?_getD, List.getElem?_replicate, if_pos (by omega)]; rfl
  obtain ⟨b, hb⟩ := plc_some a [] (List.replicate o.length (-1)) (by simpa using hnd) (fun v hv => by
    rw [List.length_replicate]
    obtain ⟨j, hj, e⟩ := rd_mem a v hv
    have := h3 (j : Int) (by omega) (by omega)
    rw [e] at this
    exact ⟨this.1, this.2.1⟩) (fun v h0 h4 => by
    right
    rw [List.length_replicate]
    apply Classical.byContradiction
    intro hn
    have := hneg v h0 (by omega)
    omega)
  have hb' : plc (List.replicate a.length (-1)) 0 a = some b := by rw [h1]; simpa using hb
  obtain ⟨g1, g2, _⟩ := inv_facts a b hb'
  have : b = o := rd_ext b o (by omega) (fun p h0 h4 => by
    have k1 := h2 p.toNat (by omega)
    rw [show ((p.toNat : Nat) : Int) = p by omega] at k1
    have k2 : 0 ≤ rd o p ∧ rd o p < (o.length : Int) := by
      obtain ⟨r1, _⟩ := plc_range _ _ _ _ h
      have := r1 (rd o p) (by
        have hp : p.toNat < o.length := by omega
        have : rd o p = o[p.toNat] := by unfold rd; simp [hp]
        rw [this]; exact List.getElem_mem hp)
      rwa [List.length_replicate] at this
    have k3 := g2 (rd o p).toNat (by omega)
    rw [show (((rd o p).toNat : Nat) : Int) = rd o p by omega, k1] at k3
    exact k3)
  subst this
  simpa using hb

def odd (x : Int) : Bool := decide (x % 2 = 1)
theorem codd_f (x : Int) : caret_odd.f x = some (odd x) := by
  unfold caret_odd.f odd
  rw [i64_and1]
  congr 1
def frn (l a : List Int) (p : Int) : Int := if odd (rd l p) = true then rd a p + 1 else rd a p
def bak (l a : List Int) (p : Int) : Int := if odd (rd l p) = true then rd a p else rd a p + 1
def ahd (l a : List Int) (b p : Int) : Int := if p < (l.length : Int) then frn l a p else if odd b = true then 0 else (l.length : Int)
def bhd (l a : List Int) (b p : Int) : Int := if 0 < p then bak l a (p - 1) else if odd b = true then (l.length : Int) else 0
def trn (l : List Int) (b p : Int) : Bool := decide (0 ≤ p ∧ p < (l.length : Int)) && (odd (rd l p) != odd b)
def stp1 (l a : List Int) (b p : Int) : Int := if trn l b p = true ∧ trn l b (p - 1) = false then bhd l a b p else ahd l a b p
def stp2 (l a : List Int) (b p : Int) : Int := if trn l b p = true ∧ trn l b (p - 1) = false then ahd l a b p else bhd l a b p
/-- What an inverse of so many places is. -/
def Inv (l a : List Int) : Prop := a.length = l.length ∧ l.length ≤ 100 ∧ ∀ v : Int, 0 ≤ v → v < (l.length : Int) → 0 ≤ rd a v ∧ rd a v < (l.length : Int)
theorem there_f (l a : List Int) (b p : Int) : caret_line_there.f l b a p = some (decide (0 ≤ p ∧ p < (l.length : Int)), b) := by
  unfold caret_line_there.f
  by_cases h : p ≥ 0
  · rw [if_pos h]
    by_cases h2 : p < (l.length : Int)
    · rw [decide_eq_true h2, decide_eq_true ⟨h, h2⟩]
    · rw [decide_eq_false h2, decide_eq_false (fun e => h2 e.2)]
  · rw [if_neg h, decide_eq_false (fun e => h e.1)]
theorem front_f (l a : List Int) (b p : Int) (hI : Inv l a) (h0 : 0 ≤ p) (h1 : p < (l.length : Int)) : caret_line_front.f l b a p = some (frn l a p, b) := by
  obtain ⟨e1, e2, e3⟩ := hI
  have h2 := e3 p h0 h1
  unfold caret_line_front.f frn
  rw [if_pos h0, if_pos h1, codd_f, Option.bind_some]
  split
  · rw [if_pos (by omega), w64 (by omega) (by omega)]
  · rw [if_pos (by omega)]
theorem back_f (l a : List Int) (b p : Int) (hI : Inv l a) (h0 : 0 ≤ p) (h1 : p < (l.length : Int)) : caret_line_back.f l b a p = some (bak l a p, b) := by
  obtain ⟨e1, e2, e3⟩ := hI
  have h2 := e3 p h0 h1
  unfold caret_line_back.f bak
  rw [if_pos h0, if_pos h1, codd_f, Option.bind_some]
  split
  · rw [if_pos (by omega)]
  · rw [if_pos (by omega), w64 (by omega) (by omega)]
theorem outer_f (l a : List Int) (b : Int) (last : Bool) : caret_line_outer.f l b a last = some (if (last != odd b) = true then (l.length : Int) else 0, b) := by
  unfold caret_line_outer.f
  rw [codd_f, Option.bind_some]
  split <;> rfl
theorem ahead_f (l a : List Int) (b p : Int) (hI : Inv l a) (h0 : 0 ≤ p) : caret_line_ahead.f l b a p = some (ahd l a b p, b) := by
  unfold caret_line_ahead.f ahd
  rw [there_f, Option.bind_some]
  by_cases h1 : p < (l.length : Int)
  · rw [if_pos h1, if_pos (decide_eq_true ⟨h0, h1⟩), front_f l a b p hI h0 h1]; rfl
  · rw [if_neg h1, if_neg (by simp [h1]), outer_f]
    cases odd b <;> simp
theorem behind_f (l a : List Int) (b p : Int) (hI : Inv l a) (h0 : 0 ≤ p) (h1 : p ≤ (l.length : Int)) : caret_line_behind.f l b a p = some (bhd l a b p, b) := by
  have e2 := hI.2.1
  unfold caret_line_behind.f bhd
  rw [w64 (by omega) (by omega), there_f, Option.bind_some]
  by_cases h2 : 0 < p
  · rw [if_pos h2, if_pos (decide_eq_true ⟨by omega, by omega⟩), back_f l a b (p - 1) hI (by omega) (by omega)]; rfl
  · rw [if_neg h2, if_neg (by simp; omega), outer_f]
    cases odd b <;> simp
theorem turns_f (l a : List Int) (b p : Int) : caret_line_turns.f l b a p = some (trn l b p, b) := by
  unfold caret_line_turns.f trn
  rw [i64_and1, i64_and1]
  by_cases h : 0 ≤ p ∧ p < (l.length : Int)
  · rw [if_pos h, decide_eq_true h]; rfl
  · rw [if_neg h, decide_eq_false h]; rfl
theorem stop_f (l a : List Int) (b p : Int) (hI : Inv l a) (h0 : 0 ≤ p) (h1 : p ≤ (l.length : Int)) : caret_line_stop.f l b a p = some (stp1 l a b p, stp2 l a b p, b) := by
  have e2 := hI.2.1
  unfold caret_line_stop.f stp1 stp2
  rw [ahead_f l a b p hI h0, Option.bind_some, behind_f l a b p hI h0 h1, Option.bind_some, turns_f, Option.bind_some, w64 (by omega) (by omega), turns_f]
  cases trn l b p with
  | true => cases trn l b (p - 1) <;> simp
  | false => simp
def stopsL (l a : List Int) (b : Int) (m : Nat) : List S51 := (List.range m).map (fun (i : Nat) => ⟨stp1 l a b (i : Int), stp2 l a b (i : Int)⟩)
theorem stops_loop (l a : List Int) (b : Int) (hI : Inv l a) : ∀ (d i k : Nat), i + d = l.length + 1 → d < k → caret_line_stops.l0 k (stopsL l a b i) ((l.length : Int) + 1) (i : Int) l b a = some (stopsL l a b (l.length + 1), b) := by
  have e2 := hI.2.1
  intro d
  induction d with
  | zero =>
    intro i k hi hk
    obtain ⟨k, rfl⟩ : ∃ m, k = m + 1 := ⟨k - 1, by omega⟩
    rw [caret_line_stops.l0, if_neg (by omega), show i = l.length + 1 by omega]
  | succ d ih =>
    intro i k hi hk
    obtain ⟨k, rfl⟩ : ∃ m, k = m + 1 := ⟨k - 1, by omega⟩
    have hl : (stopsL l a b i).length = i := by simp [stopsL]
    have e : stopsL l a b i ++ [⟨stp1 l a b (i : Int), stp2 l a b (i : Int)⟩] = stopsL l a b (i + 1) := by simp [stopsL, List.range_succ]
    have step := ih (i + 1) k (by omega) (by omega)
    rw [caret_line_stops.l0, if_pos (by omega), stop_f l a b _ hI (by omega) (by omega), Option.bind_some, if_pos (by omega), e, w64 (by omega) (by omega)]
    exact step
theorem stopsl_f (l a : List Int) (b : Int) (hI : Inv l a) (k : Nat) (hk : 200 ≤ k) : caret_line_stops.f k l b a = some (stopsL l a b (l.length + 1), b) := by
  have e2 := hI.2.1
  unfold caret_line_stops.f
  rw [w64 (by omega) (by omega), if_pos (by omega), if_pos (by omega)]
  exact stops_loop l a b hI (l.length + 1) 0 k (by omega) (by omega)
theorem inv_of (l a : List Int) (hl : l.length ≤ 100) (ha : plc (List.replicate l.length (-1)) 0 (vis (l.map clamp)) = some a) : Inv l a := by
  have hv : (vis (l.map clamp)).length = l.length := by rw [vis_length, List.length_map]
  rw [← hv] at ha
  obtain ⟨h1, h2, h3⟩ := inv_facts (vis (l.map clamp)) a ha
  rw [hv] at h1 h3
  exact ⟨h1, hl, fun v h0 hv => ⟨(h3 v h0 hv).1, (h3 v h0 hv).2.1⟩⟩
theorem inv_some (l : List Int) : ∃ a, plc (List.replicate l.length (-1)) 0 (vis (l.map clamp)) = some a := by
  obtain ⟨a, ha⟩ := vis_plc (l.map clamp)
  rw [List.length_map] at ha
  exact ⟨a, ha⟩
theorem stops_f (l a : List Int) (b : Int) (hl : l.length ≤ 100) (ha : plc (List.replicate l.length (-1)) 0 (vis (l.map clamp)) = some a) (k : Nat) (hk : 200 ≤ k) : caret_Stops.f k l b = some (stopsL l a b (l.length + 1)) := by
  have hv : (vis (l.map clamp)).length = l.length := by rw [vis_length, List.length_map]
  unfold caret_Stops.f
  rw [visual_f l k (by omega) (by omega), Option.bind_some, inverse_f _ k (by omega) (by omega), hv, ha]
  dsimp only
  rw [Option.bind_some, stopsl_f l a b (inv_of l a hl ha) k hk, Option.bind_some]
theorem stopsL_length (l a : List Int) (b : Int) (m : Nat) : (stopsL l a b m).length = m := by simp [stopsL]
theorem stopsL_rd (l a : List Int) (b : Int) (m i : Nat) (h : i < m) : rd_T51 (stopsL l a b m) (i : Int) = ⟨stp1 l a b (i : Int), stp2 l a b (i : Int)⟩ := by
  simp [rd_T51, stopsL, h]
theorem hit_f (l : List Int) (x : Int) (hl : l.length ≤ 100) (k : Nat) (hk : 200 ≤ k) : caret_Hit.f k l x = some (if 0 ≤ x ∧ x < (l.length : Int) then (rd (vis (l.map clamp)) x, true) else (0, false)) := by
  have hv : (vis (l.map clamp)).length = l.length := by rw [vis_length, List.length_map]
  unfold caret_Hit.f
  by_cases h0 : x < 0
  · rw [if_pos h0, if_neg (by omega)]
  · rw [if_neg h0]
    by_cases h1 : x ≥ (l.length : Int)
    · rw [if_pos h1, if_neg (by omega)]
    · rw [if_neg h1, visual_f l k (by omega) (by omega), Option.bind_some, if_pos (by omega), if_pos (by omega), if_pos ⟨by omega, by omega⟩]
/-- The place to which the caret goes. -/
def mvF (on better : Int → Int → Bool) (P : Nat → Int) (at_ : Nat) : Nat → Nat → Nat → Nat
  | 0, _, best => best
  | d + 1, i, best => mvF on better P at_ d (i + 1) (if on (P i) (P at_) = true then (if best = at_ then i else if better (P i) (P best) = true then i else best) else best)
theorem mvF_le (on better : Int → Int → Bool) (P : Nat → Int) (at_ m : Nat) : ∀ (d i best : Nat), i + d ≤ m → best < m → mvF on better P at_ d i best < m
  | 0, _, _, _, h => h
  | d + 1, i, best, h1, h2 => by
    rw [mvF]
    refine mvF_le on better P at_ m d (i + 1) _ (by omega) ?_
    split
    · split
      · omega
      · split <;> omega
    · exact h2
theorem mvF_on (on better : Int → Int → Bool) (P : Nat → Int) (at_ : Nat) : ∀ (d i best : Nat), (best = at_ ∨ on (P best) (P at_) = true) → (mvF on better P at_ d i best = at_ ∨ on (P (mvF on better P at_ d i best)) (P at_) = true)
  | 0, _, _, h => h
  | d + 1, i, best, h => by
    rw [mvF]
    refine mvF_on on better P at_ d (i + 1) _ ?_
    split
    · rename_i ho
      split
      · exact Or.inr ho
      · split
        · exact Or.inr ho
        · exact h
    · exact h

def onLeft (a b : Int) : Bool := decide (a<b)
def betterLeft (a b : Int) : Bool := decide (a≥b)
theorem moveLeft_loop (l a : List Int) (b : Int) (hl : l.length ≤ 100) (at_ : Nat) (ha : at_ < l.length + 1) : ∀ (d i best k : Nat), i + d = l.length + 1 → best < l.length + 1 → d < k →
    caret_moveLeft.l0 k (at_ : Int) (stopsL l a b (l.length + 1)) (best : Int) (stopsL l a b (l.length + 1)) ((l.length : Int) + 1) (i : Int) = some ((mvF onLeft betterLeft (fun i => stp1 l a b (i : Int)) at_ d i best : Nat) : Int) := by
  have hL := stopsL_length l a b (l.length + 1)
  intro d
  induction d with
  | zero =>
    intro i best k hi hb hk
    obtain ⟨k, rfl⟩ : ∃ m, k = m + 1 := ⟨k - 1, by omega⟩
    rw [caret_moveLeft.l0, if_neg (by omega)]
    rfl
  | succ d ih =>
    intro i best k hi hb hk
    obtain ⟨k, rfl⟩ : ∃ m, k = m + 1 := ⟨k - 1, by omega⟩
    have r1 := stopsL_rd l a b (l.length + 1) i (by omega)
    have r2 := stopsL_rd l a b (l.length + 1) at_ ha
    have r3 := stopsL_rd l a b (l.length + 1) best hb
    have s1 := ih (i + 1) i k (by omega) (by omega) (by omega)
    have s2 := ih (i + 1) best k (by omega) hb (by omega)
    rw [Int.natCast_add] at s1 s2
    rw [caret_moveLeft.l0, if_pos (by omega), if_pos (by omega), if_pos (by omega), if_pos (by omega), if_pos (by omega), r1, r2, r3, mvF, w64 (by omega) (by omega)]
    unfold caret_Left_1.f caret_Left_2.f
    simp only [Option.bind_some]
    unfold onLeft betterLeft at *
    by_cases h1 : decide (stp1 l a b (i : Int)<stp1 l a b (at_ : Int)) = true
    · rw [if_pos h1, if_pos h1]
      by_cases h2 : best = at_
      · rw [if_pos (by omega), if_pos h2]
        exact s1
      · rw [if_neg (by omega), if_neg h2, if_pos (by omega), if_pos (by omega)]
        by_cases h3 : decide (stp1 l a b (i : Int)≥stp1 l a b (best : Int)) = true
        · rw [if_pos h3, if_pos h3]
          exact s1
        · rw [if_neg h3, if_neg h3]
          exact s2
    · rw [if_neg h1, if_neg h1]
      exact s2
theorem moveLeft_f (l a : List Int) (b at_ : Int) (hl : l.length ≤ 100) (ha : plc (List.replicate l.length (-1)) 0 (vis (l.map clamp)) = some a) (k : Nat) (hk : 300 ≤ k) :
    caret_Left.f k l b at_ = some (if 0 ≤ at_ ∧ at_ ≤ (l.length : Int) then ((mvF onLeft betterLeft (fun i => stp1 l a b (i : Int)) at_.toNat (l.length + 1) 0 at_.toNat : Nat) : Int) else at_) := by
  obtain ⟨k, rfl⟩ : ∃ m, k = m + 1 := ⟨k - 1, by omega⟩
  unfold caret_Left.f caret_moveLeft.f
  by_cases h0 : at_ < 0
  · rw [if_pos h0, caret_moveLeft.j0, if_pos rfl, if_neg (by omega)]
    rfl
  · rw [if_neg h0, caret_moveLeft.j0]
    by_cases h1 : at_ > (l.length : Int)
    · rw [if_pos (decide_eq_true h1), if_neg (by omega)]
      rfl
    · rw [if_neg (by simp [h1]), stops_f l a b hl ha k (by omega), Option.bind_some, if_pos ⟨by omega, by omega⟩, stopsL_length]
      have := moveLeft_loop l a b hl at_.toNat (by omega) (l.length + 1) 0 at_.toNat k (by omega) (by omega) (by omega)
      rw [show ((at_.toNat : Nat) : Int) = at_ by omega] at this
      rw [show ((l.length + 1 : Nat) : Int) = (l.length : Int) + 1 by omega]
      rw [show (0 : Int) = ((0 : Nat) : Int) from rfl, this]
      rfl

def onRight (a b : Int) : Bool := decide (a>b)
def betterRight (a b : Int) : Bool := decide (a<b)
theorem moveRight_loop (l a : List Int) (b : Int) (hl : l.length ≤ 100) (at_ : Nat) (ha : at_ < l.length + 1) : ∀ (d i best k : Nat), i + d = l.length + 1 → best < l.length + 1 → d < k →
    caret_moveRight.l0 k (at_ : Int) (stopsL l a b (l.length + 1)) (best : Int) (stopsL l a b (l.length + 1)) ((l.length : Int) + 1) (i : Int) = some ((mvF onRight betterRight (fun i => stp1 l a b (i : Int)) at_ d i best : Nat) : Int) := by
  have hL := stopsL_length l a b (l.length + 1)
  intro d
  induction d with
  | zero =>
    intro i best k hi hb hk
    obtain ⟨k, rfl⟩ : ∃ m, k = m + 1 := ⟨k - 1, by omega⟩
    rw [caret_moveRight.l0, if_neg (by omega)]
    rfl
  | succ d ih =>
    intro i best k hi hb hk
    obtain ⟨k, rfl⟩ : ∃ m, k = m + 1 := ⟨k - 1, by omega⟩
    have r1 := stopsL_rd l a b (l.length + 1) i (by omega)
    have r2 := stopsL_rd l a b (l.length + 1) at_ ha
    have r3 := stopsL_rd l a b (l.length + 1) best hb
    have s1 := ih (i + 1) i k (by omega) (by omega) (by omega)
    have s2 := ih (i + 1) best k (by omega) hb (by omega)
    rw [Int.natCast_add] at s1 s2
    rw [caret_moveRight.l0, if_pos (by omega), if_pos (by omega), if_pos (by omega), if_pos (by omega), if_pos (by omega), r1, r2, r3, mvF, w64 (by omega) (by omega)]
    unfold caret_Right_1.f caret_Right_2.f
    simp only [Option.bind_some]
    unfold onRight betterRight at *
    by_cases h1 : decide (stp1 l a b (i : Int)>stp1 l a b (at_ : Int)) = true
    · rw [if_pos h1, if_pos h1]
      by_cases h2 : best = at_
      · rw [if_pos (by omega), if_pos h2]
        exact s1
      · rw [if_neg (by omega), if_neg h2, if_pos (by omega), if_pos (by omega)]
        by_cases h3 : decide (stp1 l a b (i : Int)<stp1 l a b (best : Int)) = true
        · rw [if_pos h3, if_pos h3]
          exact s1
        · rw [if_neg h3, if_neg h3]
          exact s2
    · rw [if_neg h1, if_neg h1]
      exact s2
theorem moveRight_f (l a : List Int) (b at_ : Int) (hl : l.length ≤ 100) (ha : plc (List.replicate l.length (-1)) 0 (vis (l.map clamp)) = some a) (k : Nat) (hk : 300 ≤ k) :
    caret_Right.f k l b at_ = some (if 0 ≤ at_ ∧ at_ ≤ (l.length : Int) then ((mvF onRight betterRight (fun i => stp1 l a b (i : Int)) at_.toNat (l.length + 1) 0 at_.toNat : Nat) : Int) else at_) := by
  obtain ⟨k, rfl⟩ : ∃ m, k = m + 1 := ⟨k - 1, by omega⟩
  unfold caret_Right.f caret_moveRight.f
  by_cases h0 : at_ < 0
  · rw [if_pos h0, caret_moveRight.j0, if_pos rfl, if_neg (by omega)]
    rfl
  · rw [if_neg h0, caret_moveRight.j0]
    by_cases h1 : at_ > (l.length : Int)
    · rw [if_pos (decide_eq_true h1), if_neg (by omega)]
      rfl
    · rw [if_neg (by simp [h1]), stops_f l a b hl ha k (by omega), Option.bind_some, if_pos ⟨by omega, by omega⟩, stopsL_length]
      have := moveRight_loop l a b hl at_.toNat (by omega) (l.length + 1) 0 at_.toNat k (by omega) (by omega) (by omega)
      rw [show ((at_.toNat : Nat) : Int) = at_ by omega] at this
      rw [show ((l.length + 1 : Nat) : Int) = (l.length : Int) + 1 by omega]
      rw [show (0 : Int) = ((0 : Nat) : Int) from rfl, this]
      rfl

theorem awake_ok : naskhlaw44_awake.f 100 = some true := by decide +kernel
theorem haw (k : Nat) (hk : 100 ≤ k) : naskhlaw44_awake.f k = some true := at_rounds (fun k => naskhlaw44_awake.mono k) hk awake_ok
theorem frn_rng (l a : List Int) (p : Int) (hI : Inv l a) (h0 : 0 ≤ p) (h1 : p < (l.length : Int)) : 0 ≤ frn l a p ∧ frn l a p ≤ (l.length : Int) := by
  have := hI.2.2 p h0 h1
  unfold frn
  split <;> omega
theorem bak_rng (l a : List Int) (p : Int) (hI : Inv l a) (h0 : 0 ≤ p) (h1 : p < (l.length : Int)) : 0 ≤ bak l a p ∧ bak l a p ≤ (l.length : Int) := by
  have := hI.2.2 p h0 h1
  unfold bak
  split <;> omega
theorem ahd_rng (l a : List Int) (b p : Int) (hI : Inv l a) (h0 : 0 ≤ p) : 0 ≤ ahd l a b p ∧ ahd l a b p ≤ (l.length : Int) := by
  unfold ahd
  by_cases h : p < (l.length : Int)
  · rw [if_pos h]; exact frn_rng l a p hI h0 h
  · rw [if_neg h]; split <;> omega
theorem bhd_rng (l a : List Int) (b p : Int) (hI : Inv l a) (h1 : p ≤ (l.length : Int)) : 0 ≤ bhd l a b p ∧ bhd l a b p ≤ (l.length : Int) := by
  unfold bhd
  by_cases h : 0 < p
  · rw [if_pos h]; exact bak_rng l a (p - 1) hI (by omega) (by omega)
  · rw [if_neg h]; split <;> omega
theorem stp_rng (l a : List Int) (b p : Int) (hI : Inv l a) (h0 : 0 ≤ p) (h1 : p ≤ (l.length : Int)) : (0 ≤ stp1 l a b p ∧ stp1 l a b p ≤ (l.length : Int)) ∧ 0 ≤ stp2 l a b p ∧ stp2 l a b p ≤ (l.length : Int) := by
  have h2 := ahd_rng l a b p hI h0
  have h3 := bhd_rng l a b p hI h1
  unfold stp1 stp2
  split <;> exact ⟨by assumption, by assumption⟩
theorem law_loop (l a : List Int) (b : Int) (hI : Inv l a) : ∀ (d i k : Nat), i + d = l.length + 1 → d + 300 < k →
    naskhlaw44_CaretMoves.l0 k l (stopsL l a b (l.length + 1)) ((l.length : Int) + 1) (i : Int) = some true := by
  have hL := stopsL_length l a b (l.length + 1)
  have e2 := hI.2.1
  intro d
  induction d with
  | zero =>
    intro i k hi hk
    obtain ⟨k, rfl⟩ : ∃ m, k = m + 1 := ⟨k - 1, by omega⟩
    rw [naskhlaw44_CaretMoves.l0, if_neg (by omega), haw k (by omega)]
    rfl
  | succ d ih =>
    intro i k hi hk
    obtain ⟨k, rfl⟩ : ∃ m, k = m + 1 := ⟨k - 1, by omega⟩
    have r1 := stopsL_rd l a b (l.length + 1) i (by omega)
    have step := ih (i + 1) k (by omega) (by omega)
    rw [Int.natCast_add] at step
    obtain ⟨⟨q1, q2⟩, q3, q4⟩ := stp_rng l a b (i : Int) hI (by omega) (by omega)
    rw [naskhlaw44_CaretMoves.l0, if_pos (by omega), if_pos (by omega), if_pos (by omega), r1]
    dsimp only
    rw [if_neg (by omega), if_neg (by omega), if_neg (by omega), if_neg (by omega), w64 (by omega) (by omega)]
    exact step
theorem CaretMoves_ok : naskhlaw44_CaretMoves.Pure := by
  intro l b at_ h1 h2 h3 h4 h5
  refine ⟨1000, ?_⟩
  unfold naskhlaw44_CaretMoves.f
  by_cases hn : (l.length : Int) > 30
  · rw [if_pos hn, haw 1000 (by omega)]; rfl
  · rw [if_neg hn]
    obtain ⟨a, ha⟩ := inv_some l
    have hI := inv_of l a (by omega) ha
    have hL := stopsL_length l a b (l.length + 1)
    have fin := law_loop l a b hI (l.length + 1) 0 997 (by omega) (by omega)
    rw [stops_f l a b (by omega) ha 1000 (by omega), Option.bind_some, hL, w64 (by omega) (by omega), if_pos (by omega)]
    by_cases h0 : at_ < 0
    · rw [if_pos h0, naskhlaw44_CaretMoves.j0, if_pos rfl, moveLeft_f l a b at_ (by omega) ha 999 (by omega), if_neg (by omega), Option.bind_some, if_pos rfl, moveRight_f l a b at_ (by omega) ha 999 (by omega), if_neg (by omega), Option.bind_some, if_pos rfl, haw 999 (by omega)]
      rfl
    · rw [if_neg h0, naskhlaw44_CaretMoves.j0]
      by_cases h6 : at_ > (l.length : Int)
      · rw [if_pos (decide_eq_true h6), moveLeft_f l a b at_ (by omega) ha 999 (by omega), if_neg (by omega), Option.bind_some, if_pos rfl, moveRight_f l a b at_ (by omega) ha 999 (by omega), if_neg (by omega), Option.bind_some, if_pos rfl, haw 999 (by omega)]
        rfl
      · rw [if_neg (by simp [h6]), moveLeft_f l a b at_ (by omega) ha 999 (by omega), if_pos (by omega), Option.bind_some, moveRight_f l a b at_ (by omega) ha 999 (by omega), if_pos (by omega), Option.bind_some]
        obtain ⟨at_, rfl⟩ : ∃ m : Nat, at_ = (m : Int) := ⟨at_.toNat, by omega⟩
        rw [Int.toNat_natCast]
        have x1 := mvF_le onLeft betterLeft (fun i => stp1 l a b (i : Int)) at_ (l.length + 1) (l.length + 1) 0 at_ (by omega) (by omega)
        have x2 := mvF_le onRight betterRight (fun i => stp1 l a b (i : Int)) at_ (l.length + 1) (l.length + 1) 0 at_ (by omega) (by omega)
        have y1 := mvF_on onLeft betterLeft (fun i => stp1 l a b (i : Int)) at_ (l.length + 1) 0 at_ (Or.inl rfl)
        have y2 := mvF_on onRight betterRight (fun i => stp1 l a b (i : Int)) at_ (l.length + 1) 0 at_ (Or.inl rfl)
        revert x1 x2 y1 y2
        generalize mvF onLeft betterLeft (fun i => stp1 l a b (i : Int)) at_ (l.length + 1) 0 at_ = u
        generalize mvF onRight betterRight (fun i => stp1 l a b (i : Int)) at_ (l.length + 1) 0 at_ = v
        intro x1 x2 y1 y2
        have r1 := stopsL_rd l a b (l.length + 1) u x1
        have r2 := stopsL_rd l a b (l.length + 1) v x2
        have r3 := stopsL_rd l a b (l.length + 1) at_ (by omega)
        unfold onLeft at y1
        unfold onRight at y2
        have fin2 : naskhlaw44_CaretMoves.j2 998 l (stopsL l a b (l.length + 1)) false = some true := by
          rw [naskhlaw44_CaretMoves.j2, if_neg (by simp), hL]
          exact fin
        rw [if_neg (by omega), if_neg (by omega), if_neg (by omega), decide_eq_false (by omega), naskhlaw44_CaretMoves.j1, if_neg (by simp), r1, r2, r3]
        dsimp only
        have z2 : (v : Int) ≠ (at_ : Int) → decide (stp1 l a b (v : Int) ≤ stp1 l a b (at_ : Int)) = false := by
          intro h
          rcases y2 with e | e
          · omega
          · have := of_decide_eq_true e; exact decide_eq_false (by omega)
        by_cases h7 : (u : Int) = (at_ : Int)
        · rw [if_pos h7]
          by_cases h8 : (v : Int) = (at_ : Int)
          · rw [if_pos h8]; exact fin2
          · rw [if_neg h8, if_pos (by omega), if_pos (by omega), if_pos (by omega), if_pos (by omega), z2 h8]; exact fin2
        · have z1 : ¬ stp1 l a b (u : Int) ≥ stp1 l a b (at_ : Int) := by
            rcases y1 with e | e
            · omega
            · have := of_decide_eq_true e; omega
          rw [if_neg h7, if_pos (by omega), if_pos (by omega), if_pos (by omega), if_pos (by omega), if_neg z1]
          by_cases h8 : (v : Int) = (at_ : Int)
          · rw [if_pos h8]; exact fin2
          · rw [if_neg h8, if_pos (by omega), if_pos (by omega), z2 h8]; exact fin2
end Go.Proofs.Ytmkgihmchkphaaa.PureCaretMovesAux
namespace Go.Proofs.Ytmkgihmchkphaaa.Pure
open Go.Proofs.Ytmkgihmchkphaaa.PCaretMoves
theorem CaretMoves : naskhlaw44_CaretMoves.Pure := PureCaretMovesAux.CaretMoves_ok
end Go.Proofs.Ytmkgihmchkphaaa.Pure
