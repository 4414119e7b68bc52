/- The places of any runs are what the document says; of runs as they are seen they are in the order of the layer below. No condition. -/
import Derived.Test.YtjnhepgjkphkoaaPRunsOrderx
namespace Go.Proofs.Ytjnhepgjkphkoaa.PureRunsOrderAux
open Go.RowKit Go.Proofs.Ytjnhepgjkphkoaa.PRunsOrder Go.Proofs.YtjnhepgjkphkoaaW.PrintWords Go.Proofs.YtjnhepgjkphkoaaW.PrintLast

set_option linter.unusedSimpArgs false
set_option linter.unusedVariables false
theorem w64 {x : Int} (h0 : -9223372036854775808 ≤ x) (h1 : x ≤ 9223372036854775807) : wrap64 x = x := by unfold wrap64; omega
theorem rd_at (pre : List Int) (x : Int) (rest : List Int) : rd (pre ++ x :: rest) (pre.length : Int) = x := by simp [rd]
theorem rd_nat (l : List Int) (i : Nat) (h : i < l.length) : rd l (i : Int) = l[i] := by simp [rd, h]
theorem wf64 {x : Int} (h : (Lit.int .i64 x).wf = true) : -9223372036854775808 ≤ x ∧ x ≤ 9223372036854775807 := by
  simpa [Lit.wf, IntKind.min, IntKind.max, IntKind.signed, IntKind.bits] using h
theorem bsome {P : Prop} [Decidable P] {b : Bool} (h : b = true ↔ P) : some b = some (decide P) := by
  congr 1; rw [Bool.eq_iff_iff]; simpa using h
theorem u16w {x : Int} (h0 : 0 ≤ x) (h1 : x ≤ 65535) : IntKind.u16.wrap x = x := by
  simp [IntKind.wrap, IntKind.min, IntKind.max, IntKind.signed, IntKind.bits]; omega

theorem wraps_i64' (n : Int) (h₀ : 0 ≤ n) (h₁ : n < 2 ^ 62) : IntKind.i64.wrap n = n := by rw [IntKind.wrap_i64]; omega
theorem and_mask (x : Int) (i : Nat) (hi : i ≤ 62) (h0 : 0 ≤ x) (h1 : x < 2 ^ 62) : Go.bits .and .i64 x (2 ^ i - 1) = x % 2 ^ i := bits_mask .i64 62 (by decide) wraps_i64' i hi x h0 h1

theorem eq_loop_int_int (a b : List Int) (hl : a.length = b.length) (hm : a.length ≤ 9223372036854775806) : ∀ d k i : Nat, i + d = a.length → d < k →
    slices_Equal_int_int.l0 k a b a.length i = some (decide (a.drop i = b.drop i)) := by
  intro d
  induction d with
  | zero =>
    intro k i hi hk
    obtain ⟨k, rfl⟩ : ∃ m, k = m + 1 := ⟨k - 1, by omega⟩
    simp only [slices_Equal_int_int.l0]
    rw [if_neg (by omega), List.drop_eq_nil_of_le (by omega), List.drop_eq_nil_of_le (by omega)]
    simp
  | succ d ih =>
    intro k i hi hk
    obtain ⟨k, rfl⟩ : ∃ m, k = m + 1 := ⟨k - 1, by omega⟩
    simp only [slices_Equal_int_int.l0]
    rw [if_pos (by omega), if_pos (by omega), if_pos (by omega), if_pos (by omega), rd_nat a i (by omega), rd_nat b i (by omega),
      List.drop_eq_getElem_cons (by omega : i < a.length), List.drop_eq_getElem_cons (by omega : i < b.length)]
    by_cases h : a[i]'(by omega) = b[i]'(by omega)
    · rw [if_pos h, w64 (by omega) (by omega)]
      have := ih k (i + 1) (by omega) (by omega)
      rw [Int.natCast_add] at this
      rw [show ((1 : Nat) : Int) = 1 from rfl] at this
      rw [this]
      congr 1
      rw [decide_eq_decide, List.cons.injEq]
      simp only [h, true_and]
    · rw [if_neg h]
      congr 1
      symm
      rw [decide_eq_false_iff_not, List.cons.injEq]
      exact fun e => h e.1
theorem equal_f_int_int (a b : List Int) (hm : a.length ≤ 9223372036854775806) (k : Nat) (hk : a.length < k) : slices_Equal_int_int.f k a b = some (decide (a = b)) := by
  unfold slices_Equal_int_int.f
  by_cases hl : a.length = b.length
  · rw [if_pos (by omega), show (0 : Int) = ((0 : Nat) : Int) from rfl, eq_loop_int_int a b hl hm a.length k 0 (by omega) hk]
    simp
  · rw [if_neg (by omega)]
    have : a ≠ b := fun e => hl (by rw [e])
    simp [this]
theorem equal_self_int_int (a : List Int) (hm : a.length ≤ 9223372036854775806) (k : Nat) (hk : a.length < k) : slices_Equal_int_int.f k a a = some true := by
  rw [equal_f_int_int a a hm k hk]; simp

def clamp (n : Int) : Int := mn (mx n 0) 126
theorem clamp_ge (n : Int) : 0 ≤ clamp n := by unfold clamp mn mx; repeat' split <;> omega
theorem clamp_le (n : Int) : clamp n ≤ 126 := by unfold clamp mn mx; repeat' split <;> omega
theorem set_at (a : List Int) (y v : Int) (b : List Int) : (a ++ y :: b).set a.length v = a ++ v :: b := by simp
/-- Levels that are not below 0, and not too great. -/
def Lev (l : List Int) : Prop := ∀ x ∈ l, 0 ≤ x ∧ x ≤ 126
theorem lev_map (l : List Int) : Lev (l.map clamp) := by
  intro x hx
  obtain ⟨y, _, rfl⟩ := List.mem_map.mp hx
  exact ⟨clamp_ge y, clamp_le y⟩
theorem and1 (x : Int) (h : 0 ≤ x) (h1 : x ≤ 126) : Go.bits .and .i64 x 1 = x % 2 := by
  have := and_mask x 1 (by decide) h (by omega)
  simpa using this
/-- The greatest level, and the least odd one, of what is behind. -/
def bnd : Int → Int → List Int → Int × Int
  | m, o, [] => (m, o)
  | m, o, x :: rest => bnd (mx m x) (if x % 2 = 1 ∧ (o = 0 ∨ x < o) then x else o) rest
/-- The greatest level. -/
def most : Int → List Int → Int
  | m, [] => m
  | m, x :: rest => most (mx m x) rest
theorem bnd_most : ∀ (l : List Int) (m o : Int), (bnd m o l).1 = most m l
  | [], _, _ => rfl
  | x :: rest, m, o => by rw [bnd, most, bnd_most rest]
theorem most_le : ∀ (l : List Int) (m : Int), Lev l → m ≤ 126 → most m l ≤ 126
  | [], _, _, h => h
  | x :: rest, m, hL, h => by
    rw [most]
    refine most_le rest _ (fun y hy => hL y (by simp [hy])) ?_
    have := hL x (by simp)
    unfold mx; split <;> omega
theorem most_ge : ∀ (l : List Int) (m : Int), m ≤ most m l
  | [], _ => by rw [most]; exact Int.le_refl _
  | x :: rest, m => by
    rw [most]
    have h1 := most_ge rest (mx m x)
    have h2 : m ≤ mx m x := by unfold mx; split <;> omega
    omega
/-- What the second of 'bnd' says. -/
theorem bnd_odd : ∀ (l : List Int) (m o : Int), Lev l → 0 ≤ o → ∀ level : Int, ((0 < (bnd m o l).2 ∧ (bnd m o l).2 ≤ level) ↔ ((0 < o ∧ o ≤ level) ∨ ∃ x ∈ l, x % 2 = 1 ∧ x ≤ level)) ∧ 0 ≤ (bnd m o l).2
  | [], m, o, _, ho, level => by simp [bnd, ho]
  | x :: rest, m, o, hL, ho, level => by
    rw [bnd]
    have hx := hL x (by simp)
    have hL' : Lev rest := fun y hy => hL y (by simp [hy])
    by_cases h : x % 2 = 1 ∧ (o = 0 ∨ x < o)
    · rw [if_pos h]
      obtain ⟨h1, h2⟩ := bnd_odd rest (mx m x) x hL' hx.1 level
      refine ⟨h1.trans ⟨?_, ?_⟩, h2⟩
      · rintro (h3 | ⟨y, hy, h3⟩)
        · exact Or.inr ⟨x, by simp, h.1, h3.2⟩
        · exact Or.inr ⟨y, by simp [hy], h3⟩
      · rintro (h3 | ⟨y, hy, h3⟩)
        · left; have := h.2; omega
        · rcases List.mem_cons.mp hy with rfl | hy
          · left; omega
          · exact Or.inr ⟨y, hy, h3⟩
    · rw [if_neg h]
      obtain ⟨h1, h2⟩ := bnd_odd rest (mx m x) o hL' ho level
      refine ⟨h1.trans ⟨?_, ?_⟩, h2⟩
      · rintro (h3 | ⟨y, hy, h3⟩)
        · exact Or.inl h3
        · exact Or.inr ⟨y, by simp [hy], h3⟩
      · rintro (h3 | ⟨y, hy, h3⟩)
        · exact Or.inl h3
        · rcases List.mem_cons.mp hy with e | hy
          · subst e
            left
            have h4 := h3.1
            have h5 := h3.2
            have h6 : ¬ (o = 0 ∨ y < o) := fun hh => h ⟨h4, hh⟩
            clear h1 h h3 h4
            omega
          · exact Or.inr ⟨y, hy, h3⟩
/-- The order in which places are seen. -/
def vis (lv : List Int) : List Int := if 0 < (bnd 0 0 lv).2 then order_Visual.down lv ((bnd 0 0 lv).1 - (bnd 0 0 lv).2 + 1).toNat (bnd 0 0 lv).1 (order_Visual.iota lv.length) else order_Visual.iota lv.length

theorem held_loop : ∀ (rest pre : List Int) (k : Nat), rest.length < k → pre.length + rest.length ≤ 9223372036854775806 →
    order_held.l0 k (pre.map clamp ++ List.replicate rest.length 0) (pre ++ rest) ((pre ++ rest).length : Int) (pre.length : Int) = some ((pre ++ rest).map clamp) := by
  intro rest
  induction rest with
  | nil =>
    intro pre k hk hm
    obtain ⟨k, rfl⟩ : ∃ m, k = m + 1 := ⟨k - 1, by omega⟩
    rw [order_held.l0, if_neg (by simp)]
    simp
  | cons x rest ih =>
    intro pre k hk hm
    obtain ⟨k, rfl⟩ : ∃ m, k = m + 1 := ⟨k - 1, by omega⟩
    rw [List.length_cons] at hk hm
    have hlen : (pre ++ x :: rest).length = pre.length + rest.length + 1 := by simp; omega
    have step := ih (pre ++ [x]) k (by omega) (by simp; omega)
    simp only [List.append_assoc, List.cons_append, List.nil_append, List.length_append, List.length_cons, List.length_nil, Nat.zero_add, Int.natCast_add, Int.natCast_one, List.map_append, List.map_cons, List.map_nil] at step
    have hm0 : (pre.map clamp).length = pre.length := List.length_map _
    rw [order_held.l0, if_pos (by omega), if_pos (by omega), if_pos (by omega), if_pos (by simp; omega), rd_at, Int.toNat_natCast, List.length_cons, List.replicate_succ]
    have hs := set_at (pre.map clamp) 0 (mn (mx x 0) 126) (List.replicate rest.length 0)
    rw [hm0] at hs
    rw [hs, w64 (by omega) (by omega)]
    have e : ((pre ++ x :: rest).length : Int) = (pre.length : Int) + ((rest.length : Int) + 1) := by omega
    rw [e]
    simp only [List.map_append, List.map_cons]
    exact step
theorem held_f (l : List Int) (k : Nat) (hk : l.length < k) (hl : l.length ≤ 35184372088832) : order_held.f k l = some (l.map clamp) := by
  unfold order_held.f
  rw [if_pos (by omega), if_pos (by omega), Int.toNat_natCast]
  have := held_loop l [] k hk (by simp; omega)
  simpa using this
theorem bounds_loop : ∀ (rest pre : List Int) (m o : Int) (k : Nat), Lev rest → rest.length < k → pre.length + rest.length ≤ 9223372036854775806 →
    order_bounds.l0 k m o (pre ++ rest) ((pre ++ rest).length : Int) (pre.length : Int) = some (bnd m o rest) := by
  intro rest
  induction rest with
  | nil =>
    intro pre m o k hL hk hm
    obtain ⟨k, rfl⟩ : ∃ m, k = m + 1 := ⟨k - 1, by omega⟩
    rw [order_bounds.l0, if_neg (by simp)]
    rfl
  | cons x rest ih =>
    intro pre m o k hL hk hm
    obtain ⟨k, rfl⟩ : ∃ m, k = m + 1 := ⟨k - 1, by omega⟩
    rw [List.length_cons] at hk hm
    have hlen : (pre ++ x :: rest).length = pre.length + rest.length + 1 := by simp; omega
    have hx := hL x (by simp)
    have step := fun m o => ih (pre ++ [x]) m o k (fun y hy => hL y (by simp [hy])) (by omega) (by simp; omega)
    simp only [List.append_assoc, List.cons_append, List.nil_append, List.length_append, List.length_cons, List.length_nil, Nat.zero_add, Int.natCast_add, Int.natCast_one] at step
    have e : ((pre ++ x :: rest).length : Int) = (pre.length : Int) + ((rest.length : Int) + 1) := by omega
    rw [order_bounds.l0, if_pos (by omega), if_pos (by omega), if_pos (by omega), rd_at, and1 x hx.1 hx.2, w64 (by omega) (by omega), e, bnd]
    by_cases h1 : x % 2 = 1
    · rw [if_pos h1]
      by_cases h2 : o = 0
      · rw [if_pos h2, if_pos ⟨h1, Or.inl h2⟩, step]
      · rw [if_neg h2]
        by_cases h3 : x < o
        · rw [if_pos h3, if_pos ⟨h1, Or.inr h3⟩, step]
        · rw [if_neg h3, if_neg (by omega), step]
    · rw [if_neg h1, if_neg (by omega), step]
theorem bounds_f (l : List Int) (k : Nat) (hL : Lev l) (hk : l.length < k) (hl : l.length ≤ 35184372088832) : order_bounds.f k l = some (bnd 0 0 l) := by
  unfold order_bounds.f
  have := bounds_loop l [] 0 0 k hL hk (by simp; omega)
  simpa using this
theorem visual_f (l : List Int) (k : Nat) (hk : l.length < k) (hl : l.length ≤ 35184372088832) : order_Visual.f k l = some (vis (l.map clamp)) := by
  unfold order_Visual.f
  rw [held_f l k hk hl, Option.bind_some, if_pos ⟨by simp, hl⟩, bounds_f _ k (lev_map l) (by simpa using hk) (by simpa using hl), Option.bind_some, if_pos (by rw [bnd_most]; have := most_le (l.map clamp) 0 (lev_map l) (by omega); omega)]
  simp only [vis, List.length_map]

/-- Runs one behind the other, from lo to hi, each as long as can be. -/
def Chain (x0 : List Int) : Int → List S35 → Int → Prop
  | lo, [], hi => lo = hi
  | lo, r :: rs, hi => r.f0.f0 = lo ∧ lo < r.f0.f1 ∧ r.f0.f1 ≤ (x0.length : Int) ∧ (∀ j, lo ≤ j → j < r.f0.f1 → rd x0 j = r.f1) ∧ (r.f0.f1 < (x0.length : Int) → rd x0 r.f0.f1 ≠ r.f1) ∧ Chain x0 r.f0.f1 rs hi
theorem rd35_at (pre : List S35) (x : S35) (rest : List S35) : rd_T35 (pre ++ x :: rest) (pre.length : Int) = x := by simp [rd_T35]
theorem logical_loop (x0 : List Int) (hm : (x0.length : Int) ≤ 5000000000000) : ∀ d : Nat,
    (∀ (k : Nat) (out : List S35) (x4 : Int), 0 ≤ x4 → (out.length : Int) ≤ x4 → x4 + d = x0.length → 3 * d + 1 ≤ k →
      ∃ rs, runs_Logical.l0 k x0 out x4 = some (out ++ rs) ∧ Chain x0 x4 rs x0.length) ∧
    (∀ (k : Nat) (out : List S35) (x4 lo u lev : Int), 0 ≤ lo → lo < x4 → (out.length : Int) ≤ lo → x4 + d = x0.length → (∀ j, lo ≤ j → j < x4 → rd x0 j = lev) → 3 * d + 2 ≤ k →
      ∃ rs, runs_Logical.l1 k x0 out x4 lo u lev = some (out ++ rs) ∧ Chain x0 lo rs x0.length) := by
  intro d
  induction d with
  | zero =>
    have P0 : ∀ (k : Nat) (out : List S35) (x4 : Int), 0 ≤ x4 → (out.length : Int) ≤ x4 → x4 + (0 : Nat) = x0.length → 3 * 0 + 1 ≤ k →
      ∃ rs, runs_Logical.l0 k x0 out x4 = some (out ++ rs) ∧ Chain x0 x4 rs x0.length := by
      intro k out x4 h0 ho hx hk
      obtain ⟨k, rfl⟩ : ∃ m, k = m + 1 := ⟨k - 1, by omega⟩
      refine ⟨[], ?_, by simp [Chain]; omega⟩
      simp only [runs_Logical.l0]
      rw [if_neg (by omega), List.append_nil]
    refine ⟨P0, ?_⟩
    intro k out x4 lo u lev h0 hl ho hx hj hk
    obtain ⟨k, rfl⟩ : ∃ m, k = m + 1 := ⟨k - 1, by omega⟩
    obtain ⟨rs, hr, hc⟩ := P0 k (out ++ [⟨⟨lo, x4⟩, lev⟩]) x4 (by omega) (by simp; omega) hx (by omega)
    refine ⟨⟨⟨lo, x4⟩, lev⟩ :: rs, ?_, rfl, hl, by simp at hx ⊢; omega, hj, fun h => by simp at hx h; omega, hc⟩
    simp only [runs_Logical.l1]
    rw [if_neg (by omega), if_pos (by omega), hr]
    simp
  | succ d ih =>
    obtain ⟨_, ih1⟩ := ih
    have P0 : ∀ (k : Nat) (out : List S35) (x4 : Int), 0 ≤ x4 → (out.length : Int) ≤ x4 → x4 + (d + 1 : Nat) = x0.length → 3 * (d + 1) + 1 ≤ k →
      ∃ rs, runs_Logical.l0 k x0 out x4 = some (out ++ rs) ∧ Chain x0 x4 rs x0.length := by
      intro k out x4 h0 ho hx hk
      obtain ⟨k, rfl⟩ : ∃ m, k = m + 2 := ⟨k - 2, by omega⟩
      obtain ⟨rs, hr, hc⟩ := ih1 k out (x4 + 1) x4 0 (rd x0 x4) h0 (by omega) ho (by omega) (fun j a b => by rw [show j = x4 by omega]) (by omega)
      refine ⟨rs, ?_, hc⟩
      simp only [runs_Logical.l0, runs_Logical.l1]
      rw [if_pos (by omega), if_pos (by omega), if_pos (by omega), if_pos (by omega), if_pos True.intro, w64 (by omega) (by omega), hr]
    refine ⟨P0, ?_⟩
    intro k out x4 lo u lev h0 hl ho hx hj hk
    obtain ⟨k, rfl⟩ : ∃ m, k = m + 1 := ⟨k - 1, by omega⟩
    by_cases he : rd x0 x4 = lev
    · obtain ⟨rs, hr, hc⟩ := ih1 k out (x4 + 1) lo u lev h0 (by omega) ho (by omega) (fun j a b => by
        by_cases e : j = x4
        · rw [e]; exact he
        · exact hj j a (by omega)) (by omega)
      refine ⟨rs, ?_, hc⟩
      simp only [runs_Logical.l1]
      rw [if_pos (by omega), if_pos (by omega), if_pos he, w64 (by omega) (by omega), hr]
    · obtain ⟨rs, hr, hc⟩ := P0 k (out ++ [⟨⟨lo, x4⟩, lev⟩]) x4 (by omega) (by simp; omega) hx (by omega)
      refine ⟨⟨⟨lo, x4⟩, lev⟩ :: rs, ?_, rfl, hl, by simp at hx ⊢; omega, hj, fun _ => he, hc⟩
      simp only [runs_Logical.l1]
      rw [if_pos (by omega), if_pos (by omega), if_neg he, if_pos (by omega), hr]
      simp
theorem logical_f (x0 : List Int) (hm : (x0.length : Int) ≤ 5000000000000) (k : Nat) (hk : 3 * x0.length + 1 ≤ k) : ∃ rs, runs_Logical.f k x0 = some rs ∧ Chain x0 0 rs x0.length := by
  obtain ⟨rs, hr, hc⟩ := (logical_loop x0 hm x0.length).1 k [] 0 (by omega) (by simp) (by omega) hk
  exact ⟨rs, by unfold runs_Logical.f; rw [hr]; rfl, hc⟩
theorem Chain.len {x0 : List Int} : ∀ {rs : List S35} {lo hi : Int}, Chain x0 lo rs hi → lo + rs.length ≤ hi
  | [], lo, hi, h => by simp [Chain] at h; simp [h]
  | r :: rs, lo, hi, ⟨h1, h2, h3, _, _, h⟩ => by have := Chain.len h; simp; omega

/-- All rows of which 'q' holds turned round, 'acc' being the row that has begun, turned. -/
def turnG {α : Type} (q : α → Bool) : List α → List α → List α
  | acc, [] => acc
  | acc, p :: rest => if q p then turnG q (p :: acc) rest else acc ++ p :: turnG q [] rest
theorem turnG_mem {α : Type} (q : α → Bool) (p : α) : ∀ (rest acc : List α), p ∈ turnG q acc rest ↔ p ∈ acc ∨ p ∈ rest
  | [], acc => by simp [turnG]
  | x :: t, acc => by
    rw [turnG]
    split
    · rw [turnG_mem q p t (x :: acc)]; simp; grind
    · simp only [List.mem_append, List.mem_cons, turnG_mem q p t []]; simp
theorem turnG_length {α : Type} (q : α → Bool) : ∀ (rest acc : List α), (turnG q acc rest).length = acc.length + rest.length
  | [], acc => by simp [turnG]
  | x :: t, acc => by
    rw [turnG]
    split
    · rw [turnG_length q t]; simp; omega
    · simp [turnG_length q t]
theorem turnG_none {α : Type} (q : α → Bool) : ∀ (rest acc : List α), (∀ x ∈ rest, q x = false) → turnG q acc rest = acc ++ rest
  | [], acc, _ => by simp [turnG]
  | x :: t, acc, h => by
    rw [turnG, if_neg (by simp [h x (by simp)]), turnG_none q t [] (fun y hy => h y (by simp [hy]))]
    simp
/-- The reach of a row. -/
def runG {α : Type} (q : α → Bool) (o : List α) : Nat := (o.takeWhile q).length
theorem runG_le {α : Type} (q : α → Bool) (o : List α) : runG q o ≤ o.length := (List.takeWhile_prefix _).length_le
theorem runG_yes {α : Type} (q : α → Bool) (p : α) (t : List α) (h : q p = true) : runG q (p :: t) = runG q t + 1 := by simp [runG, List.takeWhile_cons, h]
theorem runG_no {α : Type} (q : α → Bool) (p : α) (t : List α) (h : q p = false) : runG q (p :: t) = 0 := by simp [runG, List.takeWhile_cons, h]
theorem turnG_run {α : Type} (q : α → Bool) : ∀ (rest acc : List α), turnG q acc rest = (rest.take (runG q rest)).reverse ++ (acc ++ turnG q [] (rest.drop (runG q rest)))
  | [], acc => by simp [turnG]
  | p :: t, acc => by
    cases h : q p with
    | true => rw [runG_yes q p t h, turnG, if_pos h, turnG_run q t (p :: acc)]; simp
    | false => rw [runG_no q p t h, turnG, if_neg (by simp [h])]; simp [turnG, h]
/-- A round of what turns rows, from lo on. -/
theorem turnG_round {α : Type} (q : α → Bool) (cur : List α) (lo : Nat) (h : lo < cur.length) (r : Nat) (hr : runG q (cur.drop lo) = r) (nx : Nat) (hnx : nx = if lo + r < lo + 1 then lo + 1 else lo + r) (new : List α)
    (hnew : new = cur.take lo ++ (((cur.drop lo).take r).reverse ++ cur.drop (lo + r))) :
    new.length = cur.length ∧ nx ≤ cur.length ∧ lo < nx ∧ new.take nx ++ turnG q [] (new.drop nx) = cur.take lo ++ turnG q [] (cur.drop lo) := by
  have hle : r ≤ cur.length - lo := by have := runG_le q (cur.drop lo); rw [hr, List.length_drop] at this; exact this
  have hlen : new.length = cur.length := by rw [hnew]; simp; omega
  rw [turnG_run q (cur.drop lo) [], hr, List.nil_append, List.drop_drop]
  by_cases h0 : r = 0
  · subst h0
    rw [if_pos (by omega)] at hnx
    subst hnx
    have e : new = cur := by rw [hnew]; simp
    subst e
    refine ⟨rfl, by omega, by omega, ?_⟩
    simp only [Nat.add_zero, List.take_zero, List.reverse_nil, List.nil_append]
    have hd : List.drop lo new = new[lo] :: List.drop (lo + 1) new := List.drop_eq_getElem_cons h
    have hn : q new[lo] = false := by
      cases hh : q new[lo] with
      | false => rfl
      | true => rw [hd, runG_yes q _ _ hh] at hr; omega
    have ht : List.take (lo + 1) new = List.take lo new ++ [new[lo]] := by rw [List.take_add_one, List.getElem?_eq_getElem h]; rfl
    rw [hd, turnG, if_neg (by simp [hn]), ht]
    simp only [List.append_assoc, List.cons_append, List.nil_append]
  · rw [if_neg (by omega)] at hnx
    subst hnx
    refine ⟨hlen, by omega, by omega, ?_⟩
    have e1 : new.take (lo + r) = cur.take lo ++ ((cur.drop lo).take r).reverse := by
      rw [hnew, ← List.append_assoc, List.take_append_of_le_length (by simp; omega), List.take_of_length_le (by simp; omega)]
    have e2 : new.drop (lo + r) = cur.drop (lo + r) := by
      rw [hnew, ← List.append_assoc, List.drop_append, List.drop_eq_nil_of_le (by simp; omega), List.nil_append]
      have : lo + r - (List.take lo cur ++ (List.take r (List.drop lo cur)).reverse).length = 0 := by simp; omega
      rw [this, List.drop_zero]
    rw [e1, e2, List.append_assoc]
/-- Down the levels: 'n' of them, from one on; 'f' is an element's level. -/
def downG {α : Type} (f : α → Int) : Nat → Int → List α → List α
  | 0, _, o => o
  | n + 1, level, o => downG f n (level - 1) (turnG (fun p => decide (level ≤ f p)) [] o)
theorem downG_mem {α : Type} (f : α → Int) (p : α) : ∀ (n : Nat) (level : Int) (o : List α), p ∈ downG f n level o ↔ p ∈ o
  | 0, _, _ => Iff.rfl
  | n + 1, level, o => by rw [downG, downG_mem f p n, turnG_mem]; simp
theorem downG_length {α : Type} (f : α → Int) : ∀ (n : Nat) (level : Int) (o : List α), (downG f n level o).length = o.length
  | 0, _, _ => rfl
  | n + 1, level, o => by rw [downG, downG_length f n, turnG_length]; simp
/-- Above the greatest level nothing is turned. -/
theorem downG_above {α : Type} (f : α → Int) (m : Int) : ∀ (a b : Nat) (o : List α), (∀ x ∈ o, f x ≤ m) → downG f (a + b) (m + a) o = downG f b m o
  | 0, b, o, _ => by simp
  | a + 1, b, o, h => by
    have e : a + 1 + b = a + b + 1 := by omega
    rw [e, downG, turnG_none _ o [] (fun x hx => by have := h x hx; simp; omega), List.nil_append]
    have e2 : m + ((a + 1 : Nat) : Int) - 1 = m + (a : Int) := by omega
    rw [e2]
    exact downG_above f m a b o h

def lev (r : S35) : Int := clamp r.f1
theorem lev_ge (r : S35) : 0 ≤ lev r := clamp_ge _
theorem lev_le (r : S35) : lev r ≤ 126 := clamp_le _
theorem rheld_f (a b c : Int) : runs_held.f a b c = some (clamp c) := rfl
theorem rodd_f (a b c : Int) : runs_odd.f a b c = some (decide (clamp c % 2 = 1)) := by
  unfold runs_odd.f
  rw [rheld_f, Option.bind_some, and1 _ (clamp_ge c) (clamp_le c)]
  congr 1

theorem chain_unique (x0 : List Int) : ∀ (a b : List S35) (lo hi : Int), 0 ≤ lo → Chain x0 lo a hi → Chain x0 lo b hi → a = b
  | [], [], _, _, _, _, _ => rfl
  | [], r :: b, lo, hi, _, h, ⟨h1, h2, h3, h4, h5, h6⟩ => by simp [Chain] at h; have := Chain.len h6; omega
  | r :: a, [], lo, hi, _, ⟨h1, h2, h3, h4, h5, h6⟩, h => by simp [Chain] at h; have := Chain.len h6; omega
  | r :: a, s :: b, lo, hi, h0, ⟨h1, h2, h3, h4, h5, h6⟩, ⟨g1, g2, g3, g4, g5, g6⟩ => by
    have e1 : r.f1 = s.f1 := by rw [← h4 lo (by omega) h2, ← g4 lo (by omega) g2]
    have e2 : r.f0.f1 = s.f0.f1 := by
      rcases Int.lt_trichotomy r.f0.f1 s.f0.f1 with h | h | h
      · exact absurd (g4 r.f0.f1 (by omega) h) (by rw [← e1]; exact h5 (by omega))
      · exact h
      · exact absurd (h4 s.f0.f1 (by omega) h) (by rw [e1]; exact g5 (by omega))
    have e : r = s := by
      obtain ⟨⟨r0, r1⟩, r2⟩ := r
      obtain ⟨⟨s0, s1⟩, s2⟩ := s
      simp only at h1 g1 e1 e2
      subst h1 g1 e1 e2
      rfl
    subst e
    rw [chain_unique x0 a b r.f0.f1 hi (by omega) h6 g6]

theorem rows_loop (level : Int) (r : List S35) (n : Nat) (hn : n ≤ 5000000000000) : ∀ (C A B : List S35) (k : Nat), A.length + B.length + C.length = n → C.length < k → A ++ turnG (fun p => decide (level ≤ lev p)) B.reverse C = r →
    runs_rows.l0 k (A ++ (B ++ C)) level (A.length : Int) (n : Int) ((A.length : Int) + (B.length : Int)) = some r := by
  intro C
  induction C with
  | nil =>
    intro A B k hl hk hr
    obtain ⟨k, rfl⟩ : ∃ m, k = m + 1 := ⟨k - 1, by omega⟩
    rw [List.length_nil] at hl
    rw [runs_rows.l0, if_neg (by omega)]
    unfold slices_ReverseFrom_naskh_api_Run.f slices_ReverseCut_naskh_api_Run.f
    rw [if_pos ⟨by omega, by simp; omega, by omega⟩, Option.bind_some, ← hr]
    have hd : List.drop (A ++ (B ++ ([] : List S35))).length (A ++ (B ++ ([] : List S35))) = [] := List.drop_eq_nil_of_le (by omega)
    rw [Int.toNat_natCast, Int.toNat_natCast, hd, List.append_nil, List.append_nil, List.take_left, List.drop_left, List.take_of_length_le (by simp)]
    rfl
  | cons c C ih =>
    intro A B k hl hk hr
    obtain ⟨k, rfl⟩ : ∃ m, k = m + 1 := ⟨k - 1, by omega⟩
    rw [List.length_cons] at hl hk
    have hlen : (A ++ (B ++ c :: C)).length = n := by simp; omega
    have hrd : rd_T35 (A ++ (B ++ c :: C)) ((A.length : Int) + (B.length : Int)) = c := by
      have h1 : A ++ (B ++ c :: C) = (A ++ B) ++ c :: C := by simp
      have h2 : (A.length : Int) + (B.length : Int) = ((A ++ B).length : Int) := by simp
      rw [h1, h2]
      exact rd35_at _ c C
    rw [runs_rows.l0, if_pos (by omega), if_pos (by omega), if_pos (by omega), hrd, rheld_f, Option.bind_some, w64 (by omega) (by omega)]
    rw [turnG] at hr
    change (if lev c ≥ level then _ else _) = some r
    by_cases hq : level ≤ lev c
    · rw [if_pos (decide_eq_true hq)] at hr
      rw [if_pos hq]
      have step := ih A (B ++ [c]) k (by simp; omega) (by omega) (by rw [List.reverse_append]; exact hr)
      simp only [List.append_assoc, List.cons_append, List.nil_append, List.length_append, List.length_cons, List.length_nil, Nat.zero_add, Int.natCast_add, Int.natCast_one] at step
      rw [Int.add_assoc]
      exact step
    · rw [if_neg (by simp [hq])] at hr
      rw [if_neg hq]
      unfold slices_ReverseCut_naskh_api_Run.f
      rw [if_pos ⟨by omega, by omega, by omega⟩, Option.bind_some]
      have e : (A ++ (B ++ c :: C)).take (A.length : Int).toNat ++ ((((A ++ (B ++ c :: C)).drop (A.length : Int).toNat).take (((A.length : Int) + (B.length : Int)).toNat - (A.length : Int).toNat)).reverse ++ (A ++ (B ++ c :: C)).drop ((A.length : Int) + (B.length : Int)).toNat) = (A ++ B.reverse ++ [c]) ++ ([] ++ C) := by
        have h1 : ((A.length : Int) + (B.length : Int)).toNat = A.length + B.length := by omega
        rw [h1, Int.toNat_natCast, Nat.add_sub_cancel_left, List.take_left, List.drop_left, List.take_left]
        have h2 : (A ++ (B ++ c :: C)).drop (A.length + B.length) = c :: C := by rw [← List.append_assoc, ← List.length_append, List.drop_left]
        rw [h2]
        simp
      rw [e]
      have step := ih (A ++ B.reverse ++ [c]) [] k (by simp; omega) (by omega) (by rw [← hr]; simp)
      have e2 : ((A ++ B.reverse ++ [c]).length : Int) = (A.length : Int) + (B.length : Int) + 1 := by simp; omega
      rw [e2] at step
      simp only [List.length_nil, Int.natCast_zero, Int.add_zero, Int.ofNat_zero] at step
      simpa using step
theorem rows_f (l : List S35) (level : Int) (hl : l.length ≤ 5000000000000) (k : Nat) (hk : l.length < k) : runs_rows.f k l level = some (turnG (fun p => decide (level ≤ lev p)) [] l) := by
  unfold runs_rows.f
  have := rows_loop level (turnG (fun p => decide (level ≤ lev p)) [] l) l.length hl l [] [] k (by simp) hk (by simp)
  simpa using this
def mostL : Int → List S35 → Int
  | m, [] => m
  | m, r :: rest => mostL (mx m (lev r)) rest
def leastL : Int → List S35 → Int
  | m, [] => m
  | m, r :: rest => leastL (if lev r % 2 = 1 then mn m (lev r) else m) rest
theorem mostL_ge : ∀ (l : List S35) (m : Int), m ≤ mostL m l
  | [], _ => by rw [mostL]; exact Int.le_refl _
  | x :: rest, m => by
    rw [mostL]
    have h1 := mostL_ge rest (mx m (lev x))
    have h2 : m ≤ mx m (lev x) := by unfold mx; split <;> omega
    omega
theorem mostL_mem : ∀ (l : List S35) (m : Int) (x : S35), x ∈ l → lev x ≤ mostL m l
  | y :: rest, m, x, h => by
    rw [mostL]
    rcases List.mem_cons.mp h with rfl | h
    · have h1 := mostL_ge rest (mx m (lev x))
      have h2 : lev x ≤ mx m (lev x) := by unfold mx; split <;> omega
      omega
    · exact mostL_mem rest _ x h
theorem mostL_le : ∀ (l : List S35) (m : Int), m ≤ 126 → mostL m l ≤ 126
  | [], _, h => h
  | x :: rest, m, h => by
    rw [mostL]
    refine mostL_le rest _ ?_
    have := lev_le x
    unfold mx; split <;> omega
/-- The runs as they are seen. -/
def visR (rs : List S35) : List S35 := downG lev (mostL 0 rs - leastL 127 rs + 1).toNat (mostL 0 rs) rs
theorem visR_length (rs : List S35) : (visR rs).length = rs.length := downG_length _ _ _ _
theorem leastL_ge : ∀ (l : List S35) (m : Int), 1 ≤ m → 1 ≤ leastL m l
  | [], _, h => h
  | x :: rest, m, h => by
    rw [leastL]
    refine leastL_ge rest _ ?_
    have := lev_ge x
    split
    · unfold mn; split <;> omega
    · exact h
set_option maxRecDepth 20000 in
theorem vl1_loop (least : Int) (hle : 1 ≤ least) : ∀ (n : Nat) (level : Int) (l : List S35) (k : Nat), (level - least + 1).toNat = n → level ≤ 126 → l.length ≤ 900 → n * 1000 + 1000 ≤ k →
    -1000 ≤ level → runs_Visual.l1 k l least level = some (downG lev n level l) := by
  intro n
  induction n with
  | zero =>
    intro level l k hn h1 hl hk h2
    obtain ⟨k, rfl⟩ : ∃ m, k = m + 1 := ⟨k - 1, by omega⟩
    rw [runs_Visual.l1, if_neg (by omega)]
    rfl
  | succ n ih =>
    intro level l k hn h1 hl hk h2
    obtain ⟨k, rfl⟩ : ∃ m, k = m + 1 := ⟨k - 1, by omega⟩
    rw [runs_Visual.l1, if_pos (by omega), rows_f l level (by omega) k (by omega), Option.bind_some, downG, w64 (by omega) (by omega)]
    exact ih (level - 1) _ k (by omega) (by omega) (by rw [turnG_length]; simpa using hl) (by omega) (by omega)
theorem vl0_loop (l : List S35) (r : Option (List S35)) (K : Nat) (hm : l.length ≤ 5000000000) : ∀ (rest pre : List S35) (m o : Int) (k : Nat), l = pre ++ rest → rest.length + K < k → (∀ k, K ≤ k → runs_Visual.l1 k l (leastL o rest) (mostL m rest) = r) →
    runs_Visual.l0 k l m o l (l.length : Int) (pre.length : Int) = r := by
  intro rest
  induction rest with
  | nil =>
    intro pre m o k hl hk hr
    obtain ⟨k, rfl⟩ : ∃ m, k = m + 1 := ⟨k - 1, by omega⟩
    rw [runs_Visual.l0, if_neg (by rw [hl]; simp)]
    exact hr k (by simp at hk; omega)
  | cons x rest ih =>
    intro pre m o k hl hk hr
    obtain ⟨k, rfl⟩ : ∃ m, k = m + 1 := ⟨k - 1, by omega⟩
    rw [List.length_cons] at hk
    have hlen : l.length = pre.length + rest.length + 1 := by rw [hl]; simp; omega
    have hrd : rd_T35 l (pre.length : Int) = x := by rw [hl]; exact rd35_at pre x rest
    have step := fun m o => ih (pre ++ [x]) m o k (by rw [hl]; simp) (by omega)
    simp only [List.length_append, List.length_cons, List.length_nil, Nat.zero_add, Int.natCast_add, Int.natCast_one] at step
    rw [runs_Visual.l0, if_pos (by omega), if_pos (by omega), if_pos (by omega), hrd, rheld_f, rodd_f, Option.bind_some, Option.bind_some, w64 (by omega) (by omega)]
    rw [leastL, mostL] at hr
    by_cases h : lev x % 2 = 1
    · have h' : clamp x.f1 % 2 = 1 := h
      rw [if_pos h] at hr
      rw [if_pos (decide_eq_true h')]
      exact step (mx m (lev x)) (mn o (lev x)) hr
    · have h' : ¬ clamp x.f1 % 2 = 1 := h
      rw [if_neg h] at hr
      rw [if_neg (by rw [decide_eq_false h']; simp)]
      exact step (mx m (lev x)) o hr
set_option maxRecDepth 20000 in
theorem runsvisual_f (x0 : List Int) (rs : List S35) (hc : Chain x0 0 rs x0.length) (hx : x0.length ≤ 900) (k : Nat) (hk : 300000000 ≤ k) : runs_Visual.f k x0 = some (visR rs) := by
  have hlen := Chain.len hc
  obtain ⟨rs', e, hc'⟩ := logical_f x0 (by omega) k (by omega)
  obtain rfl := chain_unique x0 rs' rs 0 _ (by omega) hc' hc
  unfold runs_Visual.f
  rw [e, Option.bind_some]
  have hm126 := mostL_le rs' 0 (by omega)
  have hm0 := mostL_ge rs' 0
  have hl1 := leastL_ge rs' 127 (by omega)
  have h := vl0_loop rs' (some (visR rs')) 200000 (by omega) rs' [] 0 127 k rfl (by omega) (fun k hk => by
    unfold visR
    exact vl1_loop (leastL 127 rs') hl1 _ (mostL 0 rs') rs' k rfl hm126 (by omega) (by omega) (by omega))
  exact h

theorem i64_and1 (n : Int) : Go.bits .and .i64 n 1 = n % 2 := by
  have h1 : (BitVec.ofInt 64 1).toNat = 2 ^ 1 - 1 := by decide
  have key : (BitVec.ofInt 64 n &&& BitVec.ofInt 64 1).toNat = (n % ((2 ^ 64 : Nat) : Int)).toNat % 2 ^ 1 := by
    rw [BitVec.toNat_and, BitVec.toNat_ofInt, h1, Nat.and_two_pow_sub_one_eq_mod]
  show IntKind.i64.wrap ((BitVec.ofInt 64 n &&& BitVec.ofInt 64 1).toNat : Nat) = n % 2
  rw [key, IntKind.wrap_i64]
  omega

theorem flatMap_congr_ {α β : Type} {f g : α → List β} : ∀ {l : List α}, (∀ x ∈ l, f x = g x) → l.flatMap f = l.flatMap g
  | [], _ => rfl
  | x :: l, h => by rw [List.flatMap_cons, List.flatMap_cons, h x (by simp), flatMap_congr_ (fun y hy => h y (by simp [hy]))]
/-- A span's places. -/
def baseS (lo hi : Int) : List Int := (List.range (hi - lo).toNat).map (fun (i : Nat) => lo + (i : Int))
theorem baseS_length (lo hi : Int) : (baseS lo hi).length = (hi - lo).toNat := by simp [baseS]
theorem baseS_mem (lo hi p : Int) : p ∈ baseS lo hi ↔ lo ≤ p ∧ p < hi := by
  unfold baseS
  rw [List.mem_map]
  constructor
  · rintro ⟨i, hi', rfl⟩
    have := List.mem_range.1 hi'
    omega
  · rintro ⟨h1, h2⟩
    exact ⟨(p - lo).toNat, List.mem_range.2 (by omega), by omega⟩
theorem baseS_cons (lo hi : Int) (h : lo < hi) : baseS lo hi = lo :: baseS (lo + 1) hi := by
  unfold baseS
  obtain ⟨m, hm⟩ : ∃ m : Nat, (hi - lo).toNat = m + 1 := ⟨(hi - lo).toNat - 1, by omega⟩
  rw [hm, show (hi - (lo + 1)).toNat = m by omega, List.range_succ_eq_map, List.map_cons, List.map_map]
  simp only [Int.natCast_zero, Int.add_zero, List.cons.injEq]
  refine ⟨by simp, List.map_congr_left fun i _ => ?_⟩
  simp only [Function.comp]
  omega
theorem baseS_append (lo mid hi : Int) (h1 : lo ≤ mid) (h2 : mid ≤ hi) : baseS lo mid ++ baseS mid hi = baseS lo hi := by
  have key : ∀ (n : Nat) (lo : Int), mid - lo = n → lo ≤ mid → baseS lo mid ++ baseS mid hi = baseS lo hi := by
    intro n
    induction n with
    | zero =>
      intro lo hn h
      obtain rfl : lo = mid := by omega
      have : baseS lo lo = [] := by simp [baseS]
      rw [this]; rfl
    | succ n ih =>
      intro lo hn h
      rw [baseS_cons lo mid (by omega), baseS_cons lo hi (by omega), List.cons_append, ih (lo + 1) (by omega) (by omega)]
  exact key (mid - lo).toNat lo (by omega) h1
/-- A run's places, as they are seen. -/
def plcs (r : S35) : List Int := if 0 ≤ r.f0.f0 ∧ r.f0.f0 < r.f0.f1 then (if r.f1 % 2 = 1 then (baseS r.f0.f0 r.f0.f1).reverse else baseS r.f0.f0 r.f0.f1) else []
theorem set_mid (a : List Int) (v : Int) (m : Nat) : (a ++ List.replicate (m + 1) 0).set a.length v = a ++ [v] ++ List.replicate m 0 := by
  rw [List.replicate_succ]; simp
theorem rset_at (a : List Int) (y v : Int) (b : List Int) : (a ++ y :: b).set a.length v = a ++ v :: b := by simp
theorem rset_set (a m b : List Int) (x y x' y' : Int) (i j : Nat) (hi : i = a.length) (hj : j = a.length + 1 + m.length) : ((a ++ x :: (m ++ y :: b)).set i x').set j y' = a ++ x' :: (m ++ y' :: b) := by
  subst hi hj
  rw [rset_at]
  have : a ++ x' :: (m ++ y :: b) = (a ++ x' :: m) ++ y :: b := by simp
  rw [this]
  have h2 := rset_at (a ++ x' :: m) y y' b
  rw [show (a ++ x' :: m).length = a.length + 1 + m.length by simp; omega] at h2
  rw [h2]
  simp
theorem rlist_ends : ∀ (m : List Int), 2 ≤ m.length → ∃ x m' y, m = x :: (m' ++ [y]) := by
  intro m hm
  match m, hm with
  | x :: t, hm =>
    have ht : t ≠ [] := by intro h; subst h; simp at hm
    exact ⟨x, t.dropLast, t.getLast ht, by rw [List.dropLast_concat_getLast ht]⟩
theorem reverse_loop : ∀ (n : Nat) (a m b : List Int) (k : Nat), m.length ≤ n → n < k → a.length + m.length + b.length ≤ 9223372036854775806 →
    slices_Reverse_int_int.l0 k (a ++ (m ++ b)) (a.length : Int) ((a.length : Int) + (m.length : Int) - 1) = some (a ++ (m.reverse ++ b)) := by
  intro n
  induction n with
  | zero =>
    intro a m b k hm hk hM
    obtain ⟨k, rfl⟩ : ∃ m, k = m + 1 := ⟨k - 1, by omega⟩
    obtain rfl : m = [] := List.eq_nil_of_length_eq_zero (by omega)
    rw [slices_Reverse_int_int.l0, if_neg (by simp; omega)]
    simp
  | succ n ih =>
    intro a m b k hm hk hM
    obtain ⟨k, rfl⟩ : ∃ m, k = m + 1 := ⟨k - 1, by omega⟩
    rw [slices_Reverse_int_int.l0]
    by_cases h2 : 2 ≤ m.length
    · obtain ⟨x, m', y, rfl⟩ := rlist_ends m h2
      simp only [List.length_cons, List.length_append, List.length_nil] at hm hM h2
      have e1 : a ++ ((x :: (m' ++ [y])) ++ b) = a ++ x :: (m' ++ y :: b) := by simp
      have hl : (a ++ x :: (m' ++ y :: b)).length = a.length + m'.length + b.length + 2 := by simp; omega
      have e2 : (a.length : Int) + ((x :: (m' ++ [y])).length : Int) - 1 = (a.length : Int) + (m'.length : Int) + 1 := by simp; omega
      have r1 : rd (a ++ x :: (m' ++ y :: b)) (a.length : Int) = x := rd_at a x _
      have r2 : rd (a ++ x :: (m' ++ y :: b)) ((a.length : Int) + (m'.length : Int) + 1) = y := by
        have h3 : a ++ x :: (m' ++ y :: b) = (a ++ x :: m') ++ y :: b := by simp
        have h4 : (a.length : Int) + (m'.length : Int) + 1 = ((a ++ x :: m').length : Int) := by simp; omega
        rw [h3, h4]
        exact rd_at _ y b
      rw [e1, e2, if_pos (by omega), if_pos (by omega), if_pos (by omega), if_pos (by omega), if_pos (by omega), r1, r2, w64 (by omega) (by omega), w64 (by omega) (by omega),
        rset_set a m' b x y _ _ _ _ (by simp) (by omega)]
      have step := ih (a ++ [y]) m' (x :: b) k (by omega) (by omega) (by simp; omega)
      have f1 : (a ++ [y]) ++ (m' ++ x :: b) = a ++ y :: (m' ++ x :: b) := by simp
      have f2 : ((a ++ [y]).length : Int) = (a.length : Int) + 1 := by simp
      have f3 : (a.length : Int) + 1 + (m'.length : Int) - 1 = (a.length : Int) + (m'.length : Int) + 1 - 1 := by omega
      rw [f1, f2, f3] at step
      rw [step]
      simp
    · rw [if_neg (by omega)]
      match m, h2 with
      | [], _ => rfl
      | [x], _ => rfl
      | x :: y :: t, h2 => simp at h2
theorem reverse_f (l : List Int) (k : Nat) (hk : l.length < k) (hl : l.length ≤ 35184372088832) : slices_Reverse_int_int.f k l = some l.reverse := by
  unfold slices_Reverse_int_int.f
  rw [w64 (by omega) (by omega)]
  have := reverse_loop l.length [] l [] k (Nat.le_refl _) hk (by simp; omega)
  simpa using this
theorem places_loop (a b c : Int) (h0 : 0 ≤ a) (hb : b ≤ 400) (n : Nat) (hn : (n : Int) = b - a) (r : List Int) (hr : r = if c % 2 = 1 then (baseS a b).reverse else baseS a b) : ∀ (d i k : Nat), i + d = n → d + 500 < k →
    runs_places.l0 k (baseS a (a + i) ++ List.replicate d 0) (n : Int) (i : Int) a b c = some r := by
  intro d
  induction d with
  | zero =>
    intro i k hi hk
    obtain ⟨k, rfl⟩ : ∃ m, k = m + 1 := ⟨k - 1, by omega⟩
    rw [runs_places.l0, if_neg (by omega), i64_and1, List.replicate_zero, List.append_nil, show a + (i : Int) = b by omega]
    by_cases hc : c % 2 = 1
    · rw [if_pos hc, reverse_f _ k (by rw [baseS_length]; omega) (by rw [baseS_length]; omega), Option.bind_some, hr, if_pos hc]
    · rw [if_neg hc, hr, if_neg hc]
  | succ d ih =>
    intro i k hi hk
    obtain ⟨k, rfl⟩ : ∃ m, k = m + 1 := ⟨k - 1, by omega⟩
    have hbl : (baseS a (a + i)).length = i := by rw [baseS_length]; omega
    have hs := set_mid (baseS a (a + i)) (a + (i : Int)) d
    rw [hbl] at hs
    have e : baseS a (a + i) ++ [a + (i : Int)] = baseS a (a + ((i + 1 : Nat) : Int)) := by
      rw [← baseS_append a (a + i) (a + ((i + 1 : Nat) : Int)) (by omega) (by omega)]
      congr 1
      rw [baseS_cons _ _ (by omega), show baseS (a + (i : Int) + 1) (a + ((i + 1 : Nat) : Int)) = [] from by unfold baseS; rw [show (a + ((i + 1 : Nat) : Int) - (a + (i : Int) + 1)).toNat = 0 by omega]; rfl]
    rw [runs_places.l0, if_pos (by omega), if_pos (by omega), if_pos (by simp [hbl]; omega), w64 (by omega) (by omega), Int.toNat_natCast, hs, e, w64 (by omega) (by omega)]
    exact ih (i + 1) k (by omega) (by omega)
theorem places_f (a b c : Int) (hw : -9223372036854775808 ≤ a ∧ a ≤ 9223372036854775807) (hb : b ≤ 400 ∨ a < 0 ∨ b ≤ a) (k : Nat) (hk : 1000 ≤ k) : runs_places.f k a b c = some (plcs ⟨⟨a, b⟩, c⟩) := by
  unfold runs_places.f span_Size.f span_Right.f plcs
  by_cases h0 : 0 ≤ a
  · simp only [if_pos h0, Option.bind_some]
    by_cases h1 : a < b
    · simp only [decide_eq_true h1, if_true]
      rw [w64 (by omega) (by omega), Option.bind_some, if_pos (by omega), if_pos (by omega), if_pos ⟨h0, h1⟩]
      have := places_loop a b c h0 (by omega) (b - a).toNat (by omega) _ rfl (b - a).toNat 0 k (by omega) (by omega)
      have e : baseS a (a + ((0 : Nat) : Int)) = [] := by simp [baseS]
      rw [e, List.nil_append] at this
      rw [List.length_replicate]
      exact this
    · simp only [decide_eq_false h1, Bool.false_eq_true, if_false]
      rw [if_neg (by omega)]
  · simp only [if_neg h0, Option.bind_some, Bool.false_eq_true, if_false]
    rw [if_neg (by omega)]
/-- Runs that the statement speaks of. -/
def Fit (r : S35) : Prop := (-9223372036854775808 ≤ r.f0.f0 ∧ r.f0.f0 ≤ 9223372036854775807) ∧ (-9223372036854775808 ≤ r.f0.f1 ∧ r.f0.f1 ≤ 9223372036854775807) ∧ (-9223372036854775808 ≤ r.f1 ∧ r.f1 ≤ 9223372036854775807) ∧ (r.f0.f1 ≤ 400 ∨ r.f0.f0 < 0 ∨ r.f0.f1 ≤ r.f0.f0)
theorem plcs_le (r : S35) (h : Fit r) : (plcs r).length ≤ 400 := by
  unfold plcs
  obtain ⟨h1, _, _, h2⟩ := h
  split
  · rename_i hc
    split
    · rw [List.length_reverse, baseS_length]; omega
    · rw [baseS_length]; omega
  · simp
theorem order_loop (l : List S35) (hl : l.length ≤ 1000) (hF : ∀ r ∈ l, Fit r) : ∀ (rest pre : List S35) (k : Nat), l = pre ++ rest → rest.length + 1000 < k →
    runs_Order.l0 k (pre.flatMap plcs) l (l.length : Int) (pre.length : Int) = some (l.flatMap plcs) := by
  have hb : ∀ pre : List S35, (∀ r ∈ pre, Fit r) → (pre.flatMap plcs).length ≤ 400 * pre.length := by
    intro pre
    induction pre with
    | nil => intro _; simp
    | cons r pre ih =>
      intro h
      have h1 := plcs_le r (h r (by simp))
      have h2 := ih (fun r hr => h r (by simp [hr]))
      rw [List.flatMap_cons, List.length_append, List.length_cons]
      omega
  intro rest
  induction rest with
  | nil =>
    intro pre k hp hk
    obtain ⟨k, rfl⟩ : ∃ m, k = m + 1 := ⟨k - 1, by omega⟩
    rw [runs_Order.l0, if_neg (by rw [hp]; simp)]
    rw [hp]; simp
  | cons r rest ih =>
    intro pre k hp hk
    obtain ⟨k, rfl⟩ : ∃ m, k = m + 1 := ⟨k - 1, by omega⟩
    rw [List.length_cons] at hk
    have hlen : l.length = pre.length + rest.length + 1 := by rw [hp]; simp; omega
    have hrd : rd_T35 l (pre.length : Int) = r := by rw [hp]; exact rd35_at pre r rest
    have hr : Fit r := hF r (by rw [hp]; simp)
    have h1 := plcs_le r hr
    have h2 := hb pre (fun q hq => hF q (by rw [hp]; simp [hq]))
    have step := ih (pre ++ [r]) k (by rw [hp]; simp) (by omega)
    simp only [List.length_append, List.length_cons, List.length_nil, Nat.zero_add, Int.natCast_add, Int.natCast_one, List.flatMap_append, List.flatMap_cons, List.flatMap_nil, List.append_nil] at step
    rw [runs_Order.l0, if_pos (by omega), if_pos (by omega), if_pos (by omega), hrd, places_f _ _ _ hr.1 hr.2.2.2 k (by omega), Option.bind_some, if_pos (by change (pre.flatMap plcs).length + (plcs r).length < _; omega), w64 (by omega) (by omega)]
    exact step
theorem order_f (l : List S35) (hl : l.length ≤ 1000) (hF : ∀ r ∈ l, Fit r) (k : Nat) (hk : 3000 ≤ k) : runs_Order.f k l = some (l.flatMap plcs) := by
  unfold runs_Order.f
  exact order_loop l hl hF l [] k rfl (by omega)
theorem tmod2 (c : Int) : Int.tmod c 2 = 0 ↔ ¬ c % 2 = 1 := by
  have h1 := Int.mul_tdiv_add_tmod c 2
  have h2 : -2 < Int.tmod c 2 := by have := Int.tmod_lt_of_pos (-c) (show (0 : Int) < 2 by omega); rw [Int.neg_tmod] at this; omega
  have h3 := Int.tmod_lt_of_pos c (show (0 : Int) < 2 by omega)
  omega
theorem reforder1_loop (l : List S35) (at_ a b c : Int) (n : Nat) (hn : (n : Int) = b - a) (h0 : 0 ≤ a) (hb : b ≤ 400) (ha : 0 ≤ at_ ∧ at_ < (l.length : Int)) (hc : (rd_T35 l at_).f1 = c) (out : List Int) (ho : out.length ≤ 5000000) (res : Option (List Int)) (K : Nat)
    (hr : ∀ k, K ≤ k → naskhref30_Order.l0 k l (out ++ (if c % 2 = 1 then (baseS a b).reverse else baseS a b)) (wrap64 (at_ + 1)) = res) : ∀ (d i k : Nat), i + d = n → d + K < k →
    naskhref30_Order.l1 k l (out ++ (if c % 2 = 1 then (baseS (b - i) b).reverse else baseS a (a + i))) at_ (i : Int) a b = res := by
  intro d
  induction d with
  | zero =>
    intro i k hi hk
    obtain ⟨k, rfl⟩ : ∃ m, k = m + 1 := ⟨k - 1, by omega⟩
    rw [naskhref30_Order.l1, w64 (x := b - a) (by omega) (by omega), if_neg (by omega), show b - (i : Int) = a by omega, show a + (i : Int) = b by omega]
    exact hr k (by omega)
  | succ d ih =>
    intro i k hi hk
    obtain ⟨k, rfl⟩ : ∃ m, k = m + 1 := ⟨k - 1, by omega⟩
    have step := ih (i + 1) k (by omega) (by omega)
    rw [naskhref30_Order.l1, w64 (x := b - a) (by omega) (by omega), if_pos (by omega), if_pos ha.1, if_pos ha.2, hc]
    have hlen : (out ++ (if c % 2 = 1 then (baseS (b - i) b).reverse else baseS a (a + i))).length < 17592186044416 := by
      rw [List.length_append]
      split
      · rw [List.length_reverse, baseS_length]; omega
      · rw [baseS_length]; omega
    rw [w64 (x := (i : Int) + 1) (by omega) (by omega)]
    by_cases h : c % 2 = 1
    · rw [if_pos h] at step hlen ⊢
      rw [if_neg (fun e => (tmod2 c).1 e h), if_pos hlen, w64 (x := b - 1) (by omega) (by omega), w64 (x := b - 1 - (i : Int)) (by omega) (by omega)]
      have e : (baseS (b - ((i + 1 : Nat) : Int)) b).reverse = (baseS (b - i) b).reverse ++ [b - 1 - (i : Int)] := by
        rw [baseS_cons _ _ (by omega), List.reverse_cons, show b - ((i + 1 : Nat) : Int) + 1 = b - (i : Int) by omega, show b - ((i + 1 : Nat) : Int) = b - 1 - (i : Int) by omega]
      rw [e, ← List.append_assoc] at step
      exact step
    · rw [if_neg h] at step hlen ⊢
      rw [if_pos ((tmod2 c).2 h), if_pos hlen, w64 (x := a + (i : Int)) (by omega) (by omega)]
      have e : baseS a (a + ((i + 1 : Nat) : Int)) = baseS a (a + i) ++ [a + (i : Int)] := by
        rw [← baseS_append a (a + i) (a + ((i + 1 : Nat) : Int)) (by omega) (by omega)]
        congr 1
        rw [baseS_cons _ _ (by omega), show baseS (a + (i : Int) + 1) (a + ((i + 1 : Nat) : Int)) = [] from by unfold baseS; rw [show (a + ((i + 1 : Nat) : Int) - (a + (i : Int) + 1)).toNat = 0 by omega]; rfl]
      rw [e, ← List.append_assoc] at step
      exact step
set_option maxRecDepth 20000 in
theorem reforder_loop (l : List S35) (hl : l.length ≤ 1000) (hF : ∀ r ∈ l, Fit r) : ∀ (rest pre : List S35) (k : Nat), l = pre ++ rest → 1000 * rest.length + 1000 < k →
    naskhref30_Order.l0 k l (pre.flatMap plcs) (pre.length : Int) = some (l.flatMap plcs) := by
  have hb : ∀ pre : List S35, (∀ r ∈ pre, Fit r) → (pre.flatMap plcs).length ≤ 400 * pre.length := by
    intro pre
    induction pre with
    | nil => intro _; simp
    | cons r pre ih =>
      intro h
      have h1 := plcs_le r (h r (by simp))
      have h2 := ih (fun r hr => h r (by simp [hr]))
      rw [List.flatMap_cons, List.length_append, List.length_cons]
      omega
  intro rest
  induction rest with
  | nil =>
    intro pre k hp hk
    obtain ⟨k, rfl⟩ : ∃ m, k = m + 1 := ⟨k - 1, by omega⟩
    rw [naskhref30_Order.l0, if_neg (by rw [hp]; simp)]
    rw [hp]; simp
  | cons r rest ih =>
    intro pre k hp hk
    obtain ⟨k, rfl⟩ : ∃ m, k = m + 1 := ⟨k - 1, by omega⟩
    rw [List.length_cons] at hk
    have hlen : l.length = pre.length + rest.length + 1 := by rw [hp]; simp; omega
    have hrd : rd_T35 l (pre.length : Int) = r := by rw [hp]; exact rd35_at pre r rest
    have hr : Fit r := hF r (by rw [hp]; simp)
    obtain ⟨hr1, hr2, hr3, hr4⟩ := hr
    have h2 := hb pre (fun q hq => hF q (by rw [hp]; simp [hq]))
    have step := fun k hk => ih (pre ++ [r]) k (by rw [hp]; simp) hk
    simp only [List.length_append, List.length_cons, List.length_nil, Nat.zero_add, Int.natCast_add, Int.natCast_one, List.flatMap_append, List.flatMap_cons, List.flatMap_nil, List.append_nil] at step
    rw [naskhref30_Order.l0, if_pos (by omega), if_pos (by omega), hrd]
    unfold naskhref03_Right.f
    by_cases h0 : 0 ≤ r.f0.f0
    · rw [if_pos h0, Option.bind_some]
      by_cases h1 : r.f0.f0 < r.f0.f1
      · rw [if_pos (decide_eq_true h1)]
        have e : plcs r = if r.f1 % 2 = 1 then (baseS r.f0.f0 r.f0.f1).reverse else baseS r.f0.f0 r.f0.f1 := by unfold plcs; rw [if_pos ⟨h0, h1⟩]
        rw [e] at step
        have := reforder1_loop l (pre.length : Int) r.f0.f0 r.f0.f1 r.f1 (r.f0.f1 - r.f0.f0).toNat (by omega) h0 (by omega) ⟨by omega, by omega⟩ (by rw [hrd]) (pre.flatMap plcs) (by omega) (some (l.flatMap plcs)) (1000 * rest.length + 1001) (fun k hk => by
          rw [w64 (by omega) (by omega)]
          exact step k (by omega)) (r.f0.f1 - r.f0.f0).toNat 0 k (by omega) (by omega)
        have e2 : (if r.f1 % 2 = 1 then (baseS (r.f0.f1 - ((0 : Nat) : Int)) r.f0.f1).reverse else baseS r.f0.f0 (r.f0.f0 + ((0 : Nat) : Int))) = [] := by simp [baseS]
        rw [e2, List.append_nil] at this
        exact this
      · rw [if_neg (by simp [h1]), w64 (by omega) (by omega)]
        have e : plcs r = [] := by unfold plcs; rw [if_neg (by omega)]
        rw [e, List.append_nil] at step
        exact step k (by omega)
    · rw [if_neg h0, Option.bind_some, if_neg (by simp), w64 (by omega) (by omega)]
      have e : plcs r = [] := by unfold plcs; rw [if_neg (by omega)]
      rw [e, List.append_nil] at step
      exact step k (by omega)
set_option maxRecDepth 20000 in
theorem reforder_f (l : List S35) (hl : l.length ≤ 1000) (hF : ∀ r ∈ l, Fit r) (k : Nat) (hk : 2000000 ≤ k) : naskhref30_Order.f k l = some (l.flatMap plcs) := by
  unfold naskhref30_Order.f
  exact reforder_loop l hl hF l [] k rfl (Nat.lt_of_lt_of_le (Nat.lt_of_le_of_lt (Nat.add_le_add_right (Nat.mul_le_mul_left 1000 hl) 1000) (by decide : 1000 * 1000 + 1000 < 2000000)) hk)
/-! ### Rows of places, and rows of runs -/
theorem turnA_true (q : Int → Bool) : ∀ (g acc rest : List Int), (∀ p ∈ g, q p = true) → order_Visual.turnA q acc (g ++ rest) = order_Visual.turnA q (g.reverse ++ acc) rest
  | [], acc, rest, _ => by simp
  | p :: g, acc, rest, h => by
    rw [List.cons_append, order_Visual.turnA, if_pos (h p (by simp)), turnA_true q g (p :: acc) rest (fun x hx => h x (by simp [hx]))]
    simp
theorem turnA_false (q : Int → Bool) : ∀ (g acc rest : List Int), g ≠ [] → (∀ p ∈ g, q p = false) → order_Visual.turnA q acc (g ++ rest) = acc ++ (g ++ order_Visual.turnA q [] rest)
  | [p], acc, rest, _, h => by rw [List.cons_append, List.nil_append, order_Visual.turnA, if_neg (by simp [h p (by simp)])]; simp
  | p :: p2 :: g, acc, rest, _, h => by
    rw [List.cons_append, order_Visual.turnA, if_neg (by simp [h p (by simp)]), turnA_false q (p2 :: g) [] rest (by simp) (fun x hx => h x (List.mem_cons_of_mem _ hx))]
    simp
theorem turn_runs (q : Int → Bool) (Q : S35 → Bool) (g : S35 → List Int) : ∀ (rest acc : List S35), (∀ r ∈ rest, g r ≠ [] ∧ ∀ p ∈ g r, q p = Q r) → (∀ r ∈ acc, Q r = true) →
    order_Visual.turnA q (acc.flatMap fun r => if Q r = true then (g r).reverse else g r) (rest.flatMap g) = (turnG Q acc rest).flatMap fun r => if Q r = true then (g r).reverse else g r
  | [], acc, _, _ => by simp [order_Visual.turnA, turnG]
  | r :: t, acc, h, ha => by
    obtain ⟨h1, h2⟩ := h r (by simp)
    have ht := fun x hx => h x (List.mem_cons_of_mem r hx)
    rw [List.flatMap_cons, turnG]
    cases hq : Q r with
    | true =>
      rw [turnA_true q (g r) _ _ (fun p hp => by rw [h2 p hp, hq]), if_pos rfl]
      have e : (g r).reverse ++ (acc.flatMap fun r => if Q r = true then (g r).reverse else g r) = (r :: acc).flatMap fun r => if Q r = true then (g r).reverse else g r := by rw [List.flatMap_cons, if_pos hq]
      rw [e]
      exact turn_runs q Q g t (r :: acc) ht (fun x hx => by
        rcases List.mem_cons.1 hx with rfl | hx
        · exact hq
        · exact ha x hx)
    | false =>
      rw [turnA_false q (g r) _ _ h1 (fun p hp => by rw [h2 p hp, hq]), if_neg (by simp)]
      have := turn_runs q Q g t [] ht (fun x hx => by simp at hx)
      rw [List.flatMap_nil] at this
      rw [this, List.flatMap_append, List.flatMap_cons, if_neg (by simp [hq])]
/-- How a run stands once all above a level has been turned. -/
def ori (level : Int) (r : S35) : List Int := if level < lev r ∧ (lev r - level) % 2 = 1 then (baseS r.f0.f0 r.f0.f1).reverse else baseS r.f0.f0 r.f0.f1
theorem ori_step (level : Int) (r : S35) : (if decide (level ≤ lev r) = true then (ori level r).reverse else ori level r) = ori (level - 1) r := by
  unfold ori
  by_cases h : level ≤ lev r
  · rw [if_pos (decide_eq_true h)]
    by_cases h2 : (lev r - level) % 2 = 1
    · rw [if_pos ⟨by omega, h2⟩, if_neg (by omega), List.reverse_reverse]
    · rw [if_neg (by omega), if_pos (by omega)]
  · rw [if_neg (by simp [h]), if_neg (by omega), if_neg (by omega)]
theorem ori_mem (level : Int) (r : S35) (p : Int) : p ∈ ori level r ↔ r.f0.f0 ≤ p ∧ p < r.f0.f1 := by
  unfold ori
  split
  · rw [List.mem_reverse, baseS_mem]
  · exact baseS_mem _ _ _
/-- What a run is, of given levels. -/
def Runs (lv : List Int) (r : S35) : Prop := 0 ≤ r.f0.f0 ∧ r.f0.f0 < r.f0.f1 ∧ r.f0.f1 ≤ (lv.length : Int) ∧ ∀ p, r.f0.f0 ≤ p → p < r.f0.f1 → rd lv p = lev r
theorem down_runs (lv : List Int) : ∀ (n : Nat) (level : Int) (l : List S35), (∀ r ∈ l, Runs lv r) → order_Visual.down lv n level (l.flatMap (ori level)) = (downG lev n level l).flatMap (ori (level - n))
  | 0, level, l, _ => by simp [order_Visual.down, downG]
  | n + 1, level, l, h => by
    rw [order_Visual.down, downG]
    have hs := turn_runs (fun p => decide (level ≤ rd lv p)) (fun r => decide (level ≤ lev r)) (ori level) l [] (fun r hr => by
      obtain ⟨h1, h2, h3, h4⟩ := h r hr
      refine ⟨fun e => ?_, fun p hp => ?_⟩
      · have : r.f0.f0 ∈ ori level r := (ori_mem level r _).2 ⟨Int.le_refl _, h2⟩
        rw [e] at this
        simp at this
      · have := (ori_mem level r p).1 hp
        simp only [h4 p this.1 this.2]) (fun r hr => by simp at hr)
    rw [List.flatMap_nil] at hs
    have e : (fun r => if decide (level ≤ lev r) = true then (ori level r).reverse else ori level r) = ori (level - 1) := funext (ori_step level)
    rw [e] at hs
    rw [hs, down_runs lv n (level - 1) _ (fun r hr => h r (by rw [turnG_mem] at hr; simpa using hr))]
    congr 2
    omega
theorem chain_runs (x0 : List Int) (hx : ∀ x ∈ x0, 0 ≤ x ∧ x ≤ 126) : ∀ (rs : List S35) (lo hi : Int), 0 ≤ lo → Chain x0 lo rs hi → ∀ r ∈ rs, Runs (x0.map clamp) r ∧ lev r = r.f1 ∧ 0 ≤ r.f1 ∧ r.f1 ≤ 126
  | [], _, _, _, _, r, hr => by simp at hr
  | s :: rs, lo, hi, h0, ⟨h1, h2, h3, h4, h5, h6⟩, r, hr => by
    rcases List.mem_cons.1 hr with e | hr
    · subst e
      have hlev : rd x0 lo = r.f1 := h4 lo (by omega) h2
      have hmem : rd x0 lo ∈ x0 := by
        have h7 : lo.toNat < x0.length := by omega
        simp [rd, h7]
      have hb := hx _ hmem
      rw [hlev] at hb
      have hl : lev r = r.f1 := by unfold lev clamp mx mn; repeat' split <;> omega
      refine ⟨⟨by omega, by omega, by rw [List.length_map]; omega, fun p a b => ?_⟩, hl, hb⟩
      have h7 : p.toNat < x0.length := by omega
      have h8 := h4 p (by omega) b
      have : rd (x0.map clamp) p = clamp (rd x0 p) := by simp [rd, h7]
      rw [this, h8]
      rfl
    · exact chain_runs x0 hx rs s.f0.f1 hi (by omega) h6 r hr
theorem chain_base (x0 : List Int) : ∀ (rs : List S35) (lo hi : Int), Chain x0 lo rs hi → rs.flatMap (fun r => baseS r.f0.f0 r.f0.f1) = baseS lo hi
  | [], lo, hi, h => by simp [Chain] at h; subst h; simp [baseS]
  | s :: rs, lo, hi, ⟨h1, h2, h3, h4, h5, h6⟩ => by
    have hl := Chain.len h6
    rw [List.flatMap_cons, chain_base x0 rs s.f0.f1 hi h6, h1, baseS_append _ _ _ (by omega) (by omega)]
theorem iota_base (n : Nat) : order_Visual.iota n = baseS 0 (n : Int) := by
  unfold order_Visual.iota baseS
  simp
theorem mostL_iff : ∀ (l : List S35) (m B : Int), mostL m l ≤ B ↔ m ≤ B ∧ ∀ x ∈ l, lev x ≤ B
  | [], m, B => by simp [mostL]
  | x :: rest, m, B => by
    rw [mostL, mostL_iff rest]
    have : mx m (lev x) ≤ B ↔ m ≤ B ∧ lev x ≤ B := by unfold mx; split <;> omega
    rw [this]
    simp [and_assoc]
theorem most_iff : ∀ (l : List Int) (m B : Int), most m l ≤ B ↔ m ≤ B ∧ ∀ x ∈ l, x ≤ B
  | [], m, B => by simp [most]
  | x :: rest, m, B => by
    rw [most, most_iff rest]
    have : mx m x ≤ B ↔ m ≤ B ∧ x ≤ B := by unfold mx; split <;> omega
    rw [this]
    simp [and_assoc]
theorem leastL_iff : ∀ (l : List S35) (m B : Int), leastL m l ≤ B ↔ m ≤ B ∨ ∃ x ∈ l, lev x % 2 = 1 ∧ lev x ≤ B
  | [], m, B => by simp [leastL]
  | x :: rest, m, B => by
    rw [leastL, leastL_iff rest]
    by_cases h : lev x % 2 = 1
    · rw [if_pos h]
      have : mn m (lev x) ≤ B ↔ m ≤ B ∨ lev x ≤ B := by unfold mn; split <;> omega
      rw [this]
      simp [h, or_assoc]
    · rw [if_neg h]
      simp [h]
theorem leastL_le127 (l : List S35) : leastL 127 l ≤ 127 := (leastL_iff l 127 127).2 (Or.inl (Int.le_refl _))
/-- Levels of places are levels of runs. -/
theorem some_level (x0 : List Int) (rs : List S35) (hr : ∀ r ∈ rs, Runs (x0.map clamp) r) (hc : Chain x0 0 rs x0.length) (Q : Int → Prop) : (∃ x ∈ x0.map clamp, Q x) ↔ ∃ r ∈ rs, Q (lev r) := by
  have hb := chain_base x0 rs 0 _ hc
  constructor
  · rintro ⟨x, hx, hq⟩
    obtain ⟨i, hi, e⟩ := List.mem_iff_getElem.1 hx
    rw [List.length_map] at hi
    have hm : (i : Int) ∈ rs.flatMap (fun r => baseS r.f0.f0 r.f0.f1) := by rw [hb, baseS_mem]; omega
    obtain ⟨r, h1, h2⟩ := List.mem_flatMap.1 hm
    rw [baseS_mem] at h2
    have h3 := (hr r h1).2.2.2 (i : Int) h2.1 h2.2
    refine ⟨r, h1, ?_⟩
    rw [← h3, rd_nat _ i (by rw [List.length_map]; exact hi), e]
    exact hq
  · rintro ⟨r, h1, hq⟩
    obtain ⟨a1, a2, a3, a4⟩ := hr r h1
    refine ⟨rd (x0.map clamp) r.f0.f0, ?_, by rw [a4 _ (Int.le_refl _) a2]; exact hq⟩
    have h7 : r.f0.f0.toNat < (x0.map clamp).length := by omega
    simp only [rd]
    rw [List.getD_eq_getElem?_getD, List.getElem?_eq_getElem h7]
    exact List.getElem_mem h7
theorem runs_are_order (x0 : List Int) (rs : List S35) (hx : ∀ x ∈ x0, 0 ≤ x ∧ x ≤ 126) (hc : Chain x0 0 rs x0.length) : (visR rs).flatMap plcs = vis (x0.map clamp) := by
  have hR := chain_runs x0 hx rs 0 _ (by omega) hc
  have hR1 : ∀ r ∈ rs, Runs (x0.map clamp) r := fun r hr => (hR r hr).1
  have hS := some_level x0 rs hR1 hc
  have hL := lev_map x0
  have hmost : most 0 (x0.map clamp) = mostL 0 rs := by
    apply Int.le_antisymm
    · rw [most_iff]
      refine ⟨mostL_ge rs 0, fun x hxm => ?_⟩
      obtain ⟨r, h1, h2⟩ := (hS (fun y => y = x)).1 ⟨x, hxm, rfl⟩
      rw [← h2]; exact mostL_mem rs 0 r h1
    · rw [mostL_iff]
      refine ⟨most_ge _ 0, fun r hr => ?_⟩
      obtain ⟨x, h1, h2⟩ := (hS (fun y => y = lev r)).2 ⟨r, hr, rfl⟩
      have := ((most_iff (x0.map clamp) 0 (most 0 (x0.map clamp))).1 (Int.le_refl _)).2 x h1
      omega
  have hodd : ∀ level : Int, level ≤ 126 → ((0 < (bnd 0 0 (x0.map clamp)).2 ∧ (bnd 0 0 (x0.map clamp)).2 ≤ level) ↔ leastL 127 rs ≤ level) := fun level hl => by
    rw [(bnd_odd (x0.map clamp) 0 0 hL (by omega) level).1, leastL_iff]
    have := hS (fun y => y % 2 = 1 ∧ y ≤ level)
    rw [this]
    constructor
    · rintro (h | h)
      · omega
      · exact Or.inr h
    · rintro (h | h)
      · omega
      · exact Or.inr h
  have hm126 := mostL_le rs 0 (by omega)
  have hm0 := mostL_ge rs 0
  have hl127 := leastL_le127 rs
  have hstart : rs.flatMap (ori (mostL 0 rs)) = order_Visual.iota (x0.map clamp).length := by
    rw [iota_base, List.length_map, ← chain_base x0 rs 0 _ hc]
    apply flatMap_congr_
    intro r hr
    have := mostL_mem rs 0 r hr
    unfold ori
    rw [if_neg (by omega)]
  have hplc : ∀ (end_ : Int) (r : S35), r ∈ rs → (lev r % 2 = 1 ↔ (end_ < lev r ∧ (lev r - end_) % 2 = 1)) → plcs r = ori end_ r := fun end_ r hr hi => by
    obtain ⟨⟨a1, a2, a3, a4⟩, b1, b2, b3⟩ := hR r hr
    unfold plcs ori
    rw [if_pos ⟨a1, a2⟩, ← b1]
    by_cases h : lev r % 2 = 1
    · rw [if_pos h, if_pos (hi.1 h)]
    · rw [if_neg h, if_neg (fun e => h (hi.2 e))]
  unfold vis visR
  rw [← hstart, bnd_most, hmost]
  by_cases ho : 0 < (bnd 0 0 (x0.map clamp)).2
  · rw [if_pos ho]
    obtain ⟨od, hod⟩ : ∃ od, (bnd 0 0 (x0.map clamp)).2 = od := ⟨_, rfl⟩
    rw [hod] at ho hodd ⊢
    have hodp : od ≤ 126 ∧ od % 2 = 1 := by
      have h1 := (bnd_odd (x0.map clamp) 0 0 hL (by omega) od).1
      rw [hod] at h1
      rcases h1.1 ⟨ho, Int.le_refl _⟩ with h2 | ⟨x, h2, h3, h4⟩
      · omega
      · have := (bnd_odd (x0.map clamp) 0 0 hL (by omega) x).1
        rw [hod] at this
        have h5 := this.2 (Or.inr ⟨x, h2, h3, Int.le_refl _⟩)
        have h6 := hL x h2
        have : x = od := by omega
        omega
    have hle : leastL 127 rs = od := by
      have h1 := (hodd od hodp.1).1 ⟨ho, Int.le_refl _⟩
      have h2 := (hodd (leastL 127 rs) (by omega)).2 (Int.le_refl _)
      omega
    rw [hle]
    obtain ⟨n, hn⟩ : ∃ n, (mostL 0 rs - od + 1).toNat = n := ⟨_, rfl⟩
    rw [hn, down_runs _ n _ rs hR1]
    apply flatMap_congr_
    intro r hr
    rw [downG_mem] at hr
    refine hplc _ r hr ?_
    have h1 := mostL_mem rs 0 r hr
    have h2 : lev r % 2 = 1 → od ≤ lev r := fun h => by
      have := (leastL_iff rs 127 (lev r)).2 (Or.inr ⟨r, hr, h, Int.le_refl _⟩)
      omega
    by_cases h3 : od ≤ mostL 0 rs
    · constructor
      · intro h; have := h2 h; omega
      · intro h; omega
    · constructor
      · intro h; have := h2 h; omega
      · intro h; omega
  · rw [if_neg ho]
    have hle : leastL 127 rs = 127 := by
      by_cases h : leastL 127 rs ≤ 126
      · exact absurd ((hodd _ h).2 (Int.le_refl _)).1 ho
      · omega
    rw [hle, show (mostL 0 rs - 127 + 1).toNat = 0 by omega, downG]
    apply flatMap_congr_
    intro r hr
    refine hplc _ r hr ?_
    have h1 := mostL_mem rs 0 r hr
    constructor
    · intro h
      have := (leastL_iff rs 127 (lev r)).2 (Or.inr ⟨r, hr, h, Int.le_refl _⟩)
      omega
    · intro h; omega

theorem awake_ok : naskhlaw30_awake.f 40 = some true := by decide +kernel
theorem haw (k : Nat) (hk : 40 ≤ k) : naskhlaw30_awake.f k = some true := at_rounds (fun k => naskhlaw30_awake.mono k) hk awake_ok
theorem law1_loop (l0 : List Int) (hn : l0.length ≤ 200) : ∀ (rest pre : List Int) (k : Nat), l0 = pre ++ rest → (∀ x ∈ pre, 0 ≤ x ∧ x ≤ 126) → rest.length + 300000000 < k → naskhlaw30_RunsOrder.l1 k l0 l0 (l0.length : Int) (pre.length : Int) = some true := by
  intro rest
  induction rest with
  | nil =>
    intro pre k hl hp hk
    obtain ⟨k, rfl⟩ : ∃ m, k = m + 1 := ⟨k - 1, by omega⟩
    rw [List.append_nil] at hl
    subst hl
    obtain ⟨rs, e, hc⟩ := logical_f l0 (by omega) k (by omega)
    have hlen := Chain.len hc
    have hvl := visR_length rs
    have hR := chain_runs l0 hp rs 0 _ (by omega) hc
    have hF : ∀ r ∈ visR rs, Fit r := fun r hr => by
      unfold visR at hr
      rw [downG_mem] at hr
      obtain ⟨⟨a1, a2, a3, a4⟩, b1, b2, b3⟩ := hR r hr
      rw [List.length_map] at a3
      exact ⟨⟨by omega, by omega⟩, ⟨by omega, by omega⟩, ⟨by omega, by omega⟩, Or.inl (by omega)⟩
    have hvis := runs_are_order l0 rs hp hc
    have hlv : (vis (l0.map clamp)).length ≤ 400 * 200 := by
      rw [← hvis]
      have hb : ∀ pre : List S35, (∀ r ∈ pre, Fit r) → (pre.flatMap plcs).length ≤ 400 * pre.length := by
        intro pre
        induction pre with
        | nil => intro _; simp
        | cons r pre ih =>
          intro h
          have h1 := plcs_le r (h r (by simp))
          have h2 := ih (fun r hr => h r (by simp [hr]))
          rw [List.flatMap_cons, List.length_append, List.length_cons]
          omega
      have := hb _ hF
      omega
    rw [naskhlaw30_RunsOrder.l1, if_neg (by omega), runsvisual_f l0 rs hc (by omega) k (by omega), Option.bind_some, order_f _ (by omega) hF k (by omega), Option.bind_some, hvis, visual_f l0 k (by omega) (by omega), Option.bind_some,
      equal_self_int_int _ (by omega) k (by omega), Option.bind_some, if_pos rfl, haw k (by omega)]
    rfl
  | cons x rest ih =>
    intro pre k hl hp hk
    obtain ⟨k, rfl⟩ : ∃ m, k = m + 1 := ⟨k - 1, by omega⟩
    rw [List.length_cons] at hk
    have hlen : l0.length = pre.length + rest.length + 1 := by rw [hl]; simp; omega
    have hrd : rd l0 (pre.length : Int) = x := by rw [hl]; exact rd_at pre x rest
    rw [naskhlaw30_RunsOrder.l1, if_pos (by omega), if_pos (by omega), if_pos (by omega), hrd]
    by_cases h1 : x < 0
    · rw [if_pos h1, haw k (by omega)]; rfl
    · rw [if_neg h1]
      by_cases h2 : x > 126
      · rw [if_pos h2, haw k (by omega)]; rfl
      · rw [if_neg h2, w64 (by omega) (by omega)]
        have step := ih (pre ++ [x]) k (by rw [hl]; simp) (fun y hy => by
          rcases List.mem_append.1 hy with hy | hy
          · exact hp y hy
          · rw [List.mem_singleton] at hy; omega) (by omega)
        simp only [List.length_append, List.length_cons, List.length_nil, Nat.zero_add, Int.natCast_add, Int.natCast_one] at step
        exact step
theorem law0_loop (l0 : List Int) (l1 : List S35) (hn : l0.length ≤ 200) (hm : (l1.length : Int) ≤ 9223372036854775000) (hw : ∀ x ∈ l1, (Lit.int .i64 x.f0.f0).wf = true ∧ (Lit.int .i64 x.f0.f1).wf = true ∧ (Lit.int .i64 x.f1).wf = true) : ∀ (rest pre : List S35) (k : Nat), l1 = pre ++ rest → pre.length ≤ 100 → (∀ r ∈ pre, Fit r) → (100 - pre.length) + 300000400 < k →
    naskhlaw30_RunsOrder.l0 k l0 l1 l1 (l1.length : Int) (pre.length : Int) = some true := by
  intro rest
  induction rest with
  | nil =>
    intro pre k hl hp hF hk
    obtain ⟨k, rfl⟩ : ∃ m, k = m + 1 := ⟨k - 1, by omega⟩
    rw [List.append_nil] at hl
    subst hl
    have hb : ∀ pre : List S35, (∀ r ∈ pre, Fit r) → (pre.flatMap plcs).length ≤ 400 * pre.length := by
      intro pre
      induction pre with
      | nil => intro _; simp
      | cons r pre ih =>
        intro h
        have h1 := plcs_le r (h r (by simp))
        have h2 := ih (fun r hr => h r (by simp [hr]))
        rw [List.flatMap_cons, List.length_append, List.length_cons]
        omega
    have hbl := hb l1 hF
    rw [naskhlaw30_RunsOrder.l0, if_neg (by omega), order_f l1 (by omega) hF k (by omega), Option.bind_some, reforder_f l1 (by omega) hF k (by omega), Option.bind_some, equal_self_int_int _ (by omega) k (by omega), Option.bind_some, if_pos rfl]
    exact law1_loop l0 hn l0 [] k rfl (fun x hx => by simp at hx) (by omega)
  | cons x rest ih =>
    intro pre k hl hp hF hk
    obtain ⟨k, rfl⟩ : ∃ m, k = m + 1 := ⟨k - 1, by omega⟩
    have hlen : l1.length = pre.length + rest.length + 1 := by rw [hl]; simp; omega
    have hrd : rd_T35 l1 (pre.length : Int) = x := by rw [hl]; exact rd35_at pre x rest
    obtain ⟨w1, w2, w3⟩ := hw x (by rw [hl]; simp)
    rw [naskhlaw30_RunsOrder.l0, if_pos (by omega), if_pos (by omega), if_pos (by omega), hrd]
    by_cases h0 : (pre.length : Int) ≥ 100
    · rw [if_pos h0, haw k (by omega)]; rfl
    · rw [if_neg h0, w64 (by omega) (by omega)]
      have step := fun (hfit : x.f0.f1 ≤ 400 ∨ x.f0.f0 < 0 ∨ x.f0.f1 ≤ x.f0.f0) => ih (pre ++ [x]) k (by rw [hl]; simp) (by simp; omega) (fun y hy => by
          rcases List.mem_append.1 hy with hy | hy
          · exact hF y hy
          · rw [List.mem_singleton] at hy; rw [hy]; exact ⟨wf64 w1, wf64 w2, wf64 w3, hfit⟩) (by simp; omega)
      simp only [List.length_append, List.length_cons, List.length_nil, Nat.zero_add, Int.natCast_add, Int.natCast_one] at step
      by_cases h1 : x.f0.f1 > 300
      · rw [if_pos h1]
        by_cases h2 : x.f0.f0 ≥ 0
        · rw [if_pos h2]
          by_cases h3 : x.f0.f0 < x.f0.f1
          · rw [if_pos h3, haw k (by omega)]; rfl
          · rw [if_neg h3]; exact step (by omega)
        · rw [if_neg h2]; exact step (by omega)
      · rw [if_neg h1]; exact step (by omega)
theorem RunsOrder_ok : naskhlaw30_RunsOrder.Pure := by
  intro l0 l1 h1 h2 h3 h4 h5 h6
  refine ⟨300001000, ?_⟩
  unfold naskhlaw30_RunsOrder.f
  by_cases hn : (l0.length : Int) > 200
  · rw [if_pos hn, haw 300001000 (by omega)]; rfl
  · rw [if_neg hn]
    exact law0_loop l0 l1 (by omega) (by omega) h6 l1 [] 300001000 rfl (by simp) (fun r hr => by simp at hr) (by simp)
end Go.Proofs.Ytjnhepgjkphkoaa.PureRunsOrderAux
namespace Go.Proofs.Ytjnhepgjkphkoaa.Pure
open Go.Proofs.Ytjnhepgjkphkoaa.PRunsOrder
theorem RunsOrder : naskhlaw30_RunsOrder.Pure := PureRunsOrderAux.RunsOrder_ok
end Go.Proofs.Ytjnhepgjkphkoaa.Pure
