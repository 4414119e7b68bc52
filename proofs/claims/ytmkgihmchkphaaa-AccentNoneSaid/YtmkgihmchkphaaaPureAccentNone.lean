/- Without marks nothing is changed. No condition. -/
import Derived.Test.YtmkgihmchkphaaaPAccentNonex
namespace Go.Proofs.Ytmkgihmchkphaaa.PureAccentNoneAux
open Go.RowKit Go.Proofs.Ytmkgihmchkphaaa.PAccentNone Go.Proofs.YtmkgihmchkphaaaW.PrintWords Go.Proofs.YtmkgihmchkphaaaW.PrintLast

set_option linter.unusedSimpArgs false
set_option linter.unusedVariables false
theorem w64 {x : Int} (h0 : -9223372036854775808 ≤ x) (h1 : x ≤ 9223372036854775807) : wrap64 x = x := by unfold wrap64; omega
theorem rd_at (pre : List Int) (x : Int) (rest : List Int) : rd (pre ++ x :: rest) (pre.length : Int) = x := by simp [rd]
theorem rd_nat (l : List Int) (i : Nat) (h : i < l.length) : rd l (i : Int) = l[i] := by simp [rd, h]
theorem wf64 {x : Int} (h : (Lit.int .i64 x).wf = true) : -9223372036854775808 ≤ x ∧ x ≤ 9223372036854775807 := by
  simpa [Lit.wf, IntKind.min, IntKind.max, IntKind.signed, IntKind.bits] using h
theorem bsome {P : Prop} [Decidable P] {b : Bool} (h : b = true ↔ P) : some b = some (decide P) := by
  congr 1; rw [Bool.eq_iff_iff]; simpa using h
theorem u16w {x : Int} (h0 : 0 ≤ x) (h1 : x ≤ 65535) : IntKind.u16.wrap x = x := by
  simp [IntKind.wrap, IntKind.min, IntKind.max, IntKind.signed, IntKind.bits]; omega

theorem wraps_i64' (n : Int) (h₀ : 0 ≤ n) (h₁ : n < 2 ^ 62) : IntKind.i64.wrap n = n := by rw [IntKind.wrap_i64]; omega
theorem and_mask (x : Int) (i : Nat) (hi : i ≤ 62) (h0 : 0 ≤ x) (h1 : x < 2 ^ 62) : Go.bits .and .i64 x (2 ^ i - 1) = x % 2 ^ i := bits_mask .i64 62 (by decide) wraps_i64' i hi x h0 h1

theorem eq_loop_int_int (a b : List Int) (hl : a.length = b.length) (hm : a.length ≤ 9223372036854775806) : ∀ d k i : Nat, i + d = a.length → d < k →
    slices_Equal_int_int.l0 k a b a.length i = some (decide (a.drop i = b.drop i)) := by
  intro d
  induction d with
  | zero =>
    intro k i hi hk
    obtain ⟨k, rfl⟩ : ∃ m, k = m + 1 := ⟨k - 1, by omega⟩
    simp only [slices_Equal_int_int.l0]
    rw [if_neg (by omega), List.drop_eq_nil_of_le (by omega), List.drop_eq_nil_of_le (by omega)]
    simp
  | succ d ih =>
    intro k i hi hk
    obtain ⟨k, rfl⟩ : ∃ m, k = m + 1 := ⟨k - 1, by omega⟩
    simp only [slices_Equal_int_int.l0]
    rw [if_pos (by omega), if_pos (by omega), if_pos (by omega), if_pos (by omega), rd_nat a i (by omega), rd_nat b i (by omega),
      List.drop_eq_getElem_cons (by omega : i < a.length), List.drop_eq_getElem_cons (by omega : i < b.length)]
    by_cases h : a[i]'(by omega) = b[i]'(by omega)
    · rw [if_pos h, w64 (by omega) (by omega)]
      have := ih k (i + 1) (by omega) (by omega)
      rw [Int.natCast_add] at this
      rw [show ((1 : Nat) : Int) = 1 from rfl] at this
      rw [this]
      congr 1
      rw [decide_eq_decide, List.cons.injEq]
      simp only [h, true_and]
    · rw [if_neg h]
      congr 1
      symm
      rw [decide_eq_false_iff_not, List.cons.injEq]
      exact fun e => h e.1
theorem equal_f_int_int (a b : List Int) (hm : a.length ≤ 9223372036854775806) (k : Nat) (hk : a.length < k) : slices_Equal_int_int.f k a b = some (decide (a = b)) := by
  unfold slices_Equal_int_int.f
  by_cases hl : a.length = b.length
  · rw [if_pos (by omega), show (0 : Int) = ((0 : Nat) : Int) from rfl, eq_loop_int_int a b hl hm a.length k 0 (by omega) hk]
    simp
  · rw [if_neg (by omega)]
    have : a ≠ b := fun e => hl (by rw [e])
    simp [this]
theorem equal_self_int_int (a : List Int) (hm : a.length ≤ 9223372036854775806) (k : Nat) (hk : a.length < k) : slices_Equal_int_int.f k a a = some true := by
  rw [equal_f_int_int a a hm k hk]; simp

/-- The reach of a row: the places from lo on whose levels are not below. -/
def order_Visual.run (lv : List Int) (level : Int) (o : List Int) : Nat := (o.takeWhile (fun p => decide (level ≤ rd lv p))).length
theorem order_Visual.run_nil (lv : List Int) (level : Int) : order_Visual.run lv level [] = 0 := rfl
theorem order_Visual.run_yes (lv : List Int) (level : Int) (o : List Int) (h : Nat) (hh : h < o.length) (hl : level ≤ rd lv (o.getD h 0)) : order_Visual.run lv level (o.drop h) = order_Visual.run lv level (o.drop (h + 1)) + 1 := by
  rw [List.drop_eq_getElem_cons hh]
  have : o.getD h 0 = o[h] := by simp [List.getD_eq_getElem?_getD, hh]
  rw [this] at hl
  simp only [order_Visual.run, List.takeWhile_cons, decide_eq_true hl, if_true, List.length_cons]
theorem order_Visual.run_no (lv : List Int) (level : Int) (o : List Int) (h : Nat) (hh : h < o.length) (hl : ¬ level ≤ rd lv (o.getD h 0)) : order_Visual.run lv level (o.drop h) = 0 := by
  rw [List.drop_eq_getElem_cons hh]
  have : o.getD h 0 = o[h] := by simp [List.getD_eq_getElem?_getD, hh]
  rw [this] at hl
  simp only [order_Visual.run, List.takeWhile_cons, decide_eq_false hl, Bool.false_eq_true, if_false, List.length_nil]
/-- All rows of a level or above turned round, 'acc' being the row that has begun, turned. -/
def order_Visual.turnA (q : Int → Bool) : List Int → List Int → List Int
  | acc, [] => acc
  | acc, p :: rest => if q p then order_Visual.turnA q (p :: acc) rest else acc ++ p :: order_Visual.turnA q [] rest
theorem order_Visual.turnA_run (lv : List Int) (level : Int) : ∀ (rest acc : List Int), order_Visual.turnA (fun p => decide (level ≤ rd lv p)) acc rest = (rest.take (order_Visual.run lv level rest)).reverse ++ (acc ++ order_Visual.turnA (fun p => decide (level ≤ rd lv p)) [] (rest.drop (order_Visual.run lv level rest)))
  | [], acc => by simp [order_Visual.turnA]
  | p :: t, acc => by
    by_cases h : level ≤ rd lv p
    · have e : order_Visual.run lv level (p :: t) = order_Visual.run lv level t + 1 := by simp only [order_Visual.run, List.takeWhile_cons, decide_eq_true h, if_true, List.length_cons]
      rw [e, order_Visual.turnA, if_pos (decide_eq_true h), order_Visual.turnA_run lv level t (p :: acc)]
      simp
    · have e : order_Visual.run lv level (p :: t) = 0 := by simp only [order_Visual.run, List.takeWhile_cons, decide_eq_false h, Bool.false_eq_true, if_false, List.length_nil]
      rw [e, order_Visual.turnA, if_neg (by simp [h])]
      simp [order_Visual.turnA, h]
theorem order_Visual.run_le (lv : List Int) (level : Int) (o : List Int) : order_Visual.run lv level o ≤ o.length := (List.takeWhile_prefix _).length_le
theorem order_Visual.turnA_mem (q : Int → Bool) (p : Int) : ∀ (rest acc : List Int), p ∈ order_Visual.turnA q acc rest ↔ p ∈ acc ∨ p ∈ rest
  | [], acc => by simp [order_Visual.turnA]
  | x :: t, acc => by
    rw [order_Visual.turnA]
    split
    · rw [order_Visual.turnA_mem q p t (x :: acc)]; simp; grind
    · simp only [List.mem_append, List.mem_cons, order_Visual.turnA_mem q p t []]; simp
/-- A round of 'turn': what is turned from lo on. -/
theorem order_Visual.turn_round (lv : List Int) (level : Int) (cur : List Int) (lo : Nat) (h : lo < cur.length) (r : Nat) (hr : order_Visual.run lv level (cur.drop lo) = r) (nx : Nat) (hnx : nx = if lo + r < lo + 1 then lo + 1 else lo + r) (new : List Int)
    (hnew : new = cur.take lo ++ (((cur.drop lo).take r).reverse ++ cur.drop (lo + r))) :
    new.length = cur.length ∧ nx ≤ cur.length ∧ lo < nx ∧ new.take nx ++ order_Visual.turnA (fun p => decide (level ≤ rd lv p)) [] (new.drop nx) = cur.take lo ++ order_Visual.turnA (fun p => decide (level ≤ rd lv p)) [] (cur.drop lo) ∧ (∀ p, p ∈ new → p ∈ cur) := by
  have hle : r ≤ cur.length - lo := by have := order_Visual.run_le lv level (cur.drop lo); rw [hr, List.length_drop] at this; exact this
  have hmem : ∀ p, p ∈ new → p ∈ cur := by
    intro p hp
    rw [hnew] at hp
    simp only [List.mem_append, List.mem_reverse] at hp
    rcases hp with hp | hp | hp
    · exact List.mem_of_mem_take hp
    · exact List.mem_of_mem_drop (List.mem_of_mem_take hp)
    · exact List.mem_of_mem_drop hp
  have hlen : new.length = cur.length := by rw [hnew]; simp; omega
  rw [order_Visual.turnA_run lv level (cur.drop lo) [], hr, List.nil_append, List.drop_drop]
  by_cases h0 : r = 0
  · subst h0
    rw [if_pos (by omega)] at hnx
    subst hnx
    have e : new = cur := by rw [hnew]; simp
    subst e
    refine ⟨rfl, by omega, by omega, ?_, hmem⟩
    simp only [Nat.add_zero, List.take_zero, List.reverse_nil, List.nil_append]
    have hd : List.drop lo new = new[lo] :: List.drop (lo + 1) new := List.drop_eq_getElem_cons h
    have hn : ¬ level ≤ rd lv new[lo] := by
      intro hh
      rw [hd] at hr
      simp only [order_Visual.run, List.takeWhile_cons, decide_eq_true hh, if_true, List.length_cons] at hr
      omega
    have ht : List.take (lo + 1) new = List.take lo new ++ [new[lo]] := by rw [List.take_add_one, List.getElem?_eq_getElem h]; rfl
    rw [hd, order_Visual.turnA, if_neg (by simp only [decide_eq_false hn]; decide), ht]
    simp only [List.append_assoc, List.cons_append, List.nil_append]
  · rw [if_neg (by omega)] at hnx
    subst hnx
    refine ⟨hlen, by omega, by omega, ?_, hmem⟩
    have e1 : new.take (lo + r) = cur.take lo ++ ((cur.drop lo).take r).reverse := by
      rw [hnew, ← List.append_assoc, List.take_append_of_le_length (by simp; omega), List.take_of_length_le (by simp; omega)]
    have e2 : new.drop (lo + r) = cur.drop (lo + r) := by
      rw [hnew, ← List.append_assoc, List.drop_append, List.drop_eq_nil_of_le (by simp; omega), List.nil_append]
      have : lo + r - (List.take lo cur ++ (List.take r (List.drop lo cur)).reverse).length = 0 := by simp; omega
      rw [this, List.drop_zero]
    rw [e1, e2, List.append_assoc]
/-- Down the levels: 'k' of them, from one on. -/
def order_Visual.down (lv : List Int) : Nat → Int → List Int → List Int
  | 0, _, o => o
  | k + 1, level, o => order_Visual.down lv k (level - 1) (order_Visual.turnA (fun p => decide (level ≤ rd lv p)) [] o)
def order_Visual.iota (n : Nat) : List Int := (List.range n).map (fun (i : Nat) => (i : Int))

def clamp (n : Int) : Int := mn (mx n 0) 126
theorem clamp_ge (n : Int) : 0 ≤ clamp n := by unfold clamp mn mx; repeat' split <;> omega
theorem clamp_le (n : Int) : clamp n ≤ 126 := by unfold clamp mn mx; repeat' split <;> omega
theorem set_at (a : List Int) (y v : Int) (b : List Int) : (a ++ y :: b).set a.length v = a ++ v :: b := by simp
/-- Levels that are not below 0, and not too great. -/
def Lev (l : List Int) : Prop := ∀ x ∈ l, 0 ≤ x ∧ x ≤ 126
theorem lev_map (l : List Int) : Lev (l.map clamp) := by
  intro x hx
  obtain ⟨y, _, rfl⟩ := List.mem_map.mp hx
  exact ⟨clamp_ge y, clamp_le y⟩
theorem and1 (x : Int) (h : 0 ≤ x) (h1 : x ≤ 126) : Go.bits .and .i64 x 1 = x % 2 := by
  have := and_mask x 1 (by decide) h (by omega)
  simpa using this
/-- The greatest level, and the least odd one, of what is behind. -/
def bnd : Int → Int → List Int → Int × Int
  | m, o, [] => (m, o)
  | m, o, x :: rest => bnd (mx m x) (if x % 2 = 1 ∧ (o = 0 ∨ x < o) then x else o) rest
/-- The greatest level. -/
def most : Int → List Int → Int
  | m, [] => m
  | m, x :: rest => most (mx m x) rest
theorem bnd_most : ∀ (l : List Int) (m o : Int), (bnd m o l).1 = most m l
  | [], _, _ => rfl
  | x :: rest, m, o => by rw [bnd, most, bnd_most rest]
theorem most_le : ∀ (l : List Int) (m : Int), Lev l → m ≤ 126 → most m l ≤ 126
  | [], _, _, h => h
  | x :: rest, m, hL, h => by
    rw [most]
    refine most_le rest _ (fun y hy => hL y (by simp [hy])) ?_
    have := hL x (by simp)
    unfold mx; split <;> omega
theorem most_ge : ∀ (l : List Int) (m : Int), m ≤ most m l
  | [], _ => by rw [most]; exact Int.le_refl _
  | x :: rest, m => by
    rw [most]
    have h1 := most_ge rest (mx m x)
    have h2 : m ≤ mx m x := by unfold mx; split <;> omega
    omega
/-- What the second of 'bnd' says. -/
theorem bnd_odd : ∀ (l : List Int) (m o : Int), Lev l → 0 ≤ o → ∀ level : Int, ((0 < (bnd m o l).2 ∧ (bnd m o l).2 ≤ level) ↔ ((0 < o ∧ o ≤ level) ∨ ∃ x ∈ l, x % 2 = 1 ∧ x ≤ level)) ∧ 0 ≤ (bnd m o l).2
  | [], m, o, _, ho, level => by simp [bnd, ho]
  | x :: rest, m, o, hL, ho, level => by
    rw [bnd]
    have hx := hL x (by simp)
    have hL' : Lev rest := fun y hy => hL y (by simp [hy])
    by_cases h : x % 2 = 1 ∧ (o = 0 ∨ x < o)
    · rw [if_pos h]
      obtain ⟨h1, h2⟩ := bnd_odd rest (mx m x) x hL' hx.1 level
      refine ⟨h1.trans ⟨?_, ?_⟩, h2⟩
      · rintro (h3 | ⟨y, hy, h3⟩)
        · exact Or.inr ⟨x, by simp, h.1, h3.2⟩
        · exact Or.inr ⟨y, by simp [hy], h3⟩
      · rintro (h3 | ⟨y, hy, h3⟩)
        · left; have := h.2; omega
        · rcases List.mem_cons.mp hy with rfl | hy
          · left; omega
          · exact Or.inr ⟨y, hy, h3⟩
    · rw [if_neg h]
      obtain ⟨h1, h2⟩ := bnd_odd rest (mx m x) o hL' ho level
      refine ⟨h1.trans ⟨?_, ?_⟩, h2⟩
      · rintro (h3 | ⟨y, hy, h3⟩)
        · exact Or.inl h3
        · exact Or.inr ⟨y, by simp [hy], h3⟩
      · rintro (h3 | ⟨y, hy, h3⟩)
        · exact Or.inl h3
        · rcases List.mem_cons.mp hy with e | hy
          · subst e
            left
            have h4 := h3.1
            have h5 := h3.2
            have h6 : ¬ (o = 0 ∨ y < o) := fun hh => h ⟨h4, hh⟩
            clear h1 h h3 h4
            omega
          · exact Or.inr ⟨y, hy, h3⟩
/-- The order in which places are seen. -/
def vis (lv : List Int) : List Int := if 0 < (bnd 0 0 lv).2 then order_Visual.down lv ((bnd 0 0 lv).1 - (bnd 0 0 lv).2 + 1).toNat (bnd 0 0 lv).1 (order_Visual.iota lv.length) else order_Visual.iota lv.length

/-- Where each number stands; none: the numbers are no order. -/
def plc : List Int → Nat → List Int → Option (List Int)
  | out, _, [] => some out
  | out, i, v :: rest => if 0 ≤ v ∧ v < (out.length : Int) ∧ rd out v < 0 then plc (out.set v.toNat (i : Int)) (i + 1) rest else none
theorem places_loop (l : List Int) (hm : l.length ≤ 35184372088832) : ∀ (rest pre out : List Int) (k : Nat), l = pre ++ rest → rest.length < k → out.length = l.length →
    order_places.l0 k l out l (l.length : Int) (pre.length : Int) = some (match plc out pre.length rest with | some o => (o, true) | none => ([], false)) := by
  intro rest
  induction rest with
  | nil =>
    intro pre out k hl hk ho
    obtain ⟨k, rfl⟩ : ∃ m, k = m + 1 := ⟨k - 1, by omega⟩
    rw [order_places.l0, if_neg (by rw [hl]; simp)]
    rfl
  | cons v rest ih =>
    intro pre out k hl hk ho
    obtain ⟨k, rfl⟩ : ∃ m, k = m + 1 := ⟨k - 1, by omega⟩
    rw [List.length_cons] at hk
    have hlen : l.length = pre.length + rest.length + 1 := by rw [hl]; simp; omega
    have hrd : rd l (pre.length : Int) = v := by rw [hl]; exact rd_at pre v rest
    have step := fun out ho => ih (pre ++ [v]) out k (by rw [hl]; simp) (by omega) ho
    simp only [List.length_append, List.length_cons, List.length_nil, Nat.zero_add, Int.natCast_add, Int.natCast_one] at step
    rw [order_places.l0, if_pos (by omega), if_pos (by omega), if_pos (by omega), hrd, plc]
    by_cases h1 : v < 0
    · rw [if_pos h1, if_neg (by omega)]
    · rw [if_neg h1]
      by_cases h2 : (l.length : Int) ≤ v
      · rw [if_pos h2, if_neg (by omega)]
      · rw [if_neg h2, if_pos (by omega), if_pos (by omega)]
        by_cases h3 : 0 ≤ rd out v
        · rw [if_pos h3, if_neg (by omega)]
        · rw [if_neg h3, if_pos (by omega), w64 (by omega) (by omega), step _ (by rw [List.length_set]; exact ho)]
theorem places_f (l : List Int) (k : Nat) (hk : l.length < k) (hl : l.length ≤ 35184372088832) :
    order_places.f k l = some (match plc (List.replicate l.length (-1)) 0 l with | some o => (o, true) | none => ([], false)) := by
  unfold order_places.f slices_Repeat_int_int.f
  rw [if_pos (show ([(-1)] : List Int).length = 1 from rfl), if_pos (by omega), if_pos (by omega), Option.bind_some]
  have := places_loop l hl l [] (List.replicate l.length (-1)) k rfl hk (by simp)
  simpa [rd] using this
theorem rd_set (out : List Int) (v w : Int) (x : Int) (hv : 0 ≤ v ∧ v < (out.length : Int)) (hw : 0 ≤ w) : rd (out.set v.toNat x) w = if w = v then x else rd out w := by
  unfold rd
  simp only [List.getD_eq_getElem?_getD, List.getElem?_set]
  by_cases h : w = v
  · subst h; rw [if_pos rfl, if_pos rfl, if_pos (by omega)]; rfl
  · rw [if_neg h, if_neg (by omega)]
/-- Numbers that are all unlike, and all in, are an order. -/
theorem plc_some : ∀ (rest pre out : List Int), (pre ++ rest).Nodup → (∀ v ∈ rest, 0 ≤ v ∧ v < (out.length : Int)) → (∀ v, 0 ≤ v → (0 ≤ rd out v → v ∈ pre ∨ (out.length : Int) ≤ v)) → ∃ o, plc out pre.length rest = some o
  | [], pre, out, _, _, _ => ⟨out, rfl⟩
  | v :: rest, pre, out, hd, hb, hs => by
    have hv := hb v (by simp)
    have hnp : v ∉ pre := by
      intro h
      rw [List.nodup_append] at hd
      exact hd.2.2 v h v (by simp) rfl
    have hneg : rd out v < 0 := by
      apply Classical.byContradiction
      intro h
      rcases hs v hv.1 (by omega) with h1 | h1
      · exact hnp h1
      · omega
    rw [plc, if_pos ⟨hv.1, hv.2, hneg⟩]
    have h := plc_some rest (pre ++ [v]) (out.set v.toNat (pre.length : Int)) (by simpa using hd) (by rw [List.length_set]; exact fun w hw => hb w (by simp [hw])) (fun w hw h => by
      rw [List.length_set]
      rw [rd_set out v w _ hv hw] at h
      by_cases e : w = v
      · left; simp [e]
      · rw [if_neg e] at h
        rcases hs w hw h with h1 | h1
        · left; simp [h1]
        · right; exact h1)
    simpa using h

theorem iota_mem (n : Nat) (p : Int) (h : p ∈ order_Visual.iota n) : 0 ≤ p ∧ p < (n : Int) := by
  simp only [order_Visual.iota, List.mem_map, List.mem_range] at h
  obtain ⟨i, hi, rfl⟩ := h
  omega
theorem iota_length (n : Nat) : (order_Visual.iota n).length = n := by simp [order_Visual.iota]
theorem turnA_length (q : Int → Bool) : ∀ (rest acc : List Int), (order_Visual.turnA q acc rest).length = acc.length + rest.length
  | [], acc => by simp [order_Visual.turnA]
  | x :: t, acc => by
    rw [order_Visual.turnA]
    split
    · rw [turnA_length q t (x :: acc)]; simp; omega
    · rw [List.length_append, List.length_cons, turnA_length q t []]; simp
theorem turnA_perm (q : Int → Bool) : ∀ (rest acc : List Int), (order_Visual.turnA q acc rest).Perm (acc ++ rest)
  | [], acc => by simp [order_Visual.turnA]
  | x :: t, acc => by
    rw [order_Visual.turnA]
    split
    · refine (turnA_perm q t (x :: acc)).trans ?_
      exact List.perm_middle.symm
    · refine List.Perm.append_left acc ?_
      exact List.Perm.cons x (by simpa using turnA_perm q t [])
theorem down_perm (lv : List Int) : ∀ (k : Nat) (level : Int) (o : List Int), (order_Visual.down lv k level o).Perm o
  | 0, _, o => List.Perm.refl o
  | k + 1, level, o => by
    rw [order_Visual.down]
    exact (down_perm lv k _ _).trans (by simpa using turnA_perm (fun p => decide (level ≤ rd lv p)) o [])
theorem vis_perm (lv : List Int) : (vis lv).Perm (order_Visual.iota lv.length) := by
  unfold vis
  split
  · exact down_perm _ _ _ _
  · exact List.Perm.refl _
theorem iota_nodup (n : Nat) : (order_Visual.iota n).Nodup := by
  unfold order_Visual.iota
  rw [List.nodup_iff_pairwise_ne, List.pairwise_map]
  exact (List.nodup_range (n := n)).imp (fun h e => h (by omega))
theorem vis_length (lv : List Int) : (vis lv).length = lv.length := by rw [(vis_perm lv).length_eq, iota_length]
theorem vis_mem (lv : List Int) (p : Int) (h : p ∈ vis lv) : 0 ≤ p ∧ p < (lv.length : Int) := iota_mem _ _ ((vis_perm lv).mem_iff.mp h)
theorem vis_nodup (lv : List Int) : (vis lv).Nodup := (vis_perm lv).nodup_iff.mpr (iota_nodup _)

theorem refheld_loop : ∀ (rest pre : List Int) (k : Nat), rest.length < k → pre.length + rest.length ≤ 17592186044416 →
    naskhref29_Held.l0 k (pre ++ rest) (pre.map clamp) (pre.length : Int) = some ((pre ++ rest).map clamp) := by
  intro rest
  induction rest with
  | nil =>
    intro pre k hk hm
    obtain ⟨k, rfl⟩ : ∃ m, k = m + 1 := ⟨k - 1, by omega⟩
    rw [naskhref29_Held.l0, if_neg (by simp)]
    simp
  | cons x rest ih =>
    intro pre k hk hm
    obtain ⟨k, rfl⟩ : ∃ m, k = m + 1 := ⟨k - 1, by omega⟩
    rw [List.length_cons] at hk hm
    have hlen : (pre ++ x :: rest).length = pre.length + rest.length + 1 := by simp; omega
    have step := ih (pre ++ [x]) k (by omega) (by simp; omega)
    simp only [List.append_assoc, List.cons_append, List.nil_append, List.length_append, List.length_cons, List.length_nil, Nat.zero_add, Int.natCast_add, Int.natCast_one, List.map_append, List.map_cons, List.map_nil] at step
    rw [naskhref29_Held.l0, if_pos (by omega), if_pos (by omega), if_pos (by simp; omega), rd_at, w64 (by omega) (by omega)]
    simp only [List.map_append, List.map_cons]
    exact step
theorem refheld_f (l : List Int) (k : Nat) (hk : l.length < k) (hl : l.length ≤ 17592186044416) : naskhref29_Held.f k l = some (l.map clamp) := by
  unfold naskhref29_Held.f
  have := refheld_loop l [] k hk (by simp; omega)
  simpa using this
/-- Whether an odd level is at most a level. -/
def oddLe (lv : List Int) (level : Int) : Bool := lv.any fun x => decide (x % 2 = 1 ∧ x ≤ level)
theorem refodd_loop (lv : List Int) (level : Int) : ∀ (rest pre : List Int) (k : Nat), lv = pre ++ rest → Lev rest → rest.length < k → pre.length + rest.length ≤ 9223372036854775806 →
    naskhref29_odd.l0 k lv level (pre.length : Int) = some (rest.any fun x => decide (x % 2 = 1 ∧ x ≤ level)) := by
  intro rest
  induction rest with
  | nil =>
    intro pre k hl hL hk hm
    obtain ⟨k, rfl⟩ : ∃ m, k = m + 1 := ⟨k - 1, by omega⟩
    rw [naskhref29_odd.l0, if_neg (by rw [hl]; simp)]
    rfl
  | cons x rest ih =>
    intro pre k hl hL hk hm
    obtain ⟨k, rfl⟩ : ∃ m, k = m + 1 := ⟨k - 1, by omega⟩
    rw [List.length_cons] at hk hm
    have hlen : lv.length = pre.length + rest.length + 1 := by rw [hl]; simp; omega
    have hx := hL x (by simp)
    have hrd : rd lv (pre.length : Int) = x := by rw [hl]; exact rd_at pre x rest
    have step := ih (pre ++ [x]) k (by rw [hl]; simp) (fun y hy => hL y (by simp [hy])) (by omega) (by simp; omega)
    simp only [List.length_append, List.length_cons, List.length_nil, Nat.zero_add, Int.natCast_add, Int.natCast_one] at step
    rw [naskhref29_odd.l0, if_pos (by omega), if_pos (by omega), hrd, Int.tmod_eq_emod_of_nonneg hx.1, w64 (by omega) (by omega), List.any_cons]
    by_cases h1 : x % 2 = 1
    · rw [if_pos h1]
      by_cases h2 : x ≤ level
      · rw [if_pos h2]; simp [h1, h2]
      · rw [if_neg h2, step]; simp [h2]
    · rw [if_neg h1, step]; simp [h1]
theorem refodd_f (lv : List Int) (level : Int) (k : Nat) (hL : Lev lv) (hk : lv.length < k) (hl : lv.length ≤ 35184372088832) : naskhref29_odd.f k lv level = some (oddLe lv level) := by
  unfold naskhref29_odd.f
  have := refodd_loop lv level lv [] k rfl hL hk (by simp; omega)
  exact this
theorem refplaces_loop (n : Nat) (hn : n ≤ 17592186044416) : ∀ (d i k : Nat), i + d = n → d < k → naskhref29_places.l0 k (n : Int) (order_Visual.iota i) (i : Int) = some (order_Visual.iota n) := by
  intro d
  induction d with
  | zero =>
    intro i k hi hk
    obtain ⟨k, rfl⟩ : ∃ m, k = m + 1 := ⟨k - 1, by omega⟩
    rw [naskhref29_places.l0, if_neg (by omega)]
    rw [show i = n by omega]
  | succ d ih =>
    intro i k hi hk
    obtain ⟨k, rfl⟩ : ∃ m, k = m + 1 := ⟨k - 1, by omega⟩
    have hl : (order_Visual.iota i).length = i := by simp [order_Visual.iota]
    have e : order_Visual.iota i ++ [(i : Int)] = order_Visual.iota (i + 1) := by simp [order_Visual.iota, List.range_succ]
    have step := ih (i + 1) k (by omega) (by omega)
    rw [naskhref29_places.l0, if_pos (by omega), if_pos (by omega), e, w64 (by omega) (by omega), ← step]
    rfl
theorem refplaces_f (n : Nat) (k : Nat) (hk : n < k) (hn : n ≤ 17592186044416) : naskhref29_places.f k (n : Int) = some (order_Visual.iota n) := by
  unfold naskhref29_places.f
  have := refplaces_loop n hn n 0 k (by omega) hk
  simpa [order_Visual.iota] using this
theorem set_set (a m b : List Int) (x y x' y' : Int) (i j : Nat) (hi : i = a.length) (hj : j = a.length + 1 + m.length) : ((a ++ x :: (m ++ y :: b)).set i x').set j y' = a ++ x' :: (m ++ y' :: b) := by
  subst hi hj
  rw [set_at]
  have : a ++ x' :: (m ++ y :: b) = (a ++ x' :: m) ++ y :: b := by simp
  rw [this]
  have h2 := set_at (a ++ x' :: m) y y' b
  rw [show (a ++ x' :: m).length = a.length + 1 + m.length by simp; omega] at h2
  rw [h2]
  simp
theorem list_ends : ∀ (m : List Int), 2 ≤ m.length → ∃ x m' y, m = x :: (m' ++ [y]) := by
  intro m hm
  match m, hm with
  | x :: t, hm =>
    have ht : t ≠ [] := by intro h; subst h; simp at hm
    exact ⟨x, t.dropLast, t.getLast ht, by rw [List.dropLast_concat_getLast ht]⟩
theorem refturn_loop : ∀ (n : Nat) (a m b : List Int) (k : Nat), m.length ≤ n → n < k → a.length + m.length + b.length ≤ 9223372036854775806 →
    naskhref29_turn.l0 k (a ++ (m ++ b)) (a.length : Int) ((a.length + m.length : Nat) : Int) = some (a ++ (m.reverse ++ b)) := by
  intro n
  induction n with
  | zero =>
    intro a m b k hm hk hM
    obtain ⟨k, rfl⟩ : ∃ m, k = m + 1 := ⟨k - 1, by omega⟩
    obtain rfl : m = [] := List.eq_nil_of_length_eq_zero (by omega)
    rw [naskhref29_turn.l0, w64 (by simp) (by simp), if_neg (by simp)]
    simp
  | succ n ih =>
    intro a m b k hm hk hM
    obtain ⟨k, rfl⟩ : ∃ m, k = m + 1 := ⟨k - 1, by omega⟩
    rw [naskhref29_turn.l0, w64 (by omega) (by omega)]
    by_cases h2 : 2 ≤ m.length
    · obtain ⟨x, m', y, rfl⟩ := list_ends m h2
      simp only [List.length_cons, List.length_append, List.length_nil] at hm hM h2
      have e1 : a ++ ((x :: (m' ++ [y])) ++ b) = a ++ x :: (m' ++ y :: b) := by simp
      have hl : (a ++ x :: (m' ++ y :: b)).length = a.length + m'.length + b.length + 2 := by simp; omega
      have e2 : ((a.length + (x :: (m' ++ [y])).length : Nat) : Int) = (a.length : Int) + (m'.length : Int) + 2 := by simp; omega
      have r1 : rd (a ++ x :: (m' ++ y :: b)) (a.length : Int) = x := rd_at a x _
      have r2 : rd (a ++ x :: (m' ++ y :: b)) ((a.length : Int) + (m'.length : Int) + 1) = y := by
        have h3 : a ++ x :: (m' ++ y :: b) = (a ++ x :: m') ++ y :: b := by simp
        have h4 : (a.length : Int) + (m'.length : Int) + 1 = ((a ++ x :: m').length : Int) := by simp; omega
        rw [h3, h4]
        exact rd_at _ y b
      rw [e1, e2, if_pos (by omega), w64 (by omega) (by omega), show (a.length : Int) + (m'.length : Int) + 2 - 1 = (a.length : Int) + (m'.length : Int) + 1 by omega,
        if_pos (by omega), if_pos (by omega), if_pos (by omega), if_pos (by omega), r1, r2, w64 (by omega) (by omega),
        set_set a m' b x y y x _ _ (by simp) (by omega)]
      have step := ih (a ++ [y]) m' (x :: b) k (by omega) (by omega) (by simp; omega)
      have f1 : (a ++ [y]) ++ (m' ++ x :: b) = a ++ y :: (m' ++ x :: b) := by simp
      have f2 : ((a ++ [y]).length : Int) = (a.length : Int) + 1 := by simp
      have f3 : (((a ++ [y]).length + m'.length : Nat) : Int) = (a.length : Int) + (m'.length : Int) + 1 := by simp; omega
      rw [f1, f2, f3] at step
      rw [step]
      simp
    · rw [if_neg (by omega)]
      match m, h2 with
      | [], _ => rfl
      | [x], _ => rfl
      | x :: y :: t, h2 => simp at h2
theorem refturn_f (l : List Int) (lo r : Nat) (k : Nat) (h : lo + r ≤ l.length) (hk : r < k) (hl : l.length ≤ 35184372088832) :
    naskhref29_turn.f k l (lo : Int) ((lo + r : Nat) : Int) = some (l.take lo ++ (((l.drop lo).take r).reverse ++ l.drop (lo + r))) := by
  unfold naskhref29_turn.f
  have e : l = l.take lo ++ ((l.drop lo).take r ++ l.drop (lo + r)) := by
    rw [← List.drop_drop, List.take_append_drop, List.take_append_drop]
  have h1 : (l.take lo).length = lo := by rw [List.length_take]; omega
  have h2 : ((l.drop lo).take r).length = r := by rw [List.length_take, List.length_drop]; omega
  have h3 : (l.drop (lo + r)).length ≤ l.length := by rw [List.length_drop]; omega
  have := refturn_loop r (l.take lo) ((l.drop lo).take r) (l.drop (lo + r)) k (by omega) hk (by omega)
  rw [h1, h2, ← e] at this
  exact this

theorem l3_loop (lv cur : List Int) (level : Int) (lo : Nat) (r : Option (List Int)) (K : Nat) (hp : ∀ p ∈ cur, 0 ≤ p ∧ p < (lv.length : Int)) (hn : cur.length ≤ 900) : ∀ (d h k : Nat), h + d = cur.length → K + d < k →
    (∀ k, K ≤ k → naskhref29_Visual.j4 k lv cur level (lo : Int) ((h + order_Visual.run lv level (cur.drop h) : Nat) : Int) = r) → naskhref29_Visual.l3 k lv cur level (lo : Int) (h : Int) = r := by
  intro d
  induction d with
  | zero =>
    intro h k hh hk hj
    obtain ⟨k, rfl⟩ : ∃ m, k = m + 1 := ⟨k - 1, by omega⟩
    rw [naskhref29_Visual.l3, if_neg (by omega)]
    have := hj k (by omega)
    rwa [List.drop_eq_nil_of_le (by omega), order_Visual.run_nil] at this
  | succ d ih =>
    intro h k hh hk hj
    obtain ⟨k, rfl⟩ : ∃ m, k = m + 1 := ⟨k - 1, by omega⟩
    have hlt : h < cur.length := by omega
    have hg : rd cur (h : Int) = cur.getD h 0 := by simp [rd]
    have hb := hp (rd cur (h : Int)) (by rw [rd_nat cur h hlt]; exact List.getElem_mem hlt)
    rw [naskhref29_Visual.l3, if_pos (by omega), if_pos (by omega), if_pos hb.1, if_pos hb.2]
    by_cases hl : level ≤ rd lv (rd cur (h : Int))
    · rw [if_pos hl, w64 (by omega) (by omega)]
      have e := order_Visual.run_yes lv level cur h hlt (by rw [← hg]; exact hl)
      refine ih (h + 1) k (by omega) (by omega) (fun k hk => ?_)
      have := hj k hk
      rw [e] at this
      rw [← this]
      congr 1
      omega
    · rw [if_neg hl]
      have e := order_Visual.run_no lv level cur h hlt (by rw [← hg]; exact hl)
      have := hj k (by omega)
      rw [e] at this
      exact this
/-- All that are turned at one level, or none. -/
def step (lv : List Int) (level : Int) (o : List Int) : List Int := if oddLe lv level = true then order_Visual.turnA (fun p => decide (level ≤ rd lv p)) [] o else o
set_option maxRecDepth 20000 in
theorem l2_loop (lv : List Int) (level : Int) (res : List Int) (r : Option (List Int)) (K n : Nat) (hL : Lev lv) (hlv : lv.length ≤ 900) (hK : 1000 ≤ K) (hn : n ≤ 900) (hlev : 1 ≤ level ∧ level ≤ 126)
    (hr : ∀ k, K ≤ k → naskhref29_Visual.l1 k lv res (level - 1) = r) : ∀ (d lo : Nat) (cur : List Int) (k : Nat), cur.length = n → lo ≤ n → n ≤ lo + d → (∀ p ∈ cur, 0 ≤ p ∧ p < (lv.length : Int)) → K + 1000 * (d + 1) ≤ k →
    (if oddLe lv level = true then cur.take lo ++ order_Visual.turnA (fun p => decide (level ≤ rd lv p)) [] (cur.drop lo) = res else cur = res) → naskhref29_Visual.l2 k lv cur level (lo : Int) = r := by
  intro d
  induction d with
  | zero =>
    intro lo cur k hc hlo hd hp hk hres
    obtain ⟨k, rfl⟩ : ∃ m, k = m + 1 := ⟨k - 1, by omega⟩
    rw [naskhref29_Visual.l2, if_neg (by omega), w64 (by omega) (by omega)]
    have : cur = res := by
      split at hres
      · rw [List.take_of_length_le (by omega), List.drop_eq_nil_of_le (by omega)] at hres
        simpa [order_Visual.turnA] using hres
      · exact hres
    rw [this]
    exact hr k (by omega)
  | succ d ih =>
    intro lo cur k hc hlo hd hp hk hres
    obtain ⟨k, rfl⟩ : ∃ m, k = m + 1 := ⟨k - 1, by omega⟩
    by_cases hlt : lo < n
    · rw [naskhref29_Visual.l2, if_pos (by omega)]
      obtain ⟨rr, hrr⟩ : ∃ rr, order_Visual.run lv level (cur.drop lo) = rr := ⟨_, rfl⟩
      have hle : rr ≤ n - lo := by have := order_Visual.run_le lv level (cur.drop lo); rw [hrr, List.length_drop] at this; omega
      obtain ⟨nx, hnx⟩ : ∃ nx, nx = if lo + rr < lo + 1 then lo + 1 else lo + rr := ⟨_, rfl⟩
      refine l3_loop lv cur level lo r (K + 1000 * (d + 1) + 1) hp (by omega) (cur.length - lo) lo k (by omega) (by omega) (fun k hk => ?_)
      obtain ⟨k, rfl⟩ : ∃ m, k = m + 1 := ⟨k - 1, by omega⟩
      rw [hrr, naskhref29_Visual.j4, refodd_f lv level k hL (by omega) (by omega), Option.bind_some]
      have hnext : wrap64 ((mx (lo : Int) (wrap64 (((lo + rr : Nat) : Int) - 1))) + 1) = (nx : Int) := by
        rw [show wrap64 (((lo + rr : Nat) : Int) - 1) = ((lo + rr : Nat) : Int) - 1 from w64 (by omega) (by omega)]
        have : mx (lo : Int) (((lo + rr : Nat) : Int) - 1) + 1 = (nx : Int) := by
          rw [hnx]; unfold mx
          repeat' split
          all_goals omega
        rw [this]
        have hnx2 : nx ≤ n := by rw [hnx]; split <;> omega
        exact w64 (by omega) (by omega)
      have hnx1 : nx ≤ n ∧ lo < nx := by rw [hnx]; split <;> omega
      by_cases ho : oddLe lv level = true
      · rw [if_pos ho, refturn_f cur lo rr k (by omega) (by omega) (by omega), Option.bind_some, hnext]
        obtain ⟨new, hnew⟩ : ∃ new, new = cur.take lo ++ (((cur.drop lo).take rr).reverse ++ cur.drop (lo + rr)) := ⟨_, rfl⟩
        obtain ⟨a1, a2, a3, a4, a5⟩ := order_Visual.turn_round lv level cur lo (by omega) rr hrr nx hnx new hnew
        rw [← hnew]
        rw [if_pos ho] at hres
        exact ih nx new k (by omega) (by omega) (by omega) (fun p h => hp p (a5 p h)) (by omega) (by rw [if_pos ho, a4, hres])
      · rw [if_neg ho, hnext]
        rw [if_neg ho] at hres
        exact ih nx cur k hc (by omega) (by omega) hp (by omega) (by rw [if_neg ho]; exact hres)
    · rw [naskhref29_Visual.l2, if_neg (by omega), w64 (by omega) (by omega)]
      have : cur = res := by
        split at hres
        · rw [List.take_of_length_le (by omega), List.drop_eq_nil_of_le (by omega)] at hres
          simpa [order_Visual.turnA] using hres
        · exact hres
      rw [this]
      exact hr k (by omega)
theorem step_length (lv : List Int) (level : Int) (o : List Int) : (step lv level o).length = o.length := by
  unfold step; split
  · rw [turnA_length]; simp
  · rfl
theorem step_mem (lv : List Int) (level : Int) (o : List Int) (p : Int) : p ∈ step lv level o ↔ p ∈ o := by
  unfold step; split
  · rw [order_Visual.turnA_mem]; simp
  · exact Iff.rfl
def rdown (lv : List Int) : Nat → List Int → List Int
  | 0, o => o
  | j + 1, o => rdown lv j (step lv ((j + 1 : Nat) : Int) o)
set_option maxRecDepth 20000 in
theorem l1_loop (lv : List Int) (hL : Lev lv) (hlv : lv.length ≤ 900) : ∀ (j : Nat) (cur : List Int) (k : Nat), j ≤ 126 → cur.length ≤ 900 → (∀ p ∈ cur, 0 ≤ p ∧ p < (lv.length : Int)) → 1000 + 1000000 * (j + 1) ≤ k →
    naskhref29_Visual.l1 k lv cur (j : Int) = some (rdown lv j cur) := by
  intro j
  induction j with
  | zero =>
    intro cur k hj hc hp hk
    obtain ⟨k, rfl⟩ : ∃ m, k = m + 1 := ⟨k - 1, by omega⟩
    rw [naskhref29_Visual.l1, if_neg (by omega)]
    rfl
  | succ j ih =>
    intro cur k hj hc hp hk
    obtain ⟨k, rfl⟩ : ∃ m, k = m + 1 := ⟨k - 1, by omega⟩
    rw [naskhref29_Visual.l1, if_pos (by omega), rdown]
    refine l2_loop lv ((j + 1 : Nat) : Int) (step lv ((j + 1 : Nat) : Int) cur) _ (1000 + 1000000 * (j + 1)) cur.length hL hlv (by omega) hc (by omega) (fun k hk => ?_) cur.length 0 cur k rfl (by omega) (by omega) hp (by omega) ?_
    · have e : ((j + 1 : Nat) : Int) - 1 = (j : Int) := by omega
      rw [e]
      exact ih _ k (by omega) (by rw [step_length]; exact hc) (fun p h => hp p ((step_mem _ _ _ _).mp h)) hk
    · unfold step
      split
      · simp
      · rfl
theorem l0_loop (lv x3 : List Int) (r : Option (List Int)) (K : Nat) : ∀ (rest pre : List Int) (m : Int) (k : Nat), lv = pre ++ rest → rest.length + K < k → lv.length ≤ 900 → (∀ k, K ≤ k → naskhref29_Visual.l1 k lv x3 (most m rest) = r) →
    naskhref29_Visual.l0 k lv x3 m (pre.length : Int) = r := by
  intro rest
  induction rest with
  | nil =>
    intro pre m k hl hk hn hr
    obtain ⟨k, rfl⟩ : ∃ m, k = m + 1 := ⟨k - 1, by omega⟩
    rw [naskhref29_Visual.l0, if_neg (by rw [hl]; simp)]
    exact hr k (by simp at hk; omega)
  | cons x rest ih =>
    intro pre m k hl hk hn hr
    obtain ⟨k, rfl⟩ : ∃ m, k = m + 1 := ⟨k - 1, by omega⟩
    rw [List.length_cons] at hk
    have hlen : lv.length = pre.length + rest.length + 1 := by rw [hl]; simp; omega
    have hrd : rd lv (pre.length : Int) = x := by rw [hl]; exact rd_at pre x rest
    have step := ih (pre ++ [x]) (mx m x) k (by rw [hl]; simp) (by omega) hn hr
    simp only [List.length_append, List.length_cons, List.length_nil, Nat.zero_add, Int.natCast_add, Int.natCast_one] at step
    rw [naskhref29_Visual.l0, if_pos (by omega), if_pos (by omega), hrd, w64 (by omega) (by omega), step]
theorem odd_iff (lv : List Int) (hL : Lev lv) (level : Int) : oddLe lv level = true ↔ (0 < (bnd 0 0 lv).2 ∧ (bnd 0 0 lv).2 ≤ level) := by
  have h := (bnd_odd lv 0 0 hL (by omega) level).1
  rw [h]
  simp [oddLe]
theorem rdown_none (lv : List Int) (hL : Lev lv) (h : ¬ 0 < (bnd 0 0 lv).2) : ∀ (j : Nat) (o : List Int), rdown lv j o = o
  | 0, _ => rfl
  | j + 1, o => by
    rw [rdown, rdown_none lv hL h j, step, if_neg]
    intro hh
    exact h ((odd_iff lv hL _).mp hh).1
theorem rdown_down (lv : List Int) (hL : Lev lv) (h : 0 < (bnd 0 0 lv).2) : ∀ (j : Nat) (o : List Int), rdown lv j o = order_Visual.down lv ((j : Int) - (bnd 0 0 lv).2 + 1).toNat (j : Int) o
  | 0, o => by
    have e : (((0 : Nat) : Int) - (bnd 0 0 lv).2 + 1).toNat = 0 := by omega
    rw [e]; rfl
  | j + 1, o => by
    rw [rdown, rdown_down lv hL h j, step]
    by_cases hj : (bnd 0 0 lv).2 ≤ ((j + 1 : Nat) : Int)
    · rw [if_pos ((odd_iff lv hL _).mpr ⟨h, hj⟩)]
      have e : (((j + 1 : Nat) : Int) - (bnd 0 0 lv).2 + 1).toNat = ((j : Int) - (bnd 0 0 lv).2 + 1).toNat + 1 := by omega
      rw [e, order_Visual.down]
      have e2 : ((j + 1 : Nat) : Int) - 1 = (j : Int) := by omega
      rw [e2]
    · rw [if_neg (fun hh => hj ((odd_iff lv hL _).mp hh).2)]
      have e : (((j + 1 : Nat) : Int) - (bnd 0 0 lv).2 + 1).toNat = 0 := by omega
      have e2 : ((j : Int) - (bnd 0 0 lv).2 + 1).toNat = 0 := by omega
      rw [e, e2]; rfl
theorem most_nonneg (l : List Int) : 0 ≤ most 0 l := most_ge l 0
set_option maxRecDepth 20000 in
theorem refvisual_f (l : List Int) (k : Nat) (hk : 200000000 ≤ k) (hl : l.length ≤ 900) : naskhref29_Visual.f k l = some (vis (l.map clamp)) := by
  unfold naskhref29_Visual.f
  have hL := lev_map l
  have hlm : (l.map clamp).length = l.length := List.length_map _
  rw [refheld_f l k (by omega) (by omega), Option.bind_some, refplaces_f _ k (by omega) (by omega), Option.bind_some]
  obtain ⟨j, hj⟩ : ∃ j : Nat, most 0 (l.map clamp) = (j : Int) := ⟨(most 0 (l.map clamp)).toNat, by have := most_nonneg (l.map clamp); omega⟩
  have hj2 : j ≤ 126 := by have := most_le (l.map clamp) 0 hL (by omega); omega
  have h := l0_loop (l.map clamp) (order_Visual.iota (l.map clamp).length) (some (rdown (l.map clamp) j (order_Visual.iota (l.map clamp).length))) 150000000 (l.map clamp) [] 0 k rfl (by omega) (by omega) (fun k hk => by
    rw [hj]
    have hk2 : 1000 + 1000000 * (j + 1) ≤ k := Nat.le_trans (Nat.le_trans (Nat.add_le_add_left (Nat.mul_le_mul_left 1000000 (Nat.succ_le_succ hj2)) 1000) (by decide : 1000 + 1000000 * (126 + 1) ≤ 150000000)) hk
    exact l1_loop _ hL (by omega) j _ k hj2 (by rw [iota_length]; omega) (fun p h => iota_mem _ p h) hk2)
  have h2 : naskhref29_Visual.l0 k (l.map clamp) (order_Visual.iota (l.map clamp).length) 0 0 = some (rdown (l.map clamp) j (order_Visual.iota (l.map clamp).length)) := h
  rw [h2]
  congr 1
  unfold vis
  split
  · rename_i ho
    rw [rdown_down _ hL ho, bnd_most, hj]
  · rename_i ho
    exact rdown_none _ hL ho j _


theorem vis_plc (lv : List Int) : ∃ o, plc (List.replicate lv.length (-1)) 0 (vis lv) = some o := by
  have := plc_some (vis lv) [] (List.replicate lv.length (-1)) (by simpa using vis_nodup lv) (fun v hv => by rw [List.length_replicate]; exact vis_mem lv v hv) (fun v h0 h1 => by
    right
    rw [List.length_replicate]
    apply Classical.byContradiction
    intro h
    have : rd (List.replicate lv.length (-1)) v = -1 := by
      unfold rd
      rw [List.getD_eq_getElem?_getD, List.getElem?_replicate, if_pos (by omega)]; rfl
    omega)
  simpa using this

theorem plc_range : ∀ (rest out : List Int) (i : Nat) (o : List Int), plc out i rest = some o → (∀ v ∈ rest, 0 ≤ v ∧ v < (out.length : Int)) ∧ o.length = out.length
  | [], out, i, o, h => by rw [plc] at h; obtain rfl := Option.some.inj h; exact ⟨fun v hv => by simp at hv, rfl⟩
  | v :: rest, out, i, o, h => by
    rw [plc] at h
    by_cases hc : 0 ≤ v ∧ v < (out.length : Int) ∧ rd out v < 0
    · rw [if_pos hc] at h
      obtain ⟨h1, h2⟩ := plc_range rest _ _ o h
      rw [List.length_set] at h1 h2
      refine ⟨fun w hw => ?_, h2⟩
      rcases List.mem_cons.mp hw with e | hw
      · subst e; exact ⟨hc.1, hc.2.1⟩
      · exact h1 w hw
    · rw [if_neg hc] at h; cases h
/-- How many places are not filled. -/
def neg (out : List Int) : Nat := out.countP fun x => decide (x < 0)
theorem neg_set (out : List Int) (v : Int) (x : Int) (hv : 0 ≤ v ∧ v < (out.length : Int)) (hn : rd out v < 0) (hx : 0 ≤ x) : neg (out.set v.toNat x) + 1 = neg out := by
  have hlt : v.toNat < out.length := by omega
  have hr : rd out v = out[v.toNat] := by unfold rd; simp [hlt]
  rw [hr] at hn
  have e : out = out.take v.toNat ++ out[v.toNat] :: out.drop (v.toNat + 1) := by rw [← List.drop_eq_getElem_cons hlt, List.take_append_drop]
  unfold neg
  rw [List.set_eq_take_append_cons_drop, if_pos hlt]
  conv => rhs; rw [e]
  rw [List.countP_append, List.countP_append, List.countP_cons, List.countP_cons, if_neg (by simp; omega), if_pos (by simp; omega)]
  omega
theorem plc_neg : ∀ (rest out : List Int) (i : Nat) (o : List Int), plc out i rest = some o → neg o + rest.length = neg out
  | [], out, i, o, h => by rw [plc] at h; obtain rfl := Option.some.inj h; rfl
  | v :: rest, out, i, o, h => by
    rw [plc] at h
    by_cases hc : 0 ≤ v ∧ v < (out.length : Int) ∧ rd out v < 0
    · rw [if_pos hc] at h
      have h1 := plc_neg rest _ _ o h
      have h2 := neg_set out v (i : Int) ⟨hc.1, hc.2.1⟩ hc.2.2 (by omega)
      rw [List.length_cons]
      omega
    · rw [if_neg hc] at h; cases h
theorem neg_zero (o : List Int) (h : neg o = 0) (j : Int) (h0 : 0 ≤ j ∧ j < (o.length : Int)) : 0 ≤ rd o j := by
  unfold neg at h
  rw [List.countP_eq_zero] at h
  have hlt : j.toNat < o.length := by omega
  have hr : rd o j = o[j.toNat] := by unfold rd; simp [hlt]
  rw [hr]
  have := h o[j.toNat] (List.getElem_mem hlt)
  simpa using this
theorem plc_full (l o : List Int) (h : plc (List.replicate l.length (-1)) 0 l = some o) : o.length = l.length ∧ ∀ j : Int, 0 ≤ j → j < (l.length : Int) → 0 ≤ rd o j := by
  obtain ⟨_, h2⟩ := plc_range _ _ _ _ h
  rw [List.length_replicate] at h2
  refine ⟨h2, fun j h0 h1 => neg_zero o ?_ j ⟨h0, by omega⟩⟩
  have h3 := plc_neg _ _ _ _ h
  have h4 : neg (List.replicate l.length (-1)) = l.length := by unfold neg; simp [List.countP_replicate]
  omega
theorem rdB_set (s : List Bool) (v w : Int) (hv : 0 ≤ v ∧ v < (s.length : Int)) (hw : 0 ≤ w) : rdOf false (s.set v.toNat true) w = if w = v then true else rdOf false s w := by
  unfold rdOf
  simp only [List.getD_eq_getElem?_getD, List.getElem?_set]
  by_cases h : w = v
  · subst h; rw [if_pos rfl, if_pos rfl, if_pos (by omega)]; rfl
  · rw [if_neg h, if_neg (by omega)]
theorem rd_ext (a b : List Int) (hl : a.length = b.length) (h : ∀ v : Int, 0 ≤ v → v < (a.length : Int) → rd a v = rd b v) : a = b := by
  apply List.ext_getElem hl
  intro i h1 h2
  have := h (i : Int) (by omega) (by omega)
  rwa [rd_nat a i h1, rd_nat b i h2] at this
theorem inverse_f (l : List Int) (k : Nat) (hk : l.length < k) (hl : l.length ≤ 35184372088832) :
    order_Inverse.f k l = some (match plc (List.replicate l.length (-1)) 0 l with | some o => (o, 0) | none => ([], 13)) := by
  unfold order_Inverse.f
  rw [places_f l k hk hl, Option.bind_some]
  cases plc (List.replicate l.length (-1)) 0 l with
  | none => rw [if_neg (by simp)]
  | some o => rw [if_pos (by simp)]

theorem awake_ok : naskhlaw31_awake.f 60 = some true := by decide +kernel
theorem rdB_rep (n : Nat) (v : Int) : rdOf false (List.replicate n false) v = false := by
  unfold rdOf; rw [List.getD_eq_getElem?_getD, List.getElem?_replicate]; split <;> rfl
theorem group_none (l : List Int) (lo : Nat) (k : Nat) (hl : l.length ≤ 35184372088832) (h : lo < l.length) : accent_group.f (k + 1) l (List.replicate l.length false) (lo : Int) = some ((lo : Int), (lo : Int) + 1) := by
  unfold accent_group.f
  rw [accent_group.l0, w64 (by omega) (by omega)]
  by_cases h1 : lo + 1 < l.length
  · rw [if_pos (by omega), if_pos (by omega), if_pos (by rw [List.length_replicate]; omega), rdB_rep, if_neg (by simp)]
  · rw [if_neg (by omega)]
theorem groups_none (l : List Int) (hl : l.length ≤ 35184372088832) : ∀ (d lo k : Nat), lo + d = l.length → d < k → accent_Groups.l0 k l (List.replicate l.length false) [] (lo : Int) = some [] := by
  intro d
  induction d with
  | zero =>
    intro lo k hd hk
    obtain ⟨k, rfl⟩ : ∃ m, k = m + 1 := ⟨k - 1, by omega⟩
    rw [accent_Groups.l0, if_neg (by omega)]
  | succ d ih =>
    intro lo k hd hk
    obtain ⟨k, rfl⟩ : ∃ m, k = m + 1 := ⟨k - 1, by omega⟩
    obtain ⟨k, rfl⟩ : ∃ m, k = m + 1 := ⟨k - 1, by omega⟩
    have step := ih (lo + 1) (k + 1) (by omega) (by omega)
    simp only [Int.natCast_add, Int.natCast_one] at step
    rw [accent_Groups.l0, if_pos (by omega), group_none l lo k hl (by omega), Option.bind_some, if_pos (by omega), if_pos (by rw [List.length_replicate]; omega), rdB_rep, if_neg (by simp)]
    dsimp only
    rw [w64 (by omega) (by omega)]
    split
    · rw [if_neg (by omega), step]
    · exact step
theorem AccentNone_ok : naskhlaw31_AccentNone.Pure := by
  intro l h1 h2 h3
  refine ⟨200000000, ?_⟩
  have haw : naskhlaw31_awake.f 200000000 = some true := at_rounds (fun k => naskhlaw31_awake.mono k) (by decide) awake_ok
  unfold naskhlaw31_AccentNone.f
  by_cases hn : (l.length : Int) > 200
  · rw [if_pos hn, haw]; rfl
  · rw [if_neg hn]
    have hlm : (l.map clamp).length = l.length := List.length_map _
    obtain ⟨o, ho⟩ : ∃ o, vis (l.map clamp) = o := ⟨_, rfl⟩
    have hol : o.length = l.length := by rw [← ho, vis_length, hlm]
    obtain ⟨a, ha⟩ := vis_plc (l.map clamp)
    rw [ho, hlm, ← hol] at ha
    rw [refvisual_f l _ (by omega) (by omega), Option.bind_some, ho, if_pos (by omega), if_pos (by omega), Int.toNat_natCast]
    have hord : accent_Order.f 200000000 o l (List.replicate l.length false) = some (o, 0) := by
      unfold accent_Order.f
      rw [if_pos (by omega), show (200000000 : Nat) = 199999999 + 1 from rfl, accent_Order.j0, if_neg (by simp [hol]), inverse_f o _ (by omega) (by omega), Option.bind_some, ha]
      dsimp only
      rw [if_pos rfl]
      unfold slices_Clone_int_int.f
      rw [Option.bind_some, if_pos (by simp; omega), Option.bind_some, List.nil_append]
      unfold accent_Groups.f
      rw [if_pos (by rw [List.length_replicate])]
      have := groups_none l (by omega) l.length 0 199999999 (by omega) (by omega)
      have h0 : accent_Groups.l0 199999999 l (List.replicate l.length false) [] 0 = some [] := this
      rw [h0, Option.bind_some, show (199999999 : Nat) = 199999998 + 1 from rfl, accent_Order.l0, if_neg (by simp)]
    rw [hord, Option.bind_some]
    dsimp only
    rw [if_pos rfl, equal_self_int_int _ (by omega) _ (by omega), Option.bind_some, if_pos rfl, haw]
    rfl
end Go.Proofs.Ytmkgihmchkphaaa.PureAccentNoneAux
namespace Go.Proofs.Ytmkgihmchkphaaa.Pure
open Go.Proofs.Ytmkgihmchkphaaa.PAccentNone
theorem AccentNone : naskhlaw31_AccentNone.Pure := PureAccentNoneAux.AccentNone_ok
end Go.Proofs.Ytmkgihmchkphaaa.Pure
