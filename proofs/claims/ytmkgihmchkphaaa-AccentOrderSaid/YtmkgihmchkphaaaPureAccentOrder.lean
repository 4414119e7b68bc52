/- Of any levels as they are seen what is answered is an order, and each base stands ahead of its marks, all of them next to each other. No condition. -/
import Derived.Test.YtmkgihmchkphaaaPAccentOrderx7
namespace Go.Proofs.Ytmkgihmchkphaaa.PureAccentOrderAux
open Go.RowKit Go.Proofs.Ytmkgihmchkphaaa.PAccentOrder Go.Proofs.YtmkgihmchkphaaaW.PrintWords Go.Proofs.YtmkgihmchkphaaaW.PrintLast

set_option linter.unusedSimpArgs false
set_option linter.unusedVariables false
theorem w64 {x : Int} (h0 : -9223372036854775808 ≤ x) (h1 : x ≤ 9223372036854775807) : wrap64 x = x := by unfold wrap64; omega
theorem rd_at (pre : List Int) (x : Int) (rest : List Int) : rd (pre ++ x :: rest) (pre.length : Int) = x := by simp [rd]
theorem rd_nat (l : List Int) (i : Nat) (h : i < l.length) : rd l (i : Int) = l[i] := by simp [rd, h]
theorem wf64 {x : Int} (h : (Lit.int .i64 x).wf = true) : -9223372036854775808 ≤ x ∧ x ≤ 9223372036854775807 := by
  simpa [Lit.wf, IntKind.min, IntKind.max, IntKind.signed, IntKind.bits] using h
theorem bsome {P : Prop} [Decidable P] {b : Bool} (h : b = true ↔ P) : some b = some (decide P) := by
  congr 1; rw [Bool.eq_iff_iff]; simpa using h
theorem u16w {x : Int} (h0 : 0 ≤ x) (h1 : x ≤ 65535) : IntKind.u16.wrap x = x := by
  simp [IntKind.wrap, IntKind.min, IntKind.max, IntKind.signed, IntKind.bits]; omega

theorem wraps_i64' (n : Int) (h₀ : 0 ≤ n) (h₁ : n < 2 ^ 62) : IntKind.i64.wrap n = n := by rw [IntKind.wrap_i64]; omega
theorem and_mask (x : Int) (i : Nat) (hi : i ≤ 62) (h0 : 0 ≤ x) (h1 : x < 2 ^ 62) : Go.bits .and .i64 x (2 ^ i - 1) = x % 2 ^ i := bits_mask .i64 62 (by decide) wraps_i64' i hi x h0 h1

theorem eq_loop_int_int (a b : List Int) (hl : a.length = b.length) (hm : a.length ≤ 9223372036854775806) : ∀ d k i : Nat, i + d = a.length → d < k →
    slices_Equal_int_int.l0 k a b a.length i = some (decide (a.drop i = b.drop i)) := by
  intro d
  induction d with
  | zero =>
    intro k i hi hk
    obtain ⟨k, rfl⟩ : ∃ m, k = m + 1 := ⟨k - 1, by omega⟩
    simp only [slices_Equal_int_int.l0]
    rw [if_neg (by omega), List.drop_eq_nil_of_le (by omega), List.drop_eq_nil_of_le (by omega)]
    simp
  | succ d ih =>
    intro k i hi hk
    obtain ⟨k, rfl⟩ : ∃ m, k = m + 1 := ⟨k - 1, by omega⟩
    simp only [slices_Equal_int_int.l0]
    rw [if_pos (by omega), if_pos (by omega), if_pos (by omega), if_pos (by omega), rd_nat a i (by omega), rd_nat b i (by omega),
      List.drop_eq_getElem_cons (by omega : i < a.length), List.drop_eq_getElem_cons (by omega : i < b.length)]
    by_cases h : a[i]'(by omega) = b[i]'(by omega)
    · rw [if_pos h, w64 (by omega) (by omega)]
      have := ih k (i + 1) (by omega) (by omega)
      rw [Int.natCast_add] at this
      rw [show ((1 : Nat) : Int) = 1 from rfl] at this
      rw [this]
      congr 1
      rw [decide_eq_decide, List.cons.injEq]
      simp only [h, true_and]
    · rw [if_neg h]
      congr 1
      symm
      rw [decide_eq_false_iff_not, List.cons.injEq]
      exact fun e => h e.1
theorem equal_f_int_int (a b : List Int) (hm : a.length ≤ 9223372036854775806) (k : Nat) (hk : a.length < k) : slices_Equal_int_int.f k a b = some (decide (a = b)) := by
  unfold slices_Equal_int_int.f
  by_cases hl : a.length = b.length
  · rw [if_pos (by omega), show (0 : Int) = ((0 : Nat) : Int) from rfl, eq_loop_int_int a b hl hm a.length k 0 (by omega) hk]
    simp
  · rw [if_neg (by omega)]
    have : a ≠ b := fun e => hl (by rw [e])
    simp [this]
theorem equal_self_int_int (a : List Int) (hm : a.length ≤ 9223372036854775806) (k : Nat) (hk : a.length < k) : slices_Equal_int_int.f k a a = some true := by
  rw [equal_f_int_int a a hm k hk]; simp

/-- The reach of a row: the places from lo on whose levels are not below. -/
def order_Visual.run (lv : List Int) (level : Int) (o : List Int) : Nat := (o.takeWhile (fun p => decide (level ≤ rd lv p))).length
theorem order_Visual.run_nil (lv : List Int) (level : Int) : order_Visual.run lv level [] = 0 := rfl
theorem order_Visual.run_yes (lv : List Int) (level : Int) (o : List Int) (h : Nat) (hh : h < o.length) (hl : level ≤ rd lv (o.getD h 0)) : order_Visual.run lv level (o.drop h) = order_Visual.run lv level (o.drop (h + 1)) + 1 := by
  rw [List.drop_eq_getElem_cons hh]
  have : o.getD h 0 = o[h] := by simp [List.getD_eq_getElem?_getD, hh]
  rw [this] at hl
  simp only [order_Visual.run, List.takeWhile_cons, decide_eq_true hl, if_true, List.length_cons]
theorem order_Visual.run_no (lv : List Int) (level : Int) (o : List Int) (h : Nat) (hh : h < o.length) (hl : ¬ level ≤ rd lv (o.getD h 0)) : order_Visual.run lv level (o.drop h) = 0 := by
  rw [List.drop_eq_getElem_cons hh]
  have : o.getD h 0 = o[h] := by simp [List.getD_eq_getElem?_getD, hh]
  rw [this] at hl
  simp only [order_Visual.run, List.takeWhile_cons, decide_eq_false hl, Bool.false_eq_true, if_false, List.length_nil]
/-- All rows of a level or above turned round, 'acc' being the row that has begun, turned. -/
def order_Visual.turnA (q : Int → Bool) : List Int → List Int → List Int
  | acc, [] => acc
  | acc, p :: rest => if q p then order_Visual.turnA q (p :: acc) rest else acc ++ p :: order_Visual.turnA q [] rest
theorem order_Visual.turnA_run (lv : List Int) (level : Int) : ∀ (rest acc : List Int), order_Visual.turnA (fun p => decide (level ≤ rd lv p)) acc rest = (rest.take (order_Visual.run lv level rest)).reverse ++ (acc ++ order_Visual.turnA (fun p => decide (level ≤ rd lv p)) [] (rest.drop (order_Visual.run lv level rest)))
  | [], acc => by simp [order_Visual.turnA]
  | p :: t, acc => by
    by_cases h : level ≤ rd lv p
    · have e : order_Visual.run lv level (p :: t) = order_Visual.run lv level t + 1 := by simp only [order_Visual.run, List.takeWhile_cons, decide_eq_true h, if_true, List.length_cons]
      rw [e, order_Visual.turnA, if_pos (decide_eq_true h), order_Visual.turnA_run lv level t (p :: acc)]
      simp
    · have e : order_Visual.run lv level (p :: t) = 0 := by simp only [order_Visual.run, List.takeWhile_cons, decide_eq_false h, Bool.false_eq_true, if_false, List.length_nil]
      rw [e, order_Visual.turnA, if_neg (by simp [h])]
      simp [order_Visual.turnA, h]
theorem order_Visual.run_le (lv : List Int) (level : Int) (o : List Int) : order_Visual.run lv level o ≤ o.length := (List.takeWhile_prefix _).length_le
theorem order_Visual.turnA_mem (q : Int → Bool) (p : Int) : ∀ (rest acc : List Int), p ∈ order_Visual.turnA q acc rest ↔ p ∈ acc ∨ p ∈ rest
  | [], acc => by simp [order_Visual.turnA]
  | x :: t, acc => by
    rw [order_Visual.turnA]
    split
    · rw [order_Visual.turnA_mem q p t (x :: acc)]; simp; grind
    · simp only [List.mem_append, List.mem_cons, order_Visual.turnA_mem q p t []]; simp
/-- A round of 'turn': what is turned from lo on. -/
theorem order_Visual.turn_round (lv : List Int) (level : Int) (cur : List Int) (lo : Nat) (h : lo < cur.length) (r : Nat) (hr : order_Visual.run lv level (cur.drop lo) = r) (nx : Nat) (hnx : nx = if lo + r < lo + 1 then lo + 1 else lo + r) (new : List Int)
    (hnew : new = cur.take lo ++ (((cur.drop lo).take r).reverse ++ cur.drop (lo + r))) :
    new.length = cur.length ∧ nx ≤ cur.length ∧ lo < nx ∧ new.take nx ++ order_Visual.turnA (fun p => decide (level ≤ rd lv p)) [] (new.drop nx) = cur.take lo ++ order_Visual.turnA (fun p => decide (level ≤ rd lv p)) [] (cur.drop lo) ∧ (∀ p, p ∈ new → p ∈ cur) := by
  have hle : r ≤ cur.length - lo := by have := order_Visual.run_le lv level (cur.drop lo); rw [hr, List.length_drop] at this; exact this
  have hmem : ∀ p, p ∈ new → p ∈ cur := by
    intro p hp
    rw [hnew] at hp
    simp only [List.mem_append, List.mem_reverse] at hp
    rcases hp with hp | hp | hp
    · exact List.mem_of_mem_take hp
    · exact List.mem_of_mem_drop (List.mem_of_mem_take hp)
    · exact List.mem_of_mem_drop hp
  have hlen : new.length = cur.length := by rw [hnew]; simp; omega
  rw [order_Visual.turnA_run lv level (cur.drop lo) [], hr, List.nil_append, List.drop_drop]
  by_cases h0 : r = 0
  · subst h0
    rw [if_pos (by omega)] at hnx
    subst hnx
    have e : new = cur := by rw [hnew]; simp
    subst e
    refine ⟨rfl, by omega, by omega, ?_, hmem⟩
    simp only [Nat.add_zero, List.take_zero, List.reverse_nil, List.nil_append]
    have hd : List.drop lo new = new[lo] :: List.drop (lo + 1) new := List.drop_eq_getElem_cons h
    have hn : ¬ level ≤ rd lv new[lo] := by
      intro hh
      rw [hd] at hr
      simp only [order_Visual.run, List.takeWhile_cons, decide_eq_true hh, if_true, List.length_cons] at hr
      omega
    have ht : List.take (lo + 1) new = List.take lo new ++ [new[lo]] := by rw [List.take_add_one, List.getElem?_eq_getElem h]; rfl
    rw [hd, order_Visual.turnA, if_neg (by simp only [decide_eq_false hn]; decide), ht]
    simp only [List.append_assoc, List.cons_append, List.nil_append]
  · rw [if_neg (by omega)] at hnx
    subst hnx
    refine ⟨hlen, by omega, by omega, ?_, hmem⟩
    have e1 : new.take (lo + r) = cur.take lo ++ ((cur.drop lo).take r).reverse := by
      rw [hnew, ← List.append_assoc, List.take_append_of_le_length (by simp; omega), List.take_of_length_le (by simp; omega)]
    have e2 : new.drop (lo + r) = cur.drop (lo + r) := by
      rw [hnew, ← List.append_assoc, List.drop_append, List.drop_eq_nil_of_le (by simp; omega), List.nil_append]
      have : lo + r - (List.take lo cur ++ (List.take r (List.drop lo cur)).reverse).length = 0 := by simp; omega
      rw [this, List.drop_zero]
    rw [e1, e2, List.append_assoc]
/-- Down the levels: 'k' of them, from one on. -/
def order_Visual.down (lv : List Int) : Nat → Int → List Int → List Int
  | 0, _, o => o
  | k + 1, level, o => order_Visual.down lv k (level - 1) (order_Visual.turnA (fun p => decide (level ≤ rd lv p)) [] o)
def order_Visual.iota (n : Nat) : List Int := (List.range n).map (fun (i : Nat) => (i : Int))

def clamp (n : Int) : Int := mn (mx n 0) 126
theorem clamp_ge (n : Int) : 0 ≤ clamp n := by unfold clamp mn mx; repeat' split <;> omega
theorem clamp_le (n : Int) : clamp n ≤ 126 := by unfold clamp mn mx; repeat' split <;> omega
theorem set_at (a : List Int) (y v : Int) (b : List Int) : (a ++ y :: b).set a.length v = a ++ v :: b := by simp
/-- Levels that are not below 0, and not too great. -/
def Lev (l : List Int) : Prop := ∀ x ∈ l, 0 ≤ x ∧ x ≤ 126
theorem lev_map (l : List Int) : Lev (l.map clamp) := by
  intro x hx
  obtain ⟨y, _, rfl⟩ := List.mem_map.mp hx
  exact ⟨clamp_ge y, clamp_le y⟩
theorem and1 (x : Int) (h : 0 ≤ x) (h1 : x ≤ 126) : Go.bits .and .i64 x 1 = x % 2 := by
  have := and_mask x 1 (by decide) h (by omega)
  simpa using this
/-- The greatest level, and the least odd one, of what is behind. -/
def bnd : Int → Int → List Int → Int × Int
  | m, o, [] => (m, o)
  | m, o, x :: rest => bnd (mx m x) (if x % 2 = 1 ∧ (o = 0 ∨ x < o) then x else o) rest
/-- The greatest level. -/
def most : Int → List Int → Int
  | m, [] => m
  | m, x :: rest => most (mx m x) rest
theorem bnd_most : ∀ (l : List Int) (m o : Int), (bnd m o l).1 = most m l
  | [], _, _ => rfl
  | x :: rest, m, o => by rw [bnd, most, bnd_most rest]
theorem most_le : ∀ (l : List Int) (m : Int), Lev l → m ≤ 126 → most m l ≤ 126
  | [], _, _, h => h
  | x :: rest, m, hL, h => by
    rw [most]
    refine most_le rest _ (fun y hy => hL y (by simp [hy])) ?_
    have := hL x (by simp)
    unfold mx; split <;> omega
theorem most_ge : ∀ (l : List Int) (m : Int), m ≤ most m l
  | [], _ => by rw [most]; exact Int.le_refl _
  | x :: rest, m => by
    rw [most]
    have h1 := most_ge rest (mx m x)
    have h2 : m ≤ mx m x := by unfold mx; split <;> omega
    omega
/-- What the second of 'bnd' says. -/
theorem bnd_odd : ∀ (l : List Int) (m o : Int), Lev l → 0 ≤ o → ∀ level : Int, ((0 < (bnd m o l).2 ∧ (bnd m o l).2 ≤ level) ↔ ((0 < o ∧ o ≤ level) ∨ ∃ x ∈ l, x % 2 = 1 ∧ x ≤ level)) ∧ 0 ≤ (bnd m o l).2
  | [], m, o, _, ho, level => by simp [bnd, ho]
  | x :: rest, m, o, hL, ho, level => by
    rw [bnd]
    have hx := hL x (by simp)
    have hL' : Lev rest := fun y hy => hL y (by simp [hy])
    by_cases h : x % 2 = 1 ∧ (o = 0 ∨ x < o)
    · rw [if_pos h]
      obtain ⟨h1, h2⟩ := bnd_odd rest (mx m x) x hL' hx.1 level
      refine ⟨h1.trans ⟨?_, ?_⟩, h2⟩
      · rintro (h3 | ⟨y, hy, h3⟩)
        · exact Or.inr ⟨x, by simp, h.1, h3.2⟩
        · exact Or.inr ⟨y, by simp [hy], h3⟩
      · rintro (h3 | ⟨y, hy, h3⟩)
        · left; have := h.2; omega
        · rcases List.mem_cons.mp hy with rfl | hy
          · left; omega
          · exact Or.inr ⟨y, hy, h3⟩
    · rw [if_neg h]
      obtain ⟨h1, h2⟩ := bnd_odd rest (mx m x) o hL' ho level
      refine ⟨h1.trans ⟨?_, ?_⟩, h2⟩
      · rintro (h3 | ⟨y, hy, h3⟩)
        · exact Or.inl h3
        · exact Or.inr ⟨y, by simp [hy], h3⟩
      · rintro (h3 | ⟨y, hy, h3⟩)
        · exact Or.inl h3
        · rcases List.mem_cons.mp hy with e | hy
          · subst e
            left
            have h4 := h3.1
            have h5 := h3.2
            have h6 : ¬ (o = 0 ∨ y < o) := fun hh => h ⟨h4, hh⟩
            clear h1 h h3 h4
            omega
          · exact Or.inr ⟨y, hy, h3⟩
/-- The order in which places are seen. -/
def vis (lv : List Int) : List Int := if 0 < (bnd 0 0 lv).2 then order_Visual.down lv ((bnd 0 0 lv).1 - (bnd 0 0 lv).2 + 1).toNat (bnd 0 0 lv).1 (order_Visual.iota lv.length) else order_Visual.iota lv.length

/-- Where each number stands; none: the numbers are no order. -/
def plc : List Int → Nat → List Int → Option (List Int)
  | out, _, [] => some out
  | out, i, v :: rest => if 0 ≤ v ∧ v < (out.length : Int) ∧ rd out v < 0 then plc (out.set v.toNat (i : Int)) (i + 1) rest else none
theorem places_loop (l : List Int) (hm : l.length ≤ 35184372088832) : ∀ (rest pre out : List Int) (k : Nat), l = pre ++ rest → rest.length < k → out.length = l.length →
    order_places.l0 k l out l (l.length : Int) (pre.length : Int) = some (match plc out pre.length rest with | some o => (o, true) | none => ([], false)) := by
  intro rest
  induction rest with
  | nil =>
    intro pre out k hl hk ho
    obtain ⟨k, rfl⟩ : ∃ m, k = m + 1 := ⟨k - 1, by omega⟩
    rw [order_places.l0, if_neg (by rw [hl]; simp)]
    rfl
  | cons v rest ih =>
    intro pre out k hl hk ho
    obtain ⟨k, rfl⟩ : ∃ m, k = m + 1 := ⟨k - 1, by omega⟩
    rw [List.length_cons] at hk
    have hlen : l.length = pre.length + rest.length + 1 := by rw [hl]; simp; omega
    have hrd : rd l (pre.length : Int) = v := by rw [hl]; exact rd_at pre v rest
    have step := fun out ho => ih (pre ++ [v]) out k (by rw [hl]; simp) (by omega) ho
    simp only [List.length_append, List.length_cons, List.length_nil, Nat.zero_add, Int.natCast_add, Int.natCast_one] at step
    rw [order_places.l0, if_pos (by omega), if_pos (by omega), if_pos (by omega), hrd, plc]
    by_cases h1 : v < 0
    · rw [if_pos h1, if_neg (by omega)]
    · rw [if_neg h1]
      by_cases h2 : (l.length : Int) ≤ v
      · rw [if_pos h2, if_neg (by omega)]
      · rw [if_neg h2, if_pos (by omega), if_pos (by omega)]
        by_cases h3 : 0 ≤ rd out v
        · rw [if_pos h3, if_neg (by omega)]
        · rw [if_neg h3, if_pos (by omega), w64 (by omega) (by omega), step _ (by rw [List.length_set]; exact ho)]
theorem places_f (l : List Int) (k : Nat) (hk : l.length < k) (hl : l.length ≤ 35184372088832) :
    order_places.f k l = some (match plc (List.replicate l.length (-1)) 0 l with | some o => (o, true) | none => ([], false)) := by
  unfold order_places.f slices_Repeat_int_int.f
  rw [if_pos (show ([(-1)] : List Int).length = 1 from rfl), if_pos (by omega), if_pos (by omega), Option.bind_some]
  have := places_loop l hl l [] (List.replicate l.length (-1)) k rfl hk (by simp)
  simpa [rd] using this
theorem rd_set (out : List Int) (v w : Int) (x : Int) (hv : 0 ≤ v ∧ v < (out.length : Int)) (hw : 0 ≤ w) : rd (out.set v.toNat x) w = if w = v then x else rd out w := by
  unfold rd
  simp only [List.getD_eq_getElem?_getD, List.getElem?_set]
  by_cases h : w = v
  · subst h; rw [if_pos rfl, if_pos rfl, if_pos (by omega)]; rfl
  · rw [if_neg h, if_neg (by omega)]
/-- Numbers that are all unlike, and all in, are an order. -/
theorem plc_some : ∀ (rest pre out : List Int), (pre ++ rest).Nodup → (∀ v ∈ rest, 0 ≤ v ∧ v < (out.length : Int)) → (∀ v, 0 ≤ v → (0 ≤ rd out v → v ∈ pre ∨ (out.length : Int) ≤ v)) → ∃ o, plc out pre.length rest = some o
  | [], pre, out, _, _, _ => ⟨out, rfl⟩
  | v :: rest, pre, out, hd, hb, hs => by
    have hv := hb v (by simp)
    have hnp : v ∉ pre := by
      intro h
      rw [List.nodup_append] at hd
      exact hd.2.2 v h v (by simp) rfl
    have hneg : rd out v < 0 := by
      apply Classical.byContradiction
      intro h
      rcases hs v hv.1 (by omega) with h1 | h1
      · exact hnp h1
      · omega
    rw [plc, if_pos ⟨hv.1, hv.2, hneg⟩]
    have h := plc_some rest (pre ++ [v]) (out.set v.toNat (pre.length : Int)) (by simpa using hd) (by rw [List.length_set]; exact fun w hw => hb w (by simp [hw])) (fun w hw h => by
      rw [List.length_set]
      rw [rd_set out v w _ hv hw] at h
      by_cases e : w = v
      · left; simp [e]
      · rw [if_neg e] at h
        rcases hs w hw h with h1 | h1
        · left; simp [h1]
        · right; exact h1)
    simpa using h

theorem permutes_f (l : List Int) (k : Nat) (hk : l.length < k) (hl : l.length ≤ 35184372088832) : order_Permutes.f k l = some (plc (List.replicate l.length (-1)) 0 l).isSome := by
  unfold order_Permutes.f
  rw [places_f l k hk hl, Option.bind_some]
  cases plc (List.replicate l.length (-1)) 0 l <;> rfl

theorem iota_mem (n : Nat) (p : Int) (h : p ∈ order_Visual.iota n) : 0 ≤ p ∧ p < (n : Int) := by
  simp only [order_Visual.iota, List.mem_map, List.mem_range] at h
  obtain ⟨i, hi, rfl⟩ := h
  omega
theorem iota_length (n : Nat) : (order_Visual.iota n).length = n := by simp [order_Visual.iota]
theorem turnA_length (q : Int → Bool) : ∀ (rest acc : List Int), (order_Visual.turnA q acc rest).length = acc.length + rest.length
  | [], acc => by simp [order_Visual.turnA]
  | x :: t, acc => by
    rw [order_Visual.turnA]
    split
    · rw [turnA_length q t (x :: acc)]; simp; omega
    · rw [List.length_append, List.length_cons, turnA_length q t []]; simp
theorem turnA_perm (q : Int → Bool) : ∀ (rest acc : List Int), (order_Visual.turnA q acc rest).Perm (acc ++ rest)
  | [], acc => by simp [order_Visual.turnA]
  | x :: t, acc => by
    rw [order_Visual.turnA]
    split
    · refine (turnA_perm q t (x :: acc)).trans ?_
      exact List.perm_middle.symm
    · refine List.Perm.append_left acc ?_
      exact List.Perm.cons x (by simpa using turnA_perm q t [])
theorem down_perm (lv : List Int) : ∀ (k : Nat) (level : Int) (o : List Int), (order_Visual.down lv k level o).Perm o
  | 0, _, o => List.Perm.refl o
  | k + 1, level, o => by
    rw [order_Visual.down]
    exact (down_perm lv k _ _).trans (by simpa using turnA_perm (fun p => decide (level ≤ rd lv p)) o [])
theorem vis_perm (lv : List Int) : (vis lv).Perm (order_Visual.iota lv.length) := by
  unfold vis
  split
  · exact down_perm _ _ _ _
  · exact List.Perm.refl _
theorem iota_nodup (n : Nat) : (order_Visual.iota n).Nodup := by
  unfold order_Visual.iota
  rw [List.nodup_iff_pairwise_ne, List.pairwise_map]
  exact (List.nodup_range (n := n)).imp (fun h e => h (by omega))
theorem vis_length (lv : List Int) : (vis lv).length = lv.length := by rw [(vis_perm lv).length_eq, iota_length]
theorem vis_mem (lv : List Int) (p : Int) (h : p ∈ vis lv) : 0 ≤ p ∧ p < (lv.length : Int) := iota_mem _ _ ((vis_perm lv).mem_iff.mp h)
theorem vis_nodup (lv : List Int) : (vis lv).Nodup := (vis_perm lv).nodup_iff.mpr (iota_nodup _)

theorem refheld_loop : ∀ (rest pre : List Int) (k : Nat), rest.length < k → pre.length + rest.length ≤ 17592186044416 →
    naskhref29_Held.l0 k (pre ++ rest) (pre.map clamp) (pre.length : Int) = some ((pre ++ rest).map clamp) := by
  intro rest
  induction rest with
  | nil =>
    intro pre k hk hm
    obtain ⟨k, rfl⟩ : ∃ m, k = m + 1 := ⟨k - 1, by omega⟩
    rw [naskhref29_Held.l0, if_neg (by simp)]
    simp
  | cons x rest ih =>
    intro pre k hk hm
    obtain ⟨k, rfl⟩ : ∃ m, k = m + 1 := ⟨k - 1, by omega⟩
    rw [List.length_cons] at hk hm
    have hlen : (pre ++ x :: rest).length = pre.length + rest.length + 1 := by simp; omega
    have step := ih (pre ++ [x]) k (by omega) (by simp; omega)
    simp only [List.append_assoc, List.cons_append, List.nil_append, List.length_append, List.length_cons, List.length_nil, Nat.zero_add, Int.natCast_add, Int.natCast_one, List.map_append, List.map_cons, List.map_nil] at step
    rw [naskhref29_Held.l0, if_pos (by omega), if_pos (by omega), if_pos (by simp; omega), rd_at, w64 (by omega) (by omega)]
    simp only [List.map_append, List.map_cons]
    exact step
theorem refheld_f (l : List Int) (k : Nat) (hk : l.length < k) (hl : l.length ≤ 17592186044416) : naskhref29_Held.f k l = some (l.map clamp) := by
  unfold naskhref29_Held.f
  have := refheld_loop l [] k hk (by simp; omega)
  simpa using this
/-- Whether an odd level is at most a level. -/
def oddLe (lv : List Int) (level : Int) : Bool := lv.any fun x => decide (x % 2 = 1 ∧ x ≤ level)
theorem refodd_loop (lv : List Int) (level : Int) : ∀ (rest pre : List Int) (k : Nat), lv = pre ++ rest → Lev rest → rest.length < k → pre.length + rest.length ≤ 9223372036854775806 →
    naskhref29_odd.l0 k lv level (pre.length : Int) = some (rest.any fun x => decide (x % 2 = 1 ∧ x ≤ level)) := by
  intro rest
  induction rest with
  | nil =>
    intro pre k hl hL hk hm
    obtain ⟨k, rfl⟩ : ∃ m, k = m + 1 := ⟨k - 1, by omega⟩
    rw [naskhref29_odd.l0, if_neg (by rw [hl]; simp)]
    rfl
  | cons x rest ih =>
    intro pre k hl hL hk hm
    obtain ⟨k, rfl⟩ : ∃ m, k = m + 1 := ⟨k - 1, by omega⟩
    rw [List.length_cons] at hk hm
    have hlen : lv.length = pre.length + rest.length + 1 := by rw [hl]; simp; omega
    have hx := hL x (by simp)
    have hrd : rd lv (pre.length : Int) = x := by rw [hl]; exact rd_at pre x rest
    have step := ih (pre ++ [x]) k (by rw [hl]; simp) (fun y hy => hL y (by simp [hy])) (by omega) (by simp; omega)
    simp only [List.length_append, List.length_cons, List.length_nil, Nat.zero_add, Int.natCast_add, Int.natCast_one] at step
    rw [naskhref29_odd.l0, if_pos (by omega), if_pos (by omega), hrd, Int.tmod_eq_emod_of_nonneg hx.1, w64 (by omega) (by omega), List.any_cons]
    by_cases h1 : x % 2 = 1
    · rw [if_pos h1]
      by_cases h2 : x ≤ level
      · rw [if_pos h2]; simp [h1, h2]
      · rw [if_neg h2, step]; simp [h2]
    · rw [if_neg h1, step]; simp [h1]
theorem refodd_f (lv : List Int) (level : Int) (k : Nat) (hL : Lev lv) (hk : lv.length < k) (hl : lv.length ≤ 35184372088832) : naskhref29_odd.f k lv level = some (oddLe lv level) := by
  unfold naskhref29_odd.f
  have := refodd_loop lv level lv [] k rfl hL hk (by simp; omega)
  exact this
theorem refplaces_loop (n : Nat) (hn : n ≤ 17592186044416) : ∀ (d i k : Nat), i + d = n → d < k → naskhref29_places.l0 k (n : Int) (order_Visual.iota i) (i : Int) = some (order_Visual.iota n) := by
  intro d
  induction d with
  | zero =>
    intro i k hi hk
    obtain ⟨k, rfl⟩ : ∃ m, k = m + 1 := ⟨k - 1, by omega⟩
    rw [naskhref29_places.l0, if_neg (by omega)]
    rw [show i = n by omega]
  | succ d ih =>
    intro i k hi hk
    obtain ⟨k, rfl⟩ : ∃ m, k = m + 1 := ⟨k - 1, by omega⟩
    have hl : (order_Visual.iota i).length = i := by simp [order_Visual.iota]
    have e : order_Visual.iota i ++ [(i : Int)] = order_Visual.iota (i + 1) := by simp [order_Visual.iota, List.range_succ]
    have step := ih (i + 1) k (by omega) (by omega)
    rw [naskhref29_places.l0, if_pos (by omega), if_pos (by omega), e, w64 (by omega) (by omega), ← step]
    rfl
theorem refplaces_f (n : Nat) (k : Nat) (hk : n < k) (hn : n ≤ 17592186044416) : naskhref29_places.f k (n : Int) = some (order_Visual.iota n) := by
  unfold naskhref29_places.f
  have := refplaces_loop n hn n 0 k (by omega) hk
  simpa [order_Visual.iota] using this
theorem set_set (a m b : List Int) (x y x' y' : Int) (i j : Nat) (hi : i = a.length) (hj : j = a.length + 1 + m.length) : ((a ++ x :: (m ++ y :: b)).set i x').set j y' = a ++ x' :: (m ++ y' :: b) := by
  subst hi hj
  rw [set_at]
  have : a ++ x' :: (m ++ y :: b) = (a ++ x' :: m) ++ y :: b := by simp
  rw [this]
  have h2 := set_at (a ++ x' :: m) y y' b
  rw [show (a ++ x' :: m).length = a.length + 1 + m.length by simp; omega] at h2
  rw [h2]
  simp
theorem list_ends : ∀ (m : List Int), 2 ≤ m.length → ∃ x m' y, m = x :: (m' ++ [y]) := by
  intro m hm
  match m, hm with
  | x :: t, hm =>
    have ht : t ≠ [] := by intro h; subst h; simp at hm
    exact ⟨x, t.dropLast, t.getLast ht, by rw [List.dropLast_concat_getLast ht]⟩
theorem refturn_loop : ∀ (n : Nat) (a m b : List Int) (k : Nat), m.length ≤ n → n < k → a.length + m.length + b.length ≤ 9223372036854775806 →
    naskhref29_turn.l0 k (a ++ (m ++ b)) (a.length : Int) ((a.length + m.length : Nat) : Int) = some (a ++ (m.reverse ++ b)) := by
  intro n
  induction n with
  | zero =>
    intro a m b k hm hk hM
    obtain ⟨k, rfl⟩ : ∃ m, k = m + 1 := ⟨k - 1, by omega⟩
    obtain rfl : m = [] := List.eq_nil_of_length_eq_zero (by omega)
    rw [naskhref29_turn.l0, w64 (by simp) (by simp), if_neg (by simp)]
    simp
  | succ n ih =>
    intro a m b k hm hk hM
    obtain ⟨k, rfl⟩ : ∃ m, k = m + 1 := ⟨k - 1, by omega⟩
    rw [naskhref29_turn.l0, w64 (by omega) (by omega)]
    by_cases h2 : 2 ≤ m.length
    · obtain ⟨x, m', y, rfl⟩ := list_ends m h2
      simp only [List.length_cons, List.length_append, List.length_nil] at hm hM h2
      have e1 : a ++ ((x :: (m' ++ [y])) ++ b) = a ++ x :: (m' ++ y :: b) := by simp
      have hl : (a ++ x :: (m' ++ y :: b)).length = a.length + m'.length + b.length + 2 := by simp; omega
      have e2 : ((a.length + (x :: (m' ++ [y])).length : Nat) : Int) = (a.length : Int) + (m'.length : Int) + 2 := by simp; omega
      have r1 : rd (a ++ x :: (m' ++ y :: b)) (a.length : Int) = x := rd_at a x _
      have r2 : rd (a ++ x :: (m' ++ y :: b)) ((a.length : Int) + (m'.length : Int) + 1) = y := by
        have h3 : a ++ x :: (m' ++ y :: b) = (a ++ x :: m') ++ y :: b := by simp
        have h4 : (a.length : Int) + (m'.length : Int) + 1 = ((a ++ x :: m').length : Int) := by simp; omega
        rw [h3, h4]
        exact rd_at _ y b
      rw [e1, e2, if_pos (by omega), w64 (by omega) (by omega), show (a.length : Int) + (m'.length : Int) + 2 - 1 = (a.length : Int) + (m'.length : Int) + 1 by omega,
        if_pos (by omega), if_pos (by omega), if_pos (by omega), if_pos (by omega), r1, r2, w64 (by omega) (by omega),
        set_set a m' b x y y x _ _ (by simp) (by omega)]
      have step := ih (a ++ [y]) m' (x :: b) k (by omega) (by omega) (by simp; omega)
      have f1 : (a ++ [y]) ++ (m' ++ x :: b) = a ++ y :: (m' ++ x :: b) := by simp
      have f2 : ((a ++ [y]).length : Int) = (a.length : Int) + 1 := by simp
      have f3 : (((a ++ [y]).length + m'.length : Nat) : Int) = (a.length : Int) + (m'.length : Int) + 1 := by simp; omega
      rw [f1, f2, f3] at step
      rw [step]
      simp
    · rw [if_neg (by omega)]
      match m, h2 with
      | [], _ => rfl
      | [x], _ => rfl
      | x :: y :: t, h2 => simp at h2
theorem refturn_f (l : List Int) (lo r : Nat) (k : Nat) (h : lo + r ≤ l.length) (hk : r < k) (hl : l.length ≤ 35184372088832) :
    naskhref29_turn.f k l (lo : Int) ((lo + r : Nat) : Int) = some (l.take lo ++ (((l.drop lo).take r).reverse ++ l.drop (lo + r))) := by
  unfold naskhref29_turn.f
  have e : l = l.take lo ++ ((l.drop lo).take r ++ l.drop (lo + r)) := by
    rw [← List.drop_drop, List.take_append_drop, List.take_append_drop]
  have h1 : (l.take lo).length = lo := by rw [List.length_take]; omega
  have h2 : ((l.drop lo).take r).length = r := by rw [List.length_take, List.length_drop]; omega
  have h3 : (l.drop (lo + r)).length ≤ l.length := by rw [List.length_drop]; omega
  have := refturn_loop r (l.take lo) ((l.drop lo).take r) (l.drop (lo + r)) k (by omega) hk (by omega)
  rw [h1, h2, ← e] at this
  exact this

theorem l3_loop (lv cur : List Int) (level : Int) (lo : Nat) (r : Option (List Int)) (K : Nat) (hp : ∀ p ∈ cur, 0 ≤ p ∧ p < (lv.length : Int)) (hn : cur.length ≤ 900) : ∀ (d h k : Nat), h + d = cur.length → K + d < k →
    (∀ k, K ≤ k → naskhref29_Visual.j4 k lv cur level (lo : Int) ((h + order_Visual.run lv level (cur.drop h) : Nat) : Int) = r) → naskhref29_Visual.l3 k lv cur level (lo : Int) (h : Int) = r := by
  intro d
  induction d with
  | zero =>
    intro h k hh hk hj
    obtain ⟨k, rfl⟩ : ∃ m, k = m + 1 := ⟨k - 1, by omega⟩
    rw [naskhref29_Visual.l3, if_neg (by omega)]
    have := hj k (by omega)
    rwa [List.drop_eq_nil_of_le (by omega), order_Visual.run_nil] at this
  | succ d ih =>
    intro h k hh hk hj
    obtain ⟨k, rfl⟩ : ∃ m, k = m + 1 := ⟨k - 1, by omega⟩
    have hlt : h < cur.length := by omega
    have hg : rd cur (h : Int) = cur.getD h 0 := by simp [rd]
    have hb := hp (rd cur (h : Int)) (by rw [rd_nat cur h hlt]; exact List.getElem_mem hlt)
    rw [naskhref29_Visual.l3, if_pos (by omega), if_pos (by omega), if_pos hb.1, if_pos hb.2]
    by_cases hl : level ≤ rd lv (rd cur (h : Int))
    · rw [if_pos hl, w64 (by omega) (by omega)]
      have e := order_Visual.run_yes lv level cur h hlt (by rw [← hg]; exact hl)
      refine ih (h + 1) k (by omega) (by omega) (fun k hk => ?_)
      have := hj k hk
      rw [e] at this
      rw [← this]
      congr 1
      omega
    · rw [if_neg hl]
      have e := order_Visual.run_no lv level cur h hlt (by rw [← hg]; exact hl)
      have := hj k (by omega)
      rw [e] at this
      exact this
/-- All that are turned at one level, or none. -/
def step (lv : List Int) (level : Int) (o : List Int) : List Int := if oddLe lv level = true then order_Visual.turnA (fun p => decide (level ≤ rd lv p)) [] o else o
set_option maxRecDepth 20000 in
theorem l2_loop (lv : List Int) (level : Int) (res : List Int) (r : Option (List Int)) (K n : Nat) (hL : Lev lv) (hlv : lv.length ≤ 900) (hK : 1000 ≤ K) (hn : n ≤ 900) (hlev : 1 ≤ level ∧ level ≤ 126)
    (hr : ∀ k, K ≤ k → naskhref29_Visual.l1 k lv res (level - 1) = r) : ∀ (d lo : Nat) (cur : List Int) (k : Nat), cur.length = n → lo ≤ n → n ≤ lo + d → (∀ p ∈ cur, 0 ≤ p ∧ p < (lv.length : Int)) → K + 1000 * (d + 1) ≤ k →
    (if oddLe lv level = true then cur.take lo ++ order_Visual.turnA (fun p => decide (level ≤ rd lv p)) [] (cur.drop lo) = res else cur = res) → naskhref29_Visual.l2 k lv cur level (lo : Int) = r := by
  intro d
  induction d with
  | zero =>
    intro lo cur k hc hlo hd hp hk hres
    obtain ⟨k, rfl⟩ : ∃ m, k = m + 1 := ⟨k - 1, by omega⟩
    rw [naskhref29_Visual.l2, if_neg (by omega), w64 (by omega) (by omega)]
    have : cur = res := by
      split at hres
      · rw [List.take_of_length_le (by omega), List.drop_eq_nil_of_le (by omega)] at hres
        simpa [order_Visual.turnA] using hres
      · exact hres
    rw [this]
    exact hr k (by omega)
  | succ d ih =>
    intro lo cur k hc hlo hd hp hk hres
    obtain ⟨k, rfl⟩ : ∃ m, k = m + 1 := ⟨k - 1, by omega⟩
    by_cases hlt : lo < n
    · rw [naskhref29_Visual.l2, if_pos (by omega)]
      obtain ⟨rr, hrr⟩ : ∃ rr, order_Visual.run lv level (cur.drop lo) = rr := ⟨_, rfl⟩
      have hle : rr ≤ n - lo := by have := order_Visual.run_le lv level (cur.drop lo); rw [hrr, List.length_drop] at this; omega
      obtain ⟨nx, hnx⟩ : ∃ nx, nx = if lo + rr < lo + 1 then lo + 1 else lo + rr := ⟨_, rfl⟩
      refine l3_loop lv cur level lo r (K + 1000 * (d + 1) + 1) hp (by omega) (cur.length - lo) lo k (by omega) (by omega) (fun k hk => ?_)
      obtain ⟨k, rfl⟩ : ∃ m, k = m + 1 := ⟨k - 1, by omega⟩
      rw [hrr, naskhref29_Visual.j4, refodd_f lv level k hL (by omega) (by omega), Option.bind_some]
      have hnext : wrap64 ((mx (lo : Int) (wrap64 (((lo + rr : Nat) : Int) - 1))) + 1) = (nx : Int) := by
        rw [show wrap64 (((lo + rr : Nat) : Int) - 1) = ((lo + rr : Nat) : Int) - 1 from w64 (by omega) (by omega)]
        have : mx (lo : Int) (((lo + rr : Nat) : Int) - 1) + 1 = (nx : Int) := by
          rw [hnx]; unfold mx
          repeat' split
          all_goals omega
        rw [this]
        have hnx2 : nx ≤ n := by rw [hnx]; split <;> omega
        exact w64 (by omega) (by omega)
      have hnx1 : nx ≤ n ∧ lo < nx := by rw [hnx]; split <;> omega
      by_cases ho : oddLe lv level = true
      · rw [if_pos ho, refturn_f cur lo rr k (by omega) (by omega) (by omega), Option.bind_some, hnext]
        obtain ⟨new, hnew⟩ : ∃ new, new = cur.take lo ++ (((cur.drop lo).take rr).reverse ++ cur.drop (lo + rr)) := ⟨_, rfl⟩
        obtain ⟨a1, a2, a3, a4, a5⟩ := order_Visual.turn_round lv level cur lo (by omega) rr hrr nx hnx new hnew
        rw [← hnew]
        rw [if_pos ho] at hres
        exact ih nx new k (by omega) (by omega) (by omega) (fun p h => hp p (a5 p h)) (by omega) (by rw [if_pos ho, a4, hres])
      · rw [if_neg ho, hnext]
        rw [if_neg ho] at hres
        exact ih nx cur k hc (by omega) (by omega) hp (by omega) (by rw [if_neg ho]; exact hres)
    · rw [naskhref29_Visual.l2, if_neg (by omega), w64 (by omega) (by omega)]
      have : cur = res := by
        split at hres
        · rw [List.take_of_length_le (by omega), List.drop_eq_nil_of_le (by omega)] at hres
          simpa [order_Visual.turnA] using hres
        · exact hres
      rw [this]
      exact hr k (by omega)
theorem step_length (lv : List Int) (level : Int) (o : List Int) : (step lv level o).length = o.length := by
  unfold step; split
  · rw [turnA_length]; simp
  · rfl
theorem step_mem (lv : List Int) (level : Int) (o : List Int) (p : Int) : p ∈ step lv level o ↔ p ∈ o := by
  unfold step; split
  · rw [order_Visual.turnA_mem]; simp
  · exact Iff.rfl
def rdown (lv : List Int) : Nat → List Int → List Int
  | 0, o => o
  | j + 1, o => rdown lv j (step lv ((j + 1 : Nat) : Int) o)
set_option maxRecDepth 20000 in
theorem l1_loop (lv : List Int) (hL : Lev lv) (hlv : lv.length ≤ 900) : ∀ (j : Nat) (cur : List Int) (k : Nat), j ≤ 126 → cur.length ≤ 900 → (∀ p ∈ cur, 0 ≤ p ∧ p < (lv.length : Int)) → 1000 + 1000000 * (j + 1) ≤ k →
    naskhref29_Visual.l1 k lv cur (j : Int) = some (rdown lv j cur) := by
  intro j
  induction j with
  | zero =>
    intro cur k hj hc hp hk
    obtain ⟨k, rfl⟩ : ∃ m, k = m + 1 := ⟨k - 1, by omega⟩
    rw [naskhref29_Visual.l1, if_neg (by omega)]
    rfl
  | succ j ih =>
    intro cur k hj hc hp hk
    obtain ⟨k, rfl⟩ : ∃ m, k = m + 1 := ⟨k - 1, by omega⟩
    rw [naskhref29_Visual.l1, if_pos (by omega), rdown]
    refine l2_loop lv ((j + 1 : Nat) : Int) (step lv ((j + 1 : Nat) : Int) cur) _ (1000 + 1000000 * (j + 1)) cur.length hL hlv (by omega) hc (by omega) (fun k hk => ?_) cur.length 0 cur k rfl (by omega) (by omega) hp (by omega) ?_
    · have e : ((j + 1 : Nat) : Int) - 1 = (j : Int) := by omega
      rw [e]
      exact ih _ k (by omega) (by rw [step_length]; exact hc) (fun p h => hp p ((step_mem _ _ _ _).mp h)) hk
    · unfold step
      split
      · simp
      · rfl
theorem l0_loop (lv x3 : List Int) (r : Option (List Int)) (K : Nat) : ∀ (rest pre : List Int) (m : Int) (k : Nat), lv = pre ++ rest → rest.length + K < k → lv.length ≤ 900 → (∀ k, K ≤ k → naskhref29_Visual.l1 k lv x3 (most m rest) = r) →
    naskhref29_Visual.l0 k lv x3 m (pre.length : Int) = r := by
  intro rest
  induction rest with
  | nil =>
    intro pre m k hl hk hn hr
    obtain ⟨k, rfl⟩ : ∃ m, k = m + 1 := ⟨k - 1, by omega⟩
    rw [naskhref29_Visual.l0, if_neg (by rw [hl]; simp)]
    exact hr k (by simp at hk; omega)
  | cons x rest ih =>
    intro pre m k hl hk hn hr
    obtain ⟨k, rfl⟩ : ∃ m, k = m + 1 := ⟨k - 1, by omega⟩
    rw [List.length_cons] at hk
    have hlen : lv.length = pre.length + rest.length + 1 := by rw [hl]; simp; omega
    have hrd : rd lv (pre.length : Int) = x := by rw [hl]; exact rd_at pre x rest
    have step := ih (pre ++ [x]) (mx m x) k (by rw [hl]; simp) (by omega) hn hr
    simp only [List.length_append, List.length_cons, List.length_nil, Nat.zero_add, Int.natCast_add, Int.natCast_one] at step
    rw [naskhref29_Visual.l0, if_pos (by omega), if_pos (by omega), hrd, w64 (by omega) (by omega), step]
theorem odd_iff (lv : List Int) (hL : Lev lv) (level : Int) : oddLe lv level = true ↔ (0 < (bnd 0 0 lv).2 ∧ (bnd 0 0 lv).2 ≤ level) := by
  have h := (bnd_odd lv 0 0 hL (by omega) level).1
  rw [h]
  simp [oddLe]
theorem rdown_none (lv : List Int) (hL : Lev lv) (h : ¬ 0 < (bnd 0 0 lv).2) : ∀ (j : Nat) (o : List Int), rdown lv j o = o
  | 0, _ => rfl
  | j + 1, o => by
    rw [rdown, rdown_none lv hL h j, step, if_neg]
    intro hh
    exact h ((odd_iff lv hL _).mp hh).1
theorem rdown_down (lv : List Int) (hL : Lev lv) (h : 0 < (bnd 0 0 lv).2) : ∀ (j : Nat) (o : List Int), rdown lv j o = order_Visual.down lv ((j : Int) - (bnd 0 0 lv).2 + 1).toNat (j : Int) o
  | 0, o => by
    have e : (((0 : Nat) : Int) - (bnd 0 0 lv).2 + 1).toNat = 0 := by omega
    rw [e]; rfl
  | j + 1, o => by
    rw [rdown, rdown_down lv hL h j, step]
    by_cases hj : (bnd 0 0 lv).2 ≤ ((j + 1 : Nat) : Int)
    · rw [if_pos ((odd_iff lv hL _).mpr ⟨h, hj⟩)]
      have e : (((j + 1 : Nat) : Int) - (bnd 0 0 lv).2 + 1).toNat = ((j : Int) - (bnd 0 0 lv).2 + 1).toNat + 1 := by omega
      rw [e, order_Visual.down]
      have e2 : ((j + 1 : Nat) : Int) - 1 = (j : Int) := by omega
      rw [e2]
    · rw [if_neg (fun hh => hj ((odd_iff lv hL _).mp hh).2)]
      have e : (((j + 1 : Nat) : Int) - (bnd 0 0 lv).2 + 1).toNat = 0 := by omega
      have e2 : ((j : Int) - (bnd 0 0 lv).2 + 1).toNat = 0 := by omega
      rw [e, e2]; rfl
theorem most_nonneg (l : List Int) : 0 ≤ most 0 l := most_ge l 0
set_option maxRecDepth 20000 in
theorem refvisual_f (l : List Int) (k : Nat) (hk : 200000000 ≤ k) (hl : l.length ≤ 900) : naskhref29_Visual.f k l = some (vis (l.map clamp)) := by
  unfold naskhref29_Visual.f
  have hL := lev_map l
  have hlm : (l.map clamp).length = l.length := List.length_map _
  rw [refheld_f l k (by omega) (by omega), Option.bind_some, refplaces_f _ k (by omega) (by omega), Option.bind_some]
  obtain ⟨j, hj⟩ : ∃ j : Nat, most 0 (l.map clamp) = (j : Int) := ⟨(most 0 (l.map clamp)).toNat, by have := most_nonneg (l.map clamp); omega⟩
  have hj2 : j ≤ 126 := by have := most_le (l.map clamp) 0 hL (by omega); omega
  have h := l0_loop (l.map clamp) (order_Visual.iota (l.map clamp).length) (some (rdown (l.map clamp) j (order_Visual.iota (l.map clamp).length))) 150000000 (l.map clamp) [] 0 k rfl (by omega) (by omega) (fun k hk => by
    rw [hj]
    have hk2 : 1000 + 1000000 * (j + 1) ≤ k := Nat.le_trans (Nat.le_trans (Nat.add_le_add_left (Nat.mul_le_mul_left 1000000 (Nat.succ_le_succ hj2)) 1000) (by decide : 1000 + 1000000 * (126 + 1) ≤ 150000000)) hk
    exact l1_loop _ hL (by omega) j _ k hj2 (by rw [iota_length]; omega) (fun p h => iota_mem _ p h) hk2)
  have h2 : naskhref29_Visual.l0 k (l.map clamp) (order_Visual.iota (l.map clamp).length) 0 0 = some (rdown (l.map clamp) j (order_Visual.iota (l.map clamp).length)) := h
  rw [h2]
  congr 1
  unfold vis
  split
  · rename_i ho
    rw [rdown_down _ hL ho, bnd_most, hj]
  · rename_i ho
    exact rdown_none _ hL ho j _


theorem vis_plc (lv : List Int) : ∃ o, plc (List.replicate lv.length (-1)) 0 (vis lv) = some o := by
  have := plc_some (vis lv) [] (List.replicate lv.length (-1)) (by simpa using vis_nodup lv) (fun v hv => by rw [List.length_replicate]; exact vis_mem lv v hv) (fun v h0 h1 => by
    right
    rw [List.length_replicate]
    apply Classical.byContradiction
    intro h
    have : rd (List.replicate lv.length (-1)) v = -1 := by
      unfold rd
      rw [List.getD_eq_getElem?_getD, List.getElem?_replicate, if_pos (by omega)]; rfl
    omega)
  simpa using this

theorem plc_range : ∀ (rest out : List Int) (i : Nat) (o : List Int), plc out i rest = some o → (∀ v ∈ rest, 0 ≤ v ∧ v < (out.length : Int)) ∧ o.length = out.length
  | [], out, i, o, h => by rw [plc] at h; obtain rfl := Option.some.inj h; exact ⟨fun v hv => by simp at hv, rfl⟩
  | v :: rest, out, i, o, h => by
    rw [plc] at h
    by_cases hc : 0 ≤ v ∧ v < (out.length : Int) ∧ rd out v < 0
    · rw [if_pos hc] at h
      obtain ⟨h1, h2⟩ := plc_range rest _ _ o h
      rw [List.length_set] at h1 h2
      refine ⟨fun w hw => ?_, h2⟩
      rcases List.mem_cons.mp hw with e | hw
      · subst e; exact ⟨hc.1, hc.2.1⟩
      · exact h1 w hw
    · rw [if_neg hc] at h; cases h
/-- How many places are not filled. -/
def neg (out : List Int) : Nat := out.countP fun x => decide (x < 0)
theorem neg_set (out : List Int) (v : Int) (x : Int) (hv : 0 ≤ v ∧ v < (out.length : Int)) (hn : rd out v < 0) (hx : 0 ≤ x) : neg (out.set v.toNat x) + 1 = neg out := by
  have hlt : v.toNat < out.length := by omega
  have hr : rd out v = out[v.toNat] := by unfold rd; simp [hlt]
  rw [hr] at hn
  have e : out = out.take v.toNat ++ out[v.toNat] :: out.drop (v.toNat + 1) := by rw [← List.drop_eq_getElem_cons hlt, List.take_append_drop]
  unfold neg
  rw [List.set_eq_take_append_cons_drop, if_pos hlt]
  conv => rhs; rw [e]
  rw [List.countP_append, List.countP_append, List.countP_cons, List.countP_cons, if_neg (by simp; omega), if_pos (by simp; omega)]
  omega
theorem plc_neg : ∀ (rest out : List Int) (i : Nat) (o : List Int), plc out i rest = some o → neg o + rest.length = neg out
  | [], out, i, o, h => by rw [plc] at h; obtain rfl := Option.some.inj h; rfl
  | v :: rest, out, i, o, h => by
    rw [plc] at h
    by_cases hc : 0 ≤ v ∧ v < (out.length : Int) ∧ rd out v < 0
    · rw [if_pos hc] at h
      have h1 := plc_neg rest _ _ o h
      have h2 := neg_set out v (i : Int) ⟨hc.1, hc.2.1⟩ hc.2.2 (by omega)
      rw [List.length_cons]
      omega
    · rw [if_neg hc] at h; cases h
theorem neg_zero (o : List Int) (h : neg o = 0) (j : Int) (h0 : 0 ≤ j ∧ j < (o.length : Int)) : 0 ≤ rd o j := by
  unfold neg at h
  rw [List.countP_eq_zero] at h
  have hlt : j.toNat < o.length := by omega
  have hr : rd o j = o[j.toNat] := by unfold rd; simp [hlt]
  rw [hr]
  have := h o[j.toNat] (List.getElem_mem hlt)
  simpa using this
theorem plc_full (l o : List Int) (h : plc (List.replicate l.length (-1)) 0 l = some o) : o.length = l.length ∧ ∀ j : Int, 0 ≤ j → j < (l.length : Int) → 0 ≤ rd o j := by
  obtain ⟨_, h2⟩ := plc_range _ _ _ _ h
  rw [List.length_replicate] at h2
  refine ⟨h2, fun j h0 h1 => neg_zero o ?_ j ⟨h0, by omega⟩⟩
  have h3 := plc_neg _ _ _ _ h
  have h4 : neg (List.replicate l.length (-1)) = l.length := by unfold neg; simp [List.countP_replicate]
  omega
theorem rdB_set (s : List Bool) (v w : Int) (hv : 0 ≤ v ∧ v < (s.length : Int)) (hw : 0 ≤ w) : rdOf false (s.set v.toNat true) w = if w = v then true else rdOf false s w := by
  unfold rdOf
  simp only [List.getD_eq_getElem?_getD, List.getElem?_set]
  by_cases h : w = v
  · subst h; rw [if_pos rfl, if_pos rfl, if_pos (by omega)]; rfl
  · rw [if_neg h, if_neg (by omega)]
theorem refperm_loop (l : List Int) (hm : l.length ≤ 35184372088832) : ∀ (rest pre out : List Int) (seen : List Bool) (k : Nat), l = pre ++ rest → rest.length < k → out.length = l.length → seen.length = l.length →
    (∀ v : Int, 0 ≤ v → (rdOf false seen v = true ↔ (0 ≤ v ∧ v < (l.length : Int) ∧ 0 ≤ rd out v))) → naskhref29_Permutes.l0 k l seen (pre.length : Int) = some (plc out pre.length rest).isSome := by
  intro rest
  induction rest with
  | nil =>
    intro pre out seen k hl hk ho hs hr
    obtain ⟨k, rfl⟩ : ∃ m, k = m + 1 := ⟨k - 1, by omega⟩
    rw [naskhref29_Permutes.l0, if_neg (by rw [hl]; simp)]
    rfl
  | cons v rest ih =>
    intro pre out seen k hl hk ho hs hr
    obtain ⟨k, rfl⟩ : ∃ m, k = m + 1 := ⟨k - 1, by omega⟩
    rw [List.length_cons] at hk
    have hlen : l.length = pre.length + rest.length + 1 := by rw [hl]; simp; omega
    have hrd : rd l (pre.length : Int) = v := by rw [hl]; exact rd_at pre v rest
    have step := fun out seen ho hs hr => ih (pre ++ [v]) out seen k (by rw [hl]; simp) (by omega) ho hs hr
    simp only [List.length_append, List.length_cons, List.length_nil, Nat.zero_add, Int.natCast_add, Int.natCast_one] at step
    rw [naskhref29_Permutes.l0, if_pos (by omega), if_pos (by omega), hrd, plc]
    by_cases h1 : v < 0
    · rw [if_pos h1, if_neg (by omega)]; rfl
    · rw [if_neg h1]
      by_cases h2 : (l.length : Int) ≤ v
      · rw [if_pos h2, if_neg (by omega)]; rfl
      · rw [if_neg h2, if_pos (by omega), if_pos (by omega)]
        by_cases h3 : 0 ≤ rd out v
        · rw [if_pos ((hr v (by omega)).mpr ⟨by omega, by omega, h3⟩), if_neg (by omega)]; rfl
        · rw [if_neg (fun h => h3 ((hr v (by omega)).mp h).2.2), if_pos (by omega), w64 (by omega) (by omega)]
          refine step _ _ (by rw [List.length_set]; exact ho) (by rw [List.length_set]; exact hs) (fun w hw => ?_)
          rw [rdB_set seen v w (by omega) hw, rd_set out v w _ (by omega) hw]
          by_cases e : w = v
          · rw [if_pos e, if_pos e]; simp; omega
          · rw [if_neg e, if_neg e]; exact hr w hw
theorem refperm_f (l : List Int) (k : Nat) (hk : l.length < k) (hl : l.length ≤ 35184372088832) : naskhref29_Permutes.f k l = some (plc (List.replicate l.length (-1)) 0 l).isSome := by
  unfold naskhref29_Permutes.f
  rw [if_pos (by omega), if_pos (by omega)]
  refine refperm_loop l hl l [] _ _ k rfl hk (by simp) (by simp) (fun v hv => ?_)
  have e1 : rdOf false (List.replicate ((l.length : Int)).toNat false) v = false := by
    unfold rdOf; rw [List.getD_eq_getElem?_getD, List.getElem?_replicate]; split <;> rfl
  rw [e1]
  constructor
  · intro h; cases h
  · rintro ⟨h1, h2, h3⟩
    have e2 : rd (List.replicate l.length (-1)) v = -1 := by
      unfold rd; rw [List.getD_eq_getElem?_getD, List.getElem?_replicate, if_pos (by omega)]; rfl
    omega
theorem refinv_loop (l : List Int) (hm : l.length ≤ 35184372088832) : ∀ (rest pre out x4 : List Int) (k : Nat) (o : List Int), l = pre ++ rest → rest.length < k → out.length = l.length → x4.length = l.length →
    (∀ v : Int, 0 ≤ v → v < (l.length : Int) → 0 ≤ rd out v → rd x4 v = rd out v) → plc out pre.length rest = some o →
    ∃ x, naskhref29_Inverse.l0 k l x4 (pre.length : Int) = some (x, 0) ∧ x.length = l.length ∧ ∀ v : Int, 0 ≤ v → v < (l.length : Int) → 0 ≤ rd o v → rd x v = rd o v := by
  intro rest
  induction rest with
  | nil =>
    intro pre out x4 k o hl hk ho hx hr hp
    obtain ⟨k, rfl⟩ : ∃ m, k = m + 1 := ⟨k - 1, by omega⟩
    rw [plc] at hp
    obtain rfl := Option.some.inj hp
    rw [naskhref29_Inverse.l0, if_neg (by rw [hl]; simp)]
    exact ⟨x4, rfl, hx, hr⟩
  | cons v rest ih =>
    intro pre out x4 k o hl hk ho hx hr hp
    obtain ⟨k, rfl⟩ : ∃ m, k = m + 1 := ⟨k - 1, by omega⟩
    rw [List.length_cons] at hk
    have hlen : l.length = pre.length + rest.length + 1 := by rw [hl]; simp; omega
    have hrd : rd l (pre.length : Int) = v := by rw [hl]; exact rd_at pre v rest
    rw [plc] at hp
    by_cases hc : 0 ≤ v ∧ v < (out.length : Int) ∧ rd out v < 0
    · rw [if_pos hc] at hp
      have step := ih (pre ++ [v]) (out.set v.toNat (pre.length : Int)) (x4.set v.toNat (pre.length : Int)) k o (by rw [hl]; simp) (by omega) (by rw [List.length_set]; exact ho) (by rw [List.length_set]; exact hx) (fun w h0 h1 h2 => by
        rw [rd_set out v w _ (by omega) h0] at h2 ⊢
        rw [rd_set x4 v w _ (by omega) h0]
        by_cases e : w = v
        · rw [if_pos e, if_pos e]
        · rw [if_neg e] at h2
          rw [if_neg e, if_neg e]
          exact hr w h0 h1 h2) (by simpa using hp)
      simp only [List.length_append, List.length_cons, List.length_nil, Nat.zero_add, Int.natCast_add, Int.natCast_one] at step
      rw [naskhref29_Inverse.l0, if_pos (by omega), if_pos (by omega), hrd, if_pos hc.1, if_pos (by omega), w64 (by omega) (by omega)]
      exact step
    · rw [if_neg hc] at hp; cases hp
theorem rd_ext (a b : List Int) (hl : a.length = b.length) (h : ∀ v : Int, 0 ≤ v → v < (a.length : Int) → rd a v = rd b v) : a = b := by
  apply List.ext_getElem hl
  intro i h1 h2
  have := h (i : Int) (by omega) (by omega)
  rwa [rd_nat a i h1, rd_nat b i h2] at this
theorem refinv_f (l : List Int) (k : Nat) (hk : l.length < k) (hl : l.length ≤ 35184372088832) :
    naskhref29_Inverse.f k l = some (match plc (List.replicate l.length (-1)) 0 l with | some o => (o, 0) | none => ([], 13)) := by
  unfold naskhref29_Inverse.f
  rw [refperm_f l k hk hl, Option.bind_some]
  cases hp : plc (List.replicate l.length (-1)) 0 l with
  | none => rw [if_neg (by simp)]
  | some o =>
    rw [if_pos (by simp), if_pos (by omega), if_pos (by omega)]
    obtain ⟨x, h1, h2, h3⟩ := refinv_loop l hl l [] (List.replicate l.length (-1)) (List.replicate ((l.length : Int)).toNat 0) k o rfl hk (by simp) (by simp) (fun v h0 h1 h2 => by
      have e2 : rd (List.replicate l.length (-1)) v = -1 := by
        unfold rd; rw [List.getD_eq_getElem?_getD, List.getElem?_replicate, if_pos (by omega)]; rfl
      omega) (by simpa using hp)
    obtain ⟨h4, h5⟩ := plc_full l o hp
    have h6 : naskhref29_Inverse.l0 k l (List.replicate ((l.length : Int)).toNat 0) 0 = some (x, 0) := h1
    rw [h6]
    have : x = o := rd_ext x o (by omega) (fun v h0 h1 => h3 v h0 (by omega) (h5 v h0 (by omega)))
    rw [this]
theorem inverse_f (l : List Int) (k : Nat) (hk : l.length < k) (hl : l.length ≤ 35184372088832) :
    order_Inverse.f k l = some (match plc (List.replicate l.length (-1)) 0 l with | some o => (o, 0) | none => ([], 13)) := by
  unfold order_Inverse.f
  rw [places_f l k hk hl, Option.bind_some]
  cases plc (List.replicate l.length (-1)) 0 l with
  | none => rw [if_neg (by simp)]
  | some o => rw [if_pos (by simp)]

theorem plc_spec : ∀ (rest out : List Int) (i : Nat) (o : List Int), plc out i rest = some o → (∀ (j : Nat), j < rest.length → rd o (rd rest (j : Int)) = ((i + j : Nat) : Int)) ∧ (∀ w : Int, 0 ≤ w → w ∉ rest → rd o w = rd out w) ∧ (∀ w ∈ rest, rd out w < 0)
  | [], out, i, o, h => by
    rw [plc] at h; obtain rfl := Option.some.inj h
    exact ⟨fun j hj => by simp at hj, fun w _ _ => rfl, fun w hw => by simp at hw⟩
  | v :: rest, out, i, o, h => by
    rw [plc] at h
    by_cases hc : 0 ≤ v ∧ v < (out.length : Int) ∧ rd out v < 0
    · rw [if_pos hc] at h
      obtain ⟨h1, h2, h3⟩ := plc_spec rest _ _ o h
      obtain ⟨hr, _⟩ := plc_range rest _ _ o h
      have hv : 0 ≤ v ∧ v < (out.length : Int) := ⟨hc.1, hc.2.1⟩
      have hnv : v ∉ rest := by
        intro hm
        have := h3 v hm
        rw [rd_set out v v _ hv hv.1, if_pos rfl] at this
        omega
      refine ⟨fun j hj => ?_, fun w h0 hw => ?_, fun w hw => ?_⟩
      · match j with
        | 0 =>
          have e : rd (v :: rest) ((0 : Nat) : Int) = v := rfl
          rw [e, h2 v hv.1 hnv, rd_set out v v _ hv hv.1, if_pos rfl]
          omega
        | j + 1 =>
          have e : rd (v :: rest) ((j + 1 : Nat) : Int) = rd rest (j : Int) := by unfold rd; simp
          rw [e, h1 j (by simpa using hj)]
          omega
      · simp only [List.mem_cons, not_or] at hw
        rw [h2 w h0 hw.2, rd_set out v w _ hv h0, if_neg hw.1]
      · rcases List.mem_cons.mp hw with e | hw
        · rw [e]; exact hc.2.2
        · have h4 := h3 w hw
          have h0 := (hr w hw).1
          rw [rd_set out v w _ hv h0] at h4
          by_cases e : w = v
          · rw [e]; exact hc.2.2
          · rwa [if_neg e] at h4
    · rw [if_neg hc] at h; cases h
theorem rd_mem (l : List Int) (v : Int) (h : v ∈ l) : ∃ j : Nat, j < l.length ∧ rd l (j : Int) = v := by
  obtain ⟨j, hj, e⟩ := List.getElem_of_mem h
  exact ⟨j, hj, by rw [rd_nat l j hj]; exact e⟩
theorem inv_facts (o a : List Int) (h : plc (List.replicate o.length (-1)) 0 o = some a) : a.length = o.length ∧ (∀ p : Nat, p < o.length → rd a (rd o (p : Int)) = (p : Int)) ∧ (∀ v : Int, 0 ≤ v → v < (o.length : Int) → 0 ≤ rd a v ∧ rd a v < (o.length : Int) ∧ rd o (rd a v) = v) := by
  obtain ⟨h1, h2, _⟩ := plc_spec _ _ _ _ h
  obtain ⟨h4, h5⟩ := plc_full o a h
  refine ⟨h4, fun p hp => by rw [h1 p hp]; omega, fun v h0 hv => ?_⟩
  have hm : v ∈ o := by
    apply Classical.byContradiction
    intro hn
    have := h2 v h0 hn
    have e2 : rd (List.replicate o.length (-1)) v = -1 := by
      unfold rd; rw [List.getD_eq_getElem?_getD, List.getElem?_replicate, if_pos (by omega)]; rfl
    have := h5 v h0 hv
    omega
  obtain ⟨j, hj, e⟩ := rd_mem o v hm
  have := h1 j hj
  rw [e] at this
  rw [this]
  refine ⟨by omega, by omega, ?_⟩
  rw [show ((0 + j : Nat) : Int) = (j : Int) by omega]
  exact e
theorem nodup_of_rd (a : List Int) (h : ∀ v w : Int, 0 ≤ v → v < (a.length : Int) → 0 ≤ w → w < (a.length : Int) → rd a v = rd a w → v = w) : a.Nodup := by
  rw [List.nodup_iff_pairwise_ne, List.pairwise_iff_getElem]
  intro i j hi hj hij e
  have := h (i : Int) (j : Int) (by omega) (by omega) (by omega) (by omega) (by rw [rd_nat a i hi, rd_nat a j hj]; exact e)
  omega
theorem inv_inv (o a : List Int) (h : plc (List.replicate o.length (-1)) 0 o = some a) : plc (List.replicate o.length (-1)) 0 a = some o := by
  obtain ⟨h1, h2, h3⟩ := inv_facts o a h
  have hnd : a.Nodup := nodup_of_rd a (fun v w a0 a1 b0 b1 e => by
    have e1 := (h3 v a0 (by omega)).2.2
    have e2 := (h3 w b0 (by omega)).2.2
    rw [← e1, e, e2])
  have hneg : ∀ v : Int, 0 ≤ v → v < (o.length : Int) → rd (List.replicate o.length (-1)) v = -1 := fun v h0 h1 => by
    unfold rd; rw [List.getD_eq_getElem?_getD, List.getElem?_replicate, if_pos (by omega)]; rfl
  obtain ⟨b, hb⟩ := plc_some a [] (List.replicate o.length (-1)) (by simpa using hnd) (fun v hv => by
    rw [List.length_replicate]
    obtain ⟨j, hj, e⟩ := rd_mem a v hv
    have := h3 (j : Int) (by omega) (by omega)
    rw [e] at this
    exact ⟨this.1, this.2.1⟩) (fun v h0 h4 => by
    right
    rw [List.length_replicate]
    apply Classical.byContradiction
    intro hn
    have := hneg v h0 (by omega)
    omega)
  have hb' : plc (List.replicate a.length (-1)) 0 a = some b := by rw [h1]; simpa using hb
  obtain ⟨g1, g2, _⟩ := inv_facts a b hb'
  have : b = o := rd_ext b o (by omega) (fun p h0 h4 => by
    have k1 := h2 p.toNat (by omega)
    rw [show ((p.toNat : Nat) : Int) = p by omega] at k1
    have k2 : 0 ≤ rd o p ∧ rd o p < (o.length : Int) := by
      obtain ⟨r1, _⟩ := plc_range _ _ _ _ h
      have := r1 (rd o p) (by
        have hp : p.toNat < o.length := by omega
        have : rd o p = o[p.toNat] := by unfold rd; simp [hp]
        rw [this]; exact List.getElem_mem hp)
      rwa [List.length_replicate] at this
    have k3 := g2 (rd o p).toNat (by omega)
    rw [show (((rd o p).toNat : Nat) : Int) = rd o p by omega, k1] at k3
    exact k3)
  subst this
  simpa using hb

theorem and_one (x : Int) : Go.bits .and .i64 x 1 = x % 2 := by
  have h1 : (BitVec.ofInt 64 x).toNat = (x % 18446744073709551616).toNat := by rw [BitVec.toNat_ofInt]; rfl
  have h2 : (BitVec.ofInt 64 1).toNat = 1 := by decide
  have h3 : (BitVec.ofInt 64 x &&& BitVec.ofInt 64 1).toNat = (x % 18446744073709551616).toNat % 2 := by rw [BitVec.toNat_and, h1, h2, Nat.and_one_is_mod]
  show IntKind.i64.wrap (((BitVec.ofInt 64 x &&& BitVec.ofInt 64 1).toNat : Nat) : Int) = x % 2
  rw [h3, IntKind.wrap_i64]
  omega
/-- How far a group goes. -/
def ext (lv : List Int) (mk : List Bool) (L : Int) : Nat → Nat → Nat
  | 0, p => p
  | d + 1, p => if p < lv.length ∧ rdOf false mk (p : Int) = true ∧ rd lv (p : Int) = L then ext lv mk L d (p + 1) else p
theorem ext_ge (lv : List Int) (mk : List Bool) (L : Int) : ∀ d p, p ≤ ext lv mk L d p
  | 0, p => Nat.le_refl _
  | d + 1, p => by
    rw [ext]; split
    · have := ext_ge lv mk L d (p + 1); omega
    · exact Nat.le_refl _
theorem ext_le (lv : List Int) (mk : List Bool) (L : Int) : ∀ d p, p ≤ lv.length → ext lv mk L d p ≤ lv.length
  | 0, p, h => h
  | d + 1, p, h => by
    rw [ext]; split
    · rename_i hc
      exact ext_le lv mk L d (p + 1) hc.1
    · exact h
theorem ext_in (lv : List Int) (mk : List Bool) (L : Int) : ∀ d p i, p ≤ i → i < ext lv mk L d p → rdOf false mk (i : Int) = true ∧ rd lv (i : Int) = L
  | 0, p, i, h, h1 => by rw [ext] at h1; omega
  | d + 1, p, i, h, h1 => by
    rw [ext] at h1
    split at h1
    · rename_i hc
      by_cases he : i = p
      · subst he; exact hc.2
      · exact ext_in lv mk L d (p + 1) i (by omega) h1
    · omega
def hiOf (lv : List Int) (mk : List Bool) (lo : Nat) : Nat := ext lv mk (rd lv (lo : Int)) (lv.length - (lo + 1)) (lo + 1)
def isG (lv : List Int) (mk : List Bool) (lo : Nat) : Bool := decide (rdOf false mk (lo : Int) = false ∧ rd lv (lo : Int) % 2 = 1 ∧ lo + 1 < hiOf lv mk lo)
/-- The groups from a place on. -/
def grps (lv : List Int) (mk : List Bool) : Nat → Nat → List S31
  | 0, _ => []
  | d + 1, lo => if lo < lv.length then (if isG lv mk lo = true then [(⟨(lo : Int), (hiOf lv mk lo : Int)⟩ : S31)] else []) ++ grps lv mk d (hiOf lv mk lo) else []
theorem hiOf_ge (lv : List Int) (mk : List Bool) (lo : Nat) : lo + 1 ≤ hiOf lv mk lo := ext_ge _ _ _ _ _
theorem hiOf_le (lv : List Int) (mk : List Bool) (lo : Nat) (h : lo < lv.length) : hiOf lv mk lo ≤ lv.length := ext_le _ _ _ _ _ h
theorem group_loop (lv : List Int) (mk : List Bool) (lo : Nat) (hlo : lo < lv.length) (hm : mk.length = lv.length) (hl : lv.length ≤ 1000) (f0 : Int) : ∀ (d p k : Nat), p + d = lv.length → d < k →
    accent_group.l0 k lv mk (lo : Int) f0 (p : Int) = some (f0, ((ext lv mk (rd lv (lo : Int)) d p : Nat) : Int)) := by
  intro d
  induction d with
  | zero =>
    intro p k hd hk
    obtain ⟨k, rfl⟩ : ∃ m, k = m + 1 := ⟨k - 1, by omega⟩
    rw [accent_group.l0, if_neg (by omega)]
    rfl
  | succ d ih =>
    intro p k hd hk
    obtain ⟨k, rfl⟩ : ∃ m, k = m + 1 := ⟨k - 1, by omega⟩
    have step := ih (p + 1) k (by omega) (by omega)
    simp only [Int.natCast_add, Int.natCast_one] at step
    rw [accent_group.l0, if_pos (by omega), if_pos (by omega), if_pos (by omega), ext]
    by_cases h1 : rdOf false mk (p : Int) = true
    · rw [if_pos h1, if_pos (by omega), if_pos (by omega)]
      by_cases h2 : rd lv (p : Int) = rd lv (lo : Int)
      · rw [if_pos h2, if_pos ⟨by omega, h1, h2⟩, w64 (by omega) (by omega), step]
      · rw [if_neg h2, if_neg (fun h => h2 h.2.2)]
    · rw [if_neg h1, if_neg (fun h => h1 h.2.1)]
theorem group_f (lv : List Int) (mk : List Bool) (lo : Nat) (hlo : lo < lv.length) (hm : mk.length = lv.length) (hl : lv.length ≤ 1000) (k : Nat) (hk : lv.length < k) :
    accent_group.f k lv mk (lo : Int) = some ((lo : Int), (hiOf lv mk lo : Int)) := by
  unfold accent_group.f
  rw [w64 (by omega) (by omega)]
  have := group_loop lv mk lo hlo hm hl (lo : Int) (lv.length - (lo + 1)) (lo + 1) k (by omega) (by omega)
  simp only [Int.natCast_add, Int.natCast_one] at this
  rw [this]
  rfl
theorem groups_loop (lv : List Int) (mk : List Bool) (hm : mk.length = lv.length) (hl : lv.length ≤ 1000) : ∀ (d lo k : Nat) (acc : List S31), lv.length ≤ lo + d → lo ≤ lv.length → d + lv.length + 1 < k → acc.length + d ≤ 100000 →
    accent_Groups.l0 k lv mk acc (lo : Int) = some (acc ++ grps lv mk d lo) := by
  intro d
  induction d with
  | zero =>
    intro lo k acc hd hlo hk ha
    obtain ⟨k, rfl⟩ : ∃ m, k = m + 1 := ⟨k - 1, by omega⟩
    rw [accent_Groups.l0, if_neg (by omega), grps, List.append_nil]
  | succ d ih =>
    intro lo k acc hd hlo hk ha
    obtain ⟨k, rfl⟩ : ∃ m, k = m + 1 := ⟨k - 1, by omega⟩
    rw [grps]
    by_cases h0 : lo < lv.length
    · have hge := hiOf_ge lv mk lo
      have hle := hiOf_le lv mk lo h0
      have step := fun acc ha => ih (hiOf lv mk lo) k acc (by omega) hle (by omega) ha
      rw [accent_Groups.l0, if_pos (by omega), group_f lv mk lo h0 hm hl k (by omega), Option.bind_some, if_pos (by omega), if_pos (by omega), if_pos h0]
      dsimp only
      by_cases h1 : rdOf false mk (lo : Int) = true
      · rw [if_pos h1, if_neg (by unfold isG; simp [h1]), List.nil_append]
        exact step acc (by omega)
      · rw [if_neg h1, and_one]
        by_cases h2 : rd lv (lo : Int) % 2 = 1
        · rw [if_pos h2, w64 (by omega) (by omega)]
          by_cases h3 : lo + 1 < hiOf lv mk lo
          · rw [if_pos (by omega), if_pos (by omega), if_pos (by unfold isG; simp [h1, h2, h3]), step _ (by simp; omega)]
            simp
          · rw [if_neg (by omega), if_neg (by unfold isG; simp [h3]), List.nil_append]
            exact step acc (by omega)
        · rw [if_neg h2, if_neg (by unfold isG; simp [h2]), List.nil_append]
          exact step acc (by omega)
    · rw [accent_Groups.l0, if_neg (by omega), if_neg h0, List.append_nil]
theorem groups_f (lv : List Int) (mk : List Bool) (hm : mk.length = lv.length) (hl : lv.length ≤ 1000) (k : Nat) (hk : 3000 < k) : accent_Groups.f k lv mk = some (grps lv mk lv.length 0) := by
  unfold accent_Groups.f
  rw [if_pos (by omega)]
  have := groups_loop lv mk hm hl lv.length 0 k [] (by omega) (by omega) (by omega) (by simp; omega)
  simpa using this
theorem grps_ge (lv : List Int) (mk : List Bool) : ∀ (d lo : Nat) (g : S31), g ∈ grps lv mk d lo → (lo : Int) ≤ g.f0 ∧ g.f0 < g.f1 ∧ g.f1 ≤ (lv.length : Int) ∧ rd lv g.f0 % 2 = 1 ∧ (∀ i : Int, g.f0 ≤ i → i < g.f1 → rd lv i = rd lv g.f0)
  | 0, lo, g, h => by rw [grps] at h; simp at h
  | d + 1, lo, g, h => by
    rw [grps] at h
    split at h
    · rename_i h0
      have hge := hiOf_ge lv mk lo
      rcases List.mem_append.mp h with h | h
      · split at h
        · rename_i hg
          simp only [List.mem_singleton] at h
          subst h
          unfold isG at hg
          simp only [decide_eq_true_eq] at hg
          have hle := hiOf_le lv mk lo h0
          refine ⟨Int.le_refl _, by dsimp only; omega, by dsimp only; omega, hg.2.1, fun i h1 h2 => ?_⟩
          dsimp only at h1 h2 ⊢
          by_cases he : i = (lo : Int)
          · rw [he]
          · obtain ⟨j, rfl⟩ := Int.eq_ofNat_of_zero_le (show 0 ≤ i by omega)
            exact (ext_in lv mk _ _ (lo + 1) j (by omega) (by have : j < hiOf lv mk lo := by omega
                                                              exact this)).2
        · simp at h
      · obtain ⟨h1, h2⟩ := grps_ge lv mk d _ g h
        exact ⟨by omega, h2⟩
    · simp at h
theorem grps_apart (lv : List Int) (mk : List Bool) : ∀ (d lo : Nat), (grps lv mk d lo).Pairwise (fun g g' => g.f1 ≤ g'.f0)
  | 0, lo => by rw [grps]; exact List.Pairwise.nil
  | d + 1, lo => by
    rw [grps]
    split
    · split
      · refine List.Pairwise.cons (fun g hg => ?_) (grps_apart lv mk d _)
        exact (grps_ge lv mk d _ g hg).1
      · exact grps_apart lv mk d _
    · exact List.Pairwise.nil
/-- A group's places, turned. -/
def act (g : S31) (v : Int) : Int := if g.f0 ≤ v ∧ v < g.f1 then g.f0 + g.f1 - 1 - v else v
theorem act_act (g : S31) (v : Int) : act g (act g v) = v := by
  unfold act
  by_cases h : g.f0 ≤ v ∧ v < g.f1
  · rw [if_pos h, if_pos (by omega)]; omega
  · rw [if_neg h, if_neg h]
theorem act_out (g : S31) (v : Int) (h : ¬ (g.f0 ≤ v ∧ v < g.f1)) : act g v = v := by unfold act; rw [if_neg h]
/-- Whether a group's places stand falling from a place on. -/
def Falls (o : List Int) (lo : Int) (g : S31) : Prop := lo + (g.f1 - g.f0) ≤ (o.length : Int) ∧ ∀ k : Int, 0 ≤ k → k < g.f1 - g.f0 → rd o (lo + k) = g.f1 - 1 - k
open Classical in
noncomputable def proc (o a : List Int) : List S31 → List Int → List Int
  | [], out => out
  | g :: gs, out => proc o a gs (if Falls o (rd a (g.f1 - 1)) g then out.map (act g) else out)
theorem rd_map (out : List Int) (f : Int → Int) (p : Int) (h : 0 ≤ p ∧ p < (out.length : Int)) : rd (out.map f) p = f (rd out p) := by
  have hp : p.toNat < out.length := by omega
  unfold rd; simp [hp]
/-- What holds of the list while the groups are gone through. -/
structure Inv (o a : List Int) (gs : List S31) (out : List Int) : Prop where
  len : out.length = o.length
  nodup : ∀ v w : Int, 0 ≤ v → v < (o.length : Int) → 0 ≤ w → w < (o.length : Int) → rd out v = rd out w → v = w
  range : ∀ v : Int, 0 ≤ v → v < (o.length : Int) → 0 ≤ rd out v ∧ rd out v < (o.length : Int)
  seg : ∀ g ∈ gs, Falls o (rd a (g.f1 - 1)) g → ∀ k : Int, 0 ≤ k → k < g.f1 - g.f0 → rd out (rd a (g.f1 - 1) + k) = g.f1 - 1 - k
theorem inv_act (o a : List Int) (g : S31) (gs : List S31) (out : List Int) (h : Inv o a (g :: gs) out) (hg : 0 ≤ g.f0 ∧ g.f0 < g.f1 ∧ g.f1 ≤ (o.length : Int)) (hap : ∀ g' ∈ gs, g.f1 ≤ g'.f0) (hgs : ∀ g' ∈ gs, 0 ≤ g'.f0 ∧ g'.f0 < g'.f1 ∧ g'.f1 ≤ (o.length : Int)) (ha : ∀ g' ∈ gs, 0 ≤ rd a (g'.f1 - 1)) : Inv o a gs (out.map (act g)) := by
  refine ⟨by rw [List.length_map]; exact h.len, fun v w h1 h2 h3 h4 he => ?_, fun v h1 h2 => ?_, fun g' hg' hf k h1 h2 => ?_⟩
  · rw [rd_map out _ v ⟨h1, by rw [h.len]; exact h2⟩, rd_map out _ w ⟨h3, by rw [h.len]; exact h4⟩] at he
    have := congrArg (act g) he
    rw [act_act, act_act] at this
    exact h.nodup v w h1 h2 h3 h4 this
  · rw [rd_map out _ v ⟨h1, by rw [h.len]; exact h2⟩]
    have hr := h.range v h1 h2
    unfold act
    split <;> omega
  · have hs := h.seg g' (by simp [hg']) hf k h1 h2
    have hb := hf.1
    have h0 := ha g' hg'
    rw [rd_map out _ _ ⟨by omega, by rw [h.len]; omega⟩, hs]
    have h5 := hap g' hg'
    exact act_out g _ (by omega)
theorem inv_skip (o a : List Int) (g : S31) (gs : List S31) (out : List Int) (h : Inv o a (g :: gs) out) : Inv o a gs out := ⟨h.len, h.nodup, h.range, fun g' hg' => h.seg g' (by simp [hg'])⟩
/-- A part turned round: just the group's places. -/
theorem cut_act (o a : List Int) (g : S31) (gs : List S31) (out : List Int) (h : Inv o a (g :: gs) out) (hg : 0 ≤ g.f0 ∧ g.f0 < g.f1 ∧ g.f1 ≤ (o.length : Int)) (h0 : 0 ≤ rd a (g.f1 - 1)) (hf : Falls o (rd a (g.f1 - 1)) g) :
    slices_ReverseCut_int_int.f out (rd a (g.f1 - 1)) (rd a (g.f1 - 1) + (g.f1 - g.f0)) = some (out.map (act g)) := by
  obtain ⟨lo, hlo⟩ : ∃ lo : Nat, rd a (g.f1 - 1) = (lo : Int) := ⟨(rd a (g.f1 - 1)).toNat, by omega⟩
  obtain ⟨m, hm⟩ : ∃ m : Nat, g.f1 - g.f0 = (m : Int) := ⟨(g.f1 - g.f0).toNat, by omega⟩
  have hseg := h.seg g (by simp) hf
  have hb := hf.1
  rw [hlo, hm] at hb
  rw [hlo, hm] at hseg
  rw [hlo, hm]
  have hl := h.len
  unfold slices_ReverseCut_int_int.f
  rw [if_pos ⟨by omega, by omega, by omega⟩]
  congr 1
  have e1 : ((lo : Int) + (m : Int)).toNat = lo + m := by omega
  rw [Int.toNat_natCast, e1, show lo + m - lo = m by omega]
  refine rd_ext _ _ (by simp; omega) (fun p p0 p1 => ?_)
  have hlen : (List.take lo out ++ ((List.take m (List.drop lo out)).reverse ++ List.drop (lo + m) out)).length = out.length := by simp; omega
  rw [hlen] at p1
  rw [rd_map out _ p ⟨p0, p1⟩]
  obtain ⟨q, rfl⟩ := Int.eq_ofNat_of_zero_le p0
  by_cases hin : lo ≤ q ∧ q < lo + m
  · have e2 : rd (List.take lo out ++ ((List.take m (List.drop lo out)).reverse ++ List.drop (lo + m) out)) (q : Int) = rd out ((lo + (m - 1 - (q - lo)) : Nat) : Int) := by
      unfold rd
      rw [Int.toNat_natCast, Int.toNat_natCast, List.getD_eq_getElem?_getD, List.getD_eq_getElem?_getD, List.getElem?_append_right (by rw [List.length_take]; omega), List.length_take, List.getElem?_append_left (by simp; omega), show min lo out.length = lo by omega,
        List.getElem?_reverse (by simp; omega), List.length_take, List.length_drop, show min m (out.length - lo) = m by omega, List.getElem?_take, if_pos (by omega), List.getElem?_drop]
    have s1 := hseg ((m - 1 - (q - lo) : Nat) : Int) (by omega) (by omega)
    have s2 := hseg ((q - lo : Nat) : Int) (by omega) (by omega)
    rw [show (lo : Int) + ((m - 1 - (q - lo) : Nat) : Int) = ((lo + (m - 1 - (q - lo)) : Nat) : Int) by omega] at s1
    rw [show (lo : Int) + ((q - lo : Nat) : Int) = ((q : Nat) : Int) by omega] at s2
    rw [e2, s1, s2]
    unfold act
    rw [if_pos (by omega)]
    omega
  · have e2 : rd (List.take lo out ++ ((List.take m (List.drop lo out)).reverse ++ List.drop (lo + m) out)) (q : Int) = rd out (q : Int) := by
      unfold rd
      rw [Int.toNat_natCast, List.getD_eq_getElem?_getD, List.getD_eq_getElem?_getD]
      by_cases hq : q < lo
      · rw [List.getElem?_append_left (by rw [List.length_take]; omega), List.getElem?_take, if_pos hq]
      · have hr : (List.take m (List.drop lo out)).reverse.length = m := by simp; omega
        rw [List.getElem?_append_right (by rw [List.length_take]; omega), List.length_take, show min lo out.length = lo by omega, List.getElem?_append_right (by rw [hr]; omega), hr, List.getElem?_drop]
        congr 2
        omega
    rw [e2]
    refine (act_out g _ (fun hv => hin ?_)).symm
    obtain ⟨k, hk⟩ : ∃ k : Int, g.f1 - 1 - rd out (q : Int) = k := ⟨_, rfl⟩
    have s1 := hseg k (by omega) (by omega)
    have := h.nodup (q : Int) ((lo : Int) + k) (by omega) (by omega) (by omega) (by omega) (by rw [s1]; omega)
    omega

/-- Two stand side by side. -/
def Adj (o : List Int) (x y : Int) : Prop := ∃ pre post, o = pre ++ x :: y :: post
theorem turnA_acc (q : Int → Bool) : ∀ (post acc : List Int), ∃ pre rest, order_Visual.turnA q acc post = pre ++ (acc ++ rest)
  | [], acc => ⟨[], [], by simp [order_Visual.turnA]⟩
  | p :: t, acc => by
    rw [order_Visual.turnA]
    split
    · obtain ⟨pre, rest, h⟩ := turnA_acc q t (p :: acc)
      exact ⟨pre ++ [p], rest, by rw [h]; simp⟩
    · exact ⟨[], p :: order_Visual.turnA q [] t, by simp⟩
theorem turnA_adj (q : Int → Bool) (x y : Int) (hq : q x = q y) (post : List Int) : ∀ (pre acc : List Int), if q x = true then Adj (order_Visual.turnA q acc (pre ++ x :: y :: post)) y x else Adj (order_Visual.turnA q acc (pre ++ x :: y :: post)) x y
  | [], acc => by
    by_cases h : q x = true
    · have h2 : q y = true := by rw [← hq]; exact h
      rw [if_pos h, List.nil_append, order_Visual.turnA, if_pos h, order_Visual.turnA, if_pos h2]
      obtain ⟨pre, rest, he⟩ := turnA_acc q post (y :: x :: acc)
      exact ⟨pre, acc ++ rest, by rw [he]; simp⟩
    · have h2 : ¬ q y = true := by rw [← hq]; exact h
      rw [if_neg h, List.nil_append, order_Visual.turnA, if_neg h, order_Visual.turnA, if_neg h2]
      exact ⟨acc, order_Visual.turnA q [] post, by simp⟩
  | p :: t, acc => by
    rw [List.cons_append, order_Visual.turnA]
    by_cases hp : q p = true
    · rw [if_pos hp]; exact turnA_adj q x y hq post t (p :: acc)
    · rw [if_neg hp]
      have h := turnA_adj q x y hq post t []
      by_cases hx : q x = true
      · rw [if_pos hx] at h ⊢
        obtain ⟨a, b, e⟩ := h
        exact ⟨acc ++ p :: a, b, by rw [e]; simp⟩
      · rw [if_neg hx] at h ⊢
        obtain ⟨a, b, e⟩ := h
        exact ⟨acc ++ p :: a, b, by rw [e]; simp⟩
/-- How often a level is turned. -/
def tog (L : Int) : Nat → Int → Nat
  | 0, _ => 0
  | k + 1, level => (if level ≤ L then 1 else 0) + tog L k (level - 1)
theorem tog_eq (L : Int) : ∀ (k : Nat) (level : Int), tog L k level = k - min k (level - L).toNat
  | 0, level => by simp [tog]
  | k + 1, level => by
    rw [tog, tog_eq L k (level - 1)]
    split <;> omega
theorem down_adj (lv : List Int) (L : Int) : ∀ (k : Nat) (level : Int) (o : List Int) (x y : Int), rd lv x = L → rd lv y = L → Adj o x y → if tog L k level % 2 = 0 then Adj (order_Visual.down lv k level o) x y else Adj (order_Visual.down lv k level o) y x
  | 0, level, o, x, y, hx, hy, h => by rw [tog, if_pos rfl]; exact h
  | k + 1, level, o, x, y, hx, hy, h => by
    obtain ⟨pre, post, rfl⟩ := h
    have ht := turnA_adj (fun p => decide (level ≤ rd lv p)) x y (by simp only [hx, hy]) post pre []
    rw [order_Visual.down, tog]
    by_cases hl : level ≤ L
    · rw [if_pos (by simp only [hx]; simpa using hl)] at ht
      have h2 := down_adj lv L k (level - 1) _ y x hy hx ht
      rw [if_pos hl]
      split at h2
      · rw [if_neg (by omega)]; exact h2
      · rw [if_pos (by omega)]; exact h2
    · rw [if_neg (by simp only [hx]; simpa using hl)] at ht
      have h2 := down_adj lv L k (level - 1) _ x y hx hy ht
      rw [if_neg hl, Nat.zero_add]
      exact h2
theorem most_mem : ∀ (l : List Int) (m x : Int), x ∈ l → x ≤ most m l
  | [], m, x, h => by simp at h
  | y :: t, m, x, h => by
    rw [most]
    rcases List.mem_cons.mp h with e | h
    · subst e
      have h1 := most_ge t (mx m x)
      have h2 : x ≤ mx m x := by unfold mx; split <;> omega
      omega
    · exact most_mem t _ x h
theorem iota_adj (n i : Nat) (h : i + 1 < n) : Adj (order_Visual.iota n) (i : Int) ((i : Int) + 1) := by
  refine ⟨(order_Visual.iota n).take i, (order_Visual.iota n).drop (i + 2), ?_⟩
  have hl : (order_Visual.iota n).length = n := iota_length n
  have e1 := List.drop_eq_getElem_cons (l := order_Visual.iota n) (i := i) (by omega)
  have e2 := List.drop_eq_getElem_cons (l := order_Visual.iota n) (i := i + 1) (by omega)
  have g1 : (order_Visual.iota n)[i]'(by omega) = (i : Int) := by simp [order_Visual.iota]
  have g2 : (order_Visual.iota n)[i + 1]'(by omega) = (i : Int) + 1 := by simp [order_Visual.iota]
  rw [g1] at e1
  rw [g2] at e2
  rw [← e2, ← e1, List.take_append_drop]
/-- Neighbours of one odd level are seen side by side, turned. -/
theorem vis_adj (lv : List Int) (hL : Lev lv) (i : Nat) (h : i + 1 < lv.length) (he : rd lv (i : Int) = rd lv ((i : Int) + 1)) (ho : rd lv (i : Int) % 2 = 1) : Adj (vis lv) ((i : Int) + 1) (i : Int) := by
  obtain ⟨L, hLe⟩ : ∃ L, rd lv (i : Int) = L := ⟨_, rfl⟩
  rw [hLe] at he ho
  have hmem : L ∈ lv := by rw [← hLe, rd_nat lv i (by omega)]; exact List.getElem_mem _
  have h1 := ((bnd_odd lv 0 0 hL (by omega) L).1).mpr (Or.inr ⟨L, hmem, ho, Int.le_refl _⟩)
  have h2 := ((bnd_odd lv 0 0 hL (by omega) (bnd 0 0 lv).2).1).mp ⟨h1.1, Int.le_refl _⟩
  have h3 : (bnd 0 0 lv).2 % 2 = 1 := by
    rcases h2 with h2 | ⟨x, hx, hx1, hx2⟩
    · omega
    · have h4 := (((bnd_odd lv 0 0 hL (by omega) x).1).mpr (Or.inr ⟨x, hx, hx1, Int.le_refl _⟩)).2
      have : x = (bnd 0 0 lv).2 := by omega
      rw [← this]; exact hx1
  have h5 : L ≤ (bnd 0 0 lv).1 := by rw [bnd_most]; exact most_mem lv 0 L hmem
  unfold vis
  rw [if_pos h1.1]
  have := down_adj lv L ((bnd 0 0 lv).1 - (bnd 0 0 lv).2 + 1).toNat (bnd 0 0 lv).1 (order_Visual.iota lv.length) (i : Int) ((i : Int) + 1) hLe he.symm (iota_adj _ i h)
  rw [tog_eq] at this
  rw [if_neg (by omega)] at this
  exact this
theorem inv_adj (o a : List Int) (h1 : ∀ p : Nat, p < o.length → rd a (rd o (p : Int)) = (p : Int)) (x y : Int) (h : Adj o x y) : rd a y = rd a x + 1 := by
  obtain ⟨pre, post, rfl⟩ := h
  have e1 := h1 pre.length (by simp)
  have e2 := h1 (pre.length + 1) (by simp)
  rw [rd_at] at e1
  have e3 : rd (pre ++ x :: y :: post) ((pre.length + 1 : Nat) : Int) = y := by
    have : pre ++ x :: y :: post = (pre ++ [x]) ++ y :: post := by simp
    rw [this]
    have := rd_at (pre ++ [x]) y post
    simpa using this
  rw [e3] at e2
  rw [e1, e2]
  omega
/-- A group falls, in the order of its own levels. -/
theorem vis_falls (lv a : List Int) (hL : Lev lv) (h1 : ∀ p : Nat, p < (vis lv).length → rd a (rd (vis lv) (p : Int)) = (p : Int)) (h2 : ∀ v : Int, 0 ≤ v → v < ((vis lv).length : Int) → 0 ≤ rd a v ∧ rd a v < ((vis lv).length : Int) ∧ rd (vis lv) (rd a v) = v)
    (g : S31) (hg : 0 ≤ g.f0 ∧ g.f0 < g.f1 ∧ g.f1 ≤ (lv.length : Int) ∧ rd lv g.f0 % 2 = 1 ∧ (∀ i : Int, g.f0 ≤ i → i < g.f1 → rd lv i = rd lv g.f0)) : Falls (vis lv) (rd a (g.f1 - 1)) g := by
  have hlen : (vis lv).length = lv.length := vis_length lv
  obtain ⟨g0, g1, g2, g3, g4⟩ := hg
  have step : ∀ k : Nat, (k : Int) < g.f1 - g.f0 → rd a (g.f1 - 1 - (k : Int)) = rd a (g.f1 - 1) + (k : Int) := by
    intro k
    induction k with
    | zero => intro _; simp
    | succ k ih =>
      intro hk
      have ih' := ih (by omega)
      obtain ⟨i, hi⟩ := Int.eq_ofNat_of_zero_le (show 0 ≤ g.f1 - 1 - ((k + 1 : Nat) : Int) by omega)
      have hadj := vis_adj lv hL i (by omega) (by rw [g4 (i : Int) (by omega) (by omega), g4 ((i : Int) + 1) (by omega) (by omega)]) (by rw [g4 (i : Int) (by omega) (by omega)]; exact g3)
      have := inv_adj (vis lv) a h1 _ _ hadj
      rw [hi, this, show (i : Int) + 1 = g.f1 - 1 - (k : Int) by omega, ih']
      omega
  have hb : ∀ k : Int, 0 ≤ k → k < g.f1 - g.f0 → rd (vis lv) (rd a (g.f1 - 1) + k) = g.f1 - 1 - k := by
    intro k k0 k1
    obtain ⟨j, rfl⟩ := Int.eq_ofNat_of_zero_le k0
    rw [← step j k1]
    exact (h2 _ (by omega) (by omega)).2.2
  refine ⟨?_, hb⟩
  have e := step (g.f1 - g.f0 - 1).toNat (by omega)
  have e2 := (h2 g.f0 g0 (by omega)).2.1
  rw [show g.f1 - 1 - (((g.f1 - g.f0 - 1).toNat : Nat) : Int) = g.f0 by omega] at e
  omega

/-- The code's walk along a part. -/
theorem falling_loop (s : List Int) (hb : ∀ j : Nat, j < s.length → 0 ≤ rd s (j : Int) ∧ rd s (j : Int) ≤ 100000) (hl : s.length ≤ 1000) : ∀ (d i k : Nat), i + d = s.length → 1 ≤ i → d < k →
    ∃ b, accent_falling.l0 k s (i : Int) = some b ∧ (b = true ↔ ∀ j : Nat, i ≤ j → j < s.length → rd s (j : Int) + 1 = rd s ((j - 1 : Nat) : Int)) := by
  intro d
  induction d with
  | zero =>
    intro i k hd h1 hk
    obtain ⟨k, rfl⟩ : ∃ m, k = m + 1 := ⟨k - 1, by omega⟩
    rw [accent_falling.l0, if_neg (by omega)]
    exact ⟨true, rfl, fun _ j h2 h3 => by omega, fun _ => rfl⟩
  | succ d ih =>
    intro i k hd h1 hk
    obtain ⟨k, rfl⟩ : ∃ m, k = m + 1 := ⟨k - 1, by omega⟩
    obtain ⟨b, hb1, hb2⟩ := ih (i + 1) k (by omega) (by omega) (by omega)
    have e : wrap64 ((i : Int) - 1) = ((i - 1 : Nat) : Int) := by rw [w64 (by omega) (by omega)]; omega
    have hbi := hb i (by omega)
    rw [accent_falling.l0, if_pos (by omega), if_pos (by omega), e, if_pos (by omega), if_pos (by omega), show wrap64 (rd s (i : Int) + 1) = rd s (i : Int) + 1 from w64 (by omega) (by omega), w64 (by omega) (by omega)]
    by_cases hc : rd s (i : Int) + 1 = rd s ((i - 1 : Nat) : Int)
    · rw [if_pos hc]
      refine ⟨b, hb1, hb2.trans ⟨fun h j h2 h3 => ?_, fun h j h2 h3 => h j (by omega) h3⟩⟩
      by_cases hj : j = i
      · rw [hj]; exact hc
      · exact h j (by omega) h3
    · rw [if_neg hc]
      exact ⟨false, rfl, Iff.intro (fun h => Bool.noConfusion h) (fun h => absurd (h i (Nat.le_refl _) (by omega)) hc)⟩
theorem rd_part (o : List Int) (lo hi : Nat) (j : Nat) (h : lo + j < hi) (hh : hi ≤ o.length) : rd ((o.take hi).drop lo) (j : Int) = rd o ((lo + j : Nat) : Int) := by
  unfold rd
  rw [Int.toNat_natCast, Int.toNat_natCast, List.getD_eq_getElem?_getD, List.getD_eq_getElem?_getD, List.getElem?_drop, List.getElem?_take, if_pos (by omega)]
/-- What the code asks of a part is that the group falls there. -/
theorem falling_f (o a : List Int) (g : S31) (k : Nat) (hk : o.length < k) (hn : o.length ≤ 1000) (hr : ∀ v : Int, 0 ≤ v → v < (o.length : Int) → 0 ≤ rd o v ∧ rd o v < (o.length : Int)) (hg : 0 ≤ g.f0 ∧ g.f0 < g.f1 ∧ g.f1 ≤ (o.length : Int))
    (h0 : 0 ≤ rd a (g.f1 - 1) ∧ rd a (g.f1 - 1) < (o.length : Int)) (ho : rd o (rd a (g.f1 - 1)) = g.f1 - 1) (hh : rd a (g.f1 - 1) + (g.f1 - g.f0) ≤ (o.length : Int)) :
    ∃ b, accent_falling.f k ((o.take (rd a (g.f1 - 1) + (g.f1 - g.f0)).toNat).drop (rd a (g.f1 - 1)).toNat) = some b ∧ (b = true ↔ Falls o (rd a (g.f1 - 1)) g) := by
  obtain ⟨lo, hlo⟩ := Int.eq_ofNat_of_zero_le h0.1
  obtain ⟨m, hm⟩ := Int.eq_ofNat_of_zero_le (show 0 ≤ g.f1 - g.f0 by omega)
  rw [hlo] at h0 ho hh ⊢
  rw [hm] at hh ⊢
  have e1 : ((lo : Int) + (m : Int)).toNat = lo + m := by omega
  rw [e1, Int.toNat_natCast]
  have hlen : ((o.take (lo + m)).drop lo).length = m := by rw [List.length_drop, List.length_take]; omega
  have hp : ∀ j : Nat, j < m → rd ((o.take (lo + m)).drop lo) (j : Int) = rd o ((lo + j : Nat) : Int) := fun j hj => rd_part o lo (lo + m) j (by omega) (by omega)
  obtain ⟨b, hb1, hb2⟩ := falling_loop ((o.take (lo + m)).drop lo) (fun j hj => by
    rw [hlen] at hj
    rw [hp j hj]
    have := hr ((lo + j : Nat) : Int) (by omega) (by omega)
    omega) (by omega) (m - 1) 1 k (by omega) (by omega) (by omega)
  refine ⟨b, hb1, hb2.trans ⟨fun h => ⟨by omega, fun k' k0 k1 => ?_⟩, fun h j h2 h3 => ?_⟩⟩
  · obtain ⟨j, rfl⟩ := Int.eq_ofNat_of_zero_le k0
    have hj : j < m := by omega
    clear k0 k1
    induction j with
    | zero => simp only [Int.natCast_zero, Int.add_zero, Int.sub_zero]; exact ho
    | succ j ih =>
      have ih' := ih (by omega)
      have := h (j + 1) (by omega) (by omega)
      rw [hp (j + 1) hj, show j + 1 - 1 = j by omega, hp j (by omega)] at this
      rw [show (lo : Int) + (j : Int) = ((lo + j : Nat) : Int) by omega] at ih'
      rw [show (lo : Int) + ((j + 1 : Nat) : Int) = ((lo + (j + 1) : Nat) : Int) by omega]
      omega
  · rw [hlen] at h3
    have a1 := h.2 (j : Int) (by omega) (by omega)
    have a2 := h.2 ((j - 1 : Nat) : Int) (by omega) (by omega)
    rw [hp j h3, hp (j - 1) (by omega)]
    rw [show (lo : Int) + (j : Int) = ((lo + j : Nat) : Int) by omega] at a1
    rw [show (lo : Int) + ((j - 1 : Nat) : Int) = ((lo + (j - 1) : Nat) : Int) by omega] at a2
    omega
theorem rd_T31_at (pre : List S31) (g : S31) (rest : List S31) : rd_T31 (pre ++ g :: rest) (pre.length : Int) = g := by simp [rd_T31]
/-- The facts of an order and its inverse. -/
structure Ord (o a : List Int) : Prop where
  len : a.length = o.length
  small : o.length ≤ 1000
  fw : ∀ p : Nat, p < o.length → rd a (rd o (p : Int)) = (p : Int)
  bw : ∀ v : Int, 0 ≤ v → v < (o.length : Int) → 0 ≤ rd a v ∧ rd a v < (o.length : Int) ∧ rd o (rd a v) = v
  range : ∀ v : Int, 0 ≤ v → v < (o.length : Int) → 0 ≤ rd o v ∧ rd o v < (o.length : Int)
theorem ord_of (o a : List Int) (h : plc (List.replicate o.length (-1)) 0 o = some a) (hn : o.length ≤ 1000) : Ord o a := by
  obtain ⟨h1, h2, h3⟩ := inv_facts o a h
  refine ⟨h1, hn, h2, h3, fun v h0 hv => ?_⟩
  obtain ⟨r1, _⟩ := plc_range _ _ _ _ h
  have := r1 (rd o v) (by
    have hp : v.toNat < o.length := by omega
    have : rd o v = o[v.toNat] := by unfold rd; simp [hp]
    rw [this]; exact List.getElem_mem hp)
  rwa [List.length_replicate] at this
theorem ord_inv (o a : List Int) (h : Ord o a) (gs : List S31) : Inv o a gs o := by
  refine ⟨rfl, fun v w h1 h2 h3 h4 he => ?_, h.range, fun g _ hf => hf.2⟩
  have e1 := h.fw v.toNat (by omega)
  have e2 := h.fw w.toNat (by omega)
  rw [show ((v.toNat : Nat) : Int) = v by omega] at e1
  rw [show ((w.toNat : Nat) : Int) = w by omega] at e2
  rw [← e1, he, e2]
theorem order_loop (o a : List Int) (h : Ord o a) (gs0 : List S31) (hG : gs0.length ≤ 1000) : ∀ (gs pre : List S31) (out : List Int) (k : Nat), gs0 = pre ++ gs → Inv o a gs out → gs.Pairwise (fun g g' => g.f1 ≤ g'.f0) → (∀ g ∈ gs, 0 ≤ g.f0 ∧ g.f0 < g.f1 ∧ g.f1 ≤ (o.length : Int)) → gs.length + 1500 < k →
    accent_Order.l0 k o a out gs0 (gs0.length : Int) (pre.length : Int) = some (proc o a gs out, 0) := by
  intro gs
  induction gs with
  | nil =>
    intro pre out k hp hI _ _ hk
    obtain ⟨k, rfl⟩ : ∃ m, k = m + 1 := ⟨k - 1, by omega⟩
    rw [accent_Order.l0, if_neg (by rw [hp]; simp)]
    rfl
  | cons g gs ih =>
    intro pre out k hp hI hap hgs hk
    obtain ⟨k, rfl⟩ : ∃ m, k = m + 1 := ⟨k - 1, by omega⟩
    rw [List.length_cons] at hk
    have hs := h.small
    have hlen : gs0.length = pre.length + gs.length + 1 := by rw [hp]; simp; omega
    have hrd : rd_T31 gs0 (pre.length : Int) = g := by rw [hp]; exact rd_T31_at pre g gs
    have hg := hgs g (by simp)
    have hb := h.bw (g.f1 - 1) (by omega) (by omega)
    obtain ⟨hap1, hap2⟩ := List.pairwise_cons.mp hap
    have hgs' : ∀ g' ∈ gs, 0 ≤ g'.f0 ∧ g'.f0 < g'.f1 ∧ g'.f1 ≤ (o.length : Int) := fun g' hg' => hgs g' (by simp [hg'])
    have step := fun out hI => ih (pre ++ [g]) out k (by rw [hp]; simp) hI hap2 hgs' (by omega)
    simp only [List.length_append, List.length_cons, List.length_nil, Nat.zero_add, Int.natCast_add, Int.natCast_one] at step
    have hw : wrap64 (wrap64 (rd a (g.f1 - 1) + g.f1) - g.f0) = rd a (g.f1 - 1) + (g.f1 - g.f0) := by
      rw [show wrap64 (rd a (g.f1 - 1) + g.f1) = rd a (g.f1 - 1) + g.f1 from w64 (by omega) (by omega), w64 (by omega) (by omega)]; omega
    rw [accent_Order.l0, if_pos (by omega), if_pos (by omega), if_pos (by omega), hrd, show wrap64 (g.f1 - 1) = g.f1 - 1 from w64 (by omega) (by omega), if_pos (by omega), if_pos (by rw [h.len]; omega), hw, show wrap64 ((pre.length : Int) + 1) = (pre.length : Int) + 1 from w64 (by omega) (by omega), proc]
    by_cases hh : rd a (g.f1 - 1) + (g.f1 - g.f0) ≤ (o.length : Int)
    · rw [if_pos hh, if_pos hb.1, if_pos (by omega)]
      obtain ⟨b, hb1, hb2⟩ := falling_f o a g k (by omega) hs h.range hg ⟨hb.1, hb.2.1⟩ hb.2.2 hh
      rw [hb1, Option.bind_some]
      by_cases hbt : b = true
      · have hf := hb2.mp hbt
        rw [if_pos hbt, cut_act o a g gs out hI hg hb.1 hf, Option.bind_some, if_pos hf]
        exact step _ (inv_act o a g gs out hI hg hap1 hgs' (fun g' hg' => (h.bw (g'.f1 - 1) (by have := hgs' g' hg'; omega) (by have := hgs' g' hg'; omega)).1))
      · rw [if_neg hbt, if_neg (fun hf => hbt (hb2.mpr hf))]
        exact step _ (inv_skip o a g gs out hI)
    · rw [if_neg hh, if_neg (fun hf => hh hf.1)]
      exact step _ (inv_skip o a g gs out hI)
theorem grps_length (lv : List Int) (mk : List Bool) : ∀ (d lo : Nat), (grps lv mk d lo).length ≤ d
  | 0, lo => by rw [grps]; exact Nat.le_refl _
  | d + 1, lo => by
    rw [grps]
    split
    · have := grps_length lv mk d (hiOf lv mk lo)
      rw [List.length_append]
      split
      · simp; omega
      · simp; omega
    · simp
/-- What the code answers of an order. -/
theorem order_f (o a lv : List Int) (mk : List Bool) (ha : plc (List.replicate o.length (-1)) 0 o = some a) (hn : o.length ≤ 1000) (h1 : lv.length = o.length) (h2 : mk.length = o.length) (k : Nat) (hk : 10000 ≤ k) :
    accent_Order.f k o lv mk = some (proc o a (grps lv mk lv.length 0) o, 0) := by
  obtain ⟨k, rfl⟩ : ∃ m, k = m + 1 := ⟨k - 1, by omega⟩
  have h := ord_of o a ha hn
  unfold accent_Order.f
  rw [if_pos (by omega), accent_Order.j0, if_neg (by simp [h2]), inverse_f o _ (by omega) (by omega), Option.bind_some, ha]
  dsimp only
  rw [if_pos rfl]
  unfold slices_Clone_int_int.f
  rw [Option.bind_some, if_pos (by simp; omega), Option.bind_some, List.nil_append, groups_f lv mk (by omega) (by omega) k (by omega), Option.bind_some]
  have hgl := grps_length lv mk lv.length 0
  exact order_loop o a h _ (by omega) _ [] o k rfl (ord_inv o a h _) (grps_apart lv mk _ _) (fun g hg => by have := grps_ge lv mk _ _ g hg; omega) (by omega)

theorem proc_inv (o a : List Int) (h : Ord o a) : ∀ (gs : List S31) (out : List Int), Inv o a gs out → gs.Pairwise (fun g g' => g.f1 ≤ g'.f0) → (∀ g ∈ gs, 0 ≤ g.f0 ∧ g.f0 < g.f1 ∧ g.f1 ≤ (o.length : Int)) → Inv o a [] (proc o a gs out)
  | [], out, hI, _, _ => hI
  | g :: gs, out, hI, hap, hgs => by
    obtain ⟨hap1, hap2⟩ := List.pairwise_cons.mp hap
    have hgs' : ∀ g' ∈ gs, 0 ≤ g'.f0 ∧ g'.f0 < g'.f1 ∧ g'.f1 ≤ (o.length : Int) := fun g' hg' => hgs g' (by simp [hg'])
    rw [proc]
    refine proc_inv o a h gs _ ?_ hap2 hgs'
    split
    · exact inv_act o a g gs out hI (hgs g (by simp)) hap1 hgs' (fun g' hg' => (h.bw (g'.f1 - 1) (by have := hgs' g' hg'; omega) (by have := hgs' g' hg'; omega)).1)
    · exact inv_skip o a g gs out hI
/-- A place whose number is in none of the groups stays. -/
theorem proc_keep (o a : List Int) (h : Ord o a) (p v : Int) (hp : 0 ≤ p ∧ p < (o.length : Int)) : ∀ (gs : List S31) (out : List Int), out.length = o.length → rd out p = v → (∀ g ∈ gs, ¬ (g.f0 ≤ v ∧ v < g.f1)) → rd (proc o a gs out) p = v
  | [], out, _, hv, _ => hv
  | g :: gs, out, hl, hv, hn => by
    rw [proc]
    have hn' : ∀ g' ∈ gs, ¬ (g'.f0 ≤ v ∧ v < g'.f1) := fun g' hg' => hn g' (by simp [hg'])
    split
    · refine proc_keep o a h p v hp gs _ (by rw [List.length_map]; exact hl) ?_ hn'
      rw [rd_map out _ p ⟨hp.1, by omega⟩, hv]
      exact act_out g v (hn g (by simp))
    · exact proc_keep o a h p v hp gs out hl hv hn'
/-- A group that falls stands in order behind. -/
theorem proc_seg (o a : List Int) (h : Ord o a) : ∀ (gs : List S31) (out : List Int), Inv o a gs out → gs.Pairwise (fun g g' => g.f1 ≤ g'.f0) → (∀ g ∈ gs, 0 ≤ g.f0 ∧ g.f0 < g.f1 ∧ g.f1 ≤ (o.length : Int)) → ∀ g ∈ gs, Falls o (rd a (g.f1 - 1)) g → ∀ k : Int, 0 ≤ k → k < g.f1 - g.f0 → rd (proc o a gs out) (rd a (g.f1 - 1) + k) = g.f0 + k
  | [], out, _, _, _, g, hg, _, _, _, _ => by simp at hg
  | g' :: gs, out, hI, hap, hgs, g, hg, hf, k, k0, k1 => by
    obtain ⟨hap1, hap2⟩ := List.pairwise_cons.mp hap
    have hgs' : ∀ g' ∈ gs, 0 ≤ g'.f0 ∧ g'.f0 < g'.f1 ∧ g'.f1 ≤ (o.length : Int) := fun g'' hg'' => hgs g'' (by simp [hg''])
    have hlo : ∀ g'' ∈ gs, 0 ≤ rd a (g''.f1 - 1) := fun g'' hg'' => (h.bw (g''.f1 - 1) (by have := hgs' g'' hg''; omega) (by have := hgs' g'' hg''; omega)).1
    rw [proc]
    rcases List.mem_cons.mp hg with e | hg
    · subst e
      rw [if_pos hf]
      have hg1 := hgs g (by simp)
      have hb := hf.1
      have hb0 := (h.bw (g.f1 - 1) (by omega) (by omega)).1
      refine proc_keep o a h _ _ (by omega) gs _ (by rw [List.length_map]; exact hI.len) ?_ (fun g'' hg'' => ?_)
      · rw [rd_map out _ _ (by rw [hI.len]; omega), hI.seg g (by simp) hf k k0 k1]
        unfold act
        rw [if_pos (by omega)]
        omega
      · have := hap1 g'' hg''
        omega
    · refine proc_seg o a h gs _ ?_ hap2 hgs' g hg hf k k0 k1
      split
      · exact inv_act o a g' gs out hI (hgs g' (by simp)) hap1 hgs' hlo
      · exact inv_skip o a g' gs out hI
theorem plc_of_inv (o a out : List Int) (h : Inv o a [] out) : ∃ b, plc (List.replicate out.length (-1)) 0 out = some b := by
  have hnd : out.Nodup := nodup_of_rd out (fun v w a0 a1 b0 b1 e => h.nodup v w a0 (by rw [← h.len]; exact a1) b0 (by rw [← h.len]; exact b1) e)
  have := plc_some out [] (List.replicate out.length (-1)) (by simpa using hnd) (fun v hv => by
    rw [List.length_replicate]
    obtain ⟨j, hj, e⟩ := rd_mem out v hv
    have := h.range (j : Int) (by omega) (by rw [← h.len]; omega)
    rw [e] at this
    rw [h.len]
    exact this) (fun v h0 h4 => by
    right
    rw [List.length_replicate]
    apply Classical.byContradiction
    intro hn
    have : rd (List.replicate out.length (-1)) v = -1 := by
      unfold rd; rw [List.getD_eq_getElem?_getD, List.getElem?_replicate, if_pos (by omega)]; rfl
    omega)
  simpa using this

theorem awake_ok : naskhlaw31_awake.f 60 = some true := by decide +kernel
theorem al2_loop (at_ : List Int) (g : S31) (gs0 : List S31) (m : Int) (q : Int) (n : Nat) (hn : n ≤ 1000) (hl : at_.length = n) (hg : 0 ≤ g.f0 ∧ g.f0 < g.f1 ∧ g.f1 ≤ (n : Int)) (hr : ∀ v : Int, 0 ≤ v → v < (n : Int) → 0 ≤ rd at_ v ∧ rd at_ v < (n : Int)) (hs : ∀ i : Int, g.f0 ≤ i → i < g.f1 → rd at_ i = rd at_ g.f0 + i - g.f0)
    (r : Option Bool) (K : Nat) (hnext : ∀ k, K ≤ k → naskhlaw31_AccentOrder.l1 k at_ gs0 m (wrap64 (q + 1)) = r) : ∀ (d : Nat) (i : Int) (k : Nat), g.f0 ≤ i → i ≤ g.f1 → g.f1 ≤ i + d → d + K < k → naskhlaw31_AccentOrder.l2 k at_ i gs0 m q g.f0 g.f1 = r := by
  intro d
  induction d with
  | zero =>
    intro i k h0 h1 h2 hk
    obtain ⟨k, rfl⟩ : ∃ m, k = m + 1 := ⟨k - 1, by omega⟩
    rw [naskhlaw31_AccentOrder.l2, if_neg (by omega)]
    exact hnext k (by omega)
  | succ d ih =>
    intro i k h0 h1 h2 hk
    obtain ⟨k, rfl⟩ : ∃ m, k = m + 1 := ⟨k - 1, by omega⟩
    by_cases hlt : i < g.f1
    · have b0 := hr g.f0 (by omega) (by omega)
      rw [naskhlaw31_AccentOrder.l2, if_pos hlt, if_pos (by omega), if_pos (by omega), if_pos (by omega), if_pos (by omega), show wrap64 (rd at_ g.f0 + i) = rd at_ g.f0 + i from w64 (by omega) (by omega), show wrap64 (rd at_ g.f0 + i - g.f0) = rd at_ g.f0 + i - g.f0 from w64 (by omega) (by omega), if_pos (hs i h0 hlt), w64 (by omega) (by omega)]
      exact ih (i + 1) k (by omega) (by omega) (by omega) (by omega)
    · rw [naskhlaw31_AccentOrder.l2, if_neg hlt]
      exact hnext k (by omega)
set_option maxRecDepth 20000 in
theorem l1_loop2 (at_ : List Int) (gs0 : List S31) (n : Nat) (hn : n ≤ 1000) (hG : gs0.length ≤ 1000) (hl : at_.length = n) (hr : ∀ v : Int, 0 ≤ v → v < (n : Int) → 0 ≤ rd at_ v ∧ rd at_ v < (n : Int)) (r : Option Bool) (K : Nat) (hnext : ∀ k, K ≤ k → ((naskhlaw31_awake.f k).bind fun t249 => (some t249)) = r) :
    ∀ (gs pre : List S31) (k : Nat), gs0 = pre ++ gs → (∀ g ∈ gs, 0 ≤ g.f0 ∧ g.f0 < g.f1 ∧ g.f1 ≤ (n : Int) ∧ ∀ i : Int, g.f0 ≤ i → i < g.f1 → rd at_ i = rd at_ g.f0 + i - g.f0) → K + 2000 * (gs.length + 1) ≤ k → naskhlaw31_AccentOrder.l1 k at_ gs0 (gs0.length : Int) (pre.length : Int) = r := by
  intro gs
  induction gs with
  | nil =>
    intro pre k hp hg hk
    obtain ⟨k, rfl⟩ : ∃ m, k = m + 1 := ⟨k - 1, by omega⟩
    rw [naskhlaw31_AccentOrder.l1, if_neg (by rw [hp]; simp)]
    exact hnext k (by simp at hk; omega)
  | cons g gs ih =>
    intro pre k hp hg hk
    obtain ⟨k, rfl⟩ : ∃ m, k = m + 1 := ⟨k - 1, by omega⟩
    rw [List.length_cons] at hk
    have hlen : gs0.length = pre.length + gs.length + 1 := by rw [hp]; simp; omega
    have hrd : rd_T31 gs0 (pre.length : Int) = g := by rw [hp]; exact rd_T31_at pre g gs
    have hg1 := hg g (by simp)
    rw [naskhlaw31_AccentOrder.l1, if_pos (by omega), if_pos (by omega), if_pos (by omega), hrd, show wrap64 (g.f0 + 1) = g.f0 + 1 from w64 (by omega) (by omega)]
    refine al2_loop at_ g gs0 _ _ n hn hl ⟨hg1.1, hg1.2.1, hg1.2.2.1⟩ hr hg1.2.2.2 r (K + 2000 * (gs.length + 1)) (fun k hk => ?_) n (g.f0 + 1) k (by omega) (by omega) (by omega) (by omega)
    have step := ih (pre ++ [g]) k (by rw [hp]; simp) (fun g' hg' => hg g' (by simp [hg'])) hk
    simp only [List.length_append, List.length_cons, List.length_nil, Nat.zero_add, Int.natCast_add, Int.natCast_one] at step
    rw [w64 (by omega) (by omega)]
    exact step
theorem lev_loop (l : List Int) (mk : List Bool) (hl : l.length ≤ 1000) (r : Option Bool) (K : Nat) (h1 : ∀ k, K ≤ k → ((naskhlaw31_awake.f k).bind fun t232 => (some t232)) = r)
    (h2 : (∀ x ∈ l, 0 ≤ x ∧ x ≤ 126) → ∀ k, K ≤ k → naskhlaw31_AccentOrder.l0 (k + 1) l mk l (l.length : Int) (l.length : Int) = r) : ∀ (rest pre : List Int) (k : Nat), l = pre ++ rest → (∀ x ∈ pre, 0 ≤ x ∧ x ≤ 126) → rest.length + K < k → naskhlaw31_AccentOrder.l0 k l mk l (l.length : Int) (pre.length : Int) = r := by
  intro rest
  induction rest with
  | nil =>
    intro pre k hp hx hk
    obtain ⟨k, rfl⟩ : ∃ m, k = m + 1 := ⟨k - 1, by omega⟩
    have e : l = pre := by rw [hp]; simp
    have := h2 (by rw [e]; exact hx) k (by simp at hk; omega)
    rwa [show (pre.length : Int) = (l.length : Int) by rw [e]]
  | cons x rest ih =>
    intro pre k hp hx hk
    obtain ⟨k, rfl⟩ : ∃ m, k = m + 1 := ⟨k - 1, by omega⟩
    rw [List.length_cons] at hk
    have hlen : l.length = pre.length + rest.length + 1 := by rw [hp]; simp; omega
    have hrd : rd l (pre.length : Int) = x := by rw [hp]; exact rd_at pre x rest
    rw [naskhlaw31_AccentOrder.l0, if_pos (by omega), if_pos (by omega), if_pos (by omega), hrd]
    by_cases c1 : x < 0
    · rw [if_pos c1]; exact h1 k (by omega)
    · rw [if_neg c1]
      by_cases c2 : x > 126
      · rw [if_pos c2]; exact h1 k (by omega)
      · rw [if_neg c2, w64 (by omega) (by omega)]
        have step := ih (pre ++ [x]) k (by rw [hp]; simp) (fun y hy => by
          rcases List.mem_append.mp hy with hy | hy
          · exact hx y hy
          · simp at hy; omega) (by omega)
        simp only [List.length_append, List.length_cons, List.length_nil, Nat.zero_add, Int.natCast_add, Int.natCast_one] at step
        exact step
set_option maxRecDepth 20000 in
theorem AccentOrder_ok : naskhlaw31_AccentOrder.Pure := by
  intro l mk h1 h2 h3 h4
  refine ⟨400000000, ?_⟩
  have haw : ∀ k, 60 ≤ k → ((naskhlaw31_awake.f k).bind fun t => (some t)) = some true := fun k hk => by rw [at_rounds (fun k => naskhlaw31_awake.mono k) hk awake_ok]; rfl
  have key : ∀ b : Bool, (b = false → l.length ≤ 100 ∧ l.length = mk.length) → naskhlaw31_AccentOrder.j0 400000000 l mk b = some true := by
    intro b hb
    rw [show (400000000 : Nat) = 399999999 + 1 from rfl, naskhlaw31_AccentOrder.j0]
    cases b with
    | true => rw [if_pos rfl]; exact haw _ (by decide)
    | false =>
      obtain ⟨hn, hm⟩ := hb rfl
      rw [if_neg (by simp)]
      refine lev_loop l mk (by omega) (some true) 300000000 (fun k hk => haw k (by omega)) (fun hx k hk => ?_) l [] 399999999 rfl (fun y hy => by simp at hy) (by omega)
      have hcl : l.map clamp = l := by
        conv => rhs; rw [← List.map_id l]
        apply List.map_congr_left
        intro x hxm
        have := hx x hxm
        unfold clamp mn mx
        repeat' split
        all_goals simp
        all_goals omega
      have hL : Lev l := hx
      rw [naskhlaw31_AccentOrder.l0, if_neg (by omega), refvisual_f l k (by omega) (by omega), Option.bind_some, hcl]
      obtain ⟨a, ha⟩ := vis_plc l
      have hvl : (vis l).length = l.length := vis_length l
      have ha' : plc (List.replicate (vis l).length (-1)) 0 (vis l) = some a := by rw [hvl]; exact ha
      have hO := ord_of (vis l) a ha' (by omega)
      rw [order_f (vis l) a l mk ha' (by omega) (by omega) (by omega) k (by omega), Option.bind_some]
      dsimp only
      rw [if_pos rfl]
      obtain ⟨out, hout⟩ : ∃ out, proc (vis l) a (grps l mk l.length 0) (vis l) = out := ⟨_, rfl⟩
      rw [hout]
      have hgs : ∀ g ∈ grps l mk l.length 0, 0 ≤ g.f0 ∧ g.f0 < g.f1 ∧ g.f1 ≤ ((vis l).length : Int) := fun g hg => by have := grps_ge l mk _ _ g hg; omega
      have hI := proc_inv (vis l) a hO (grps l mk l.length 0) (vis l) (ord_inv _ _ hO _) (grps_apart l mk _ _) hgs
      rw [hout] at hI
      have hol : out.length = l.length := by rw [hI.len, hvl]
      obtain ⟨at_, hat⟩ := plc_of_inv (vis l) a out hI
      rw [permutes_f out k (by omega) (by omega), hat, Option.bind_some, if_pos (by rfl)]
      obtain ⟨k, rfl⟩ : ∃ m, k = m + 1 := ⟨k - 1, by omega⟩
      rw [naskhlaw31_AccentOrder.j2, if_neg (by simp [hol]), refinv_f out k (by omega) (by omega), hat, Option.bind_some, groups_f l mk (by omega) (by omega) k (by omega), Option.bind_some]
      dsimp only
      have hO2 := ord_of out at_ hat (by omega)
      have hgl := grps_length l mk l.length 0
      refine l1_loop2 at_ (grps l mk l.length 0) l.length (by omega) (by omega) (by rw [hO2.len, hol]) (fun v v0 v1 => by have := hO2.bw v v0 (by omega); rw [hol] at this; exact ⟨this.1, this.2.1⟩) (some true) 100 (fun k hk => haw k (by omega)) _ [] k rfl (fun g hg => ?_) (by
        have : 2000 * ((grps l mk l.length 0).length + 1) ≤ 2000 * 101 := Nat.mul_le_mul_left _ (by omega)
        omega)
      have g1 := grps_ge l mk _ _ g hg
      refine ⟨by omega, by omega, by omega, fun i i0 i1 => ?_⟩
      have hf := vis_falls l a hL hO.fw hO.bw g ⟨by omega, g1.2.1, g1.2.2.1, g1.2.2.2.1, g1.2.2.2.2⟩
      have hseg := proc_seg (vis l) a hO (grps l mk l.length 0) (vis l) (ord_inv _ _ hO _) (grps_apart l mk _ _) hgs g hg hf
      rw [hout] at hseg
      obtain ⟨lo, hlo⟩ := Int.eq_ofNat_of_zero_le (hO.bw (g.f1 - 1) (by omega) (by omega)).1
      have hfb := hf.1
      rw [hlo] at hseg hfb
      have pos : ∀ j : Nat, (j : Int) < g.f1 - g.f0 → rd at_ (g.f0 + (j : Int)) = (lo : Int) + (j : Int) := fun j hj => by
        have s1 := hseg (j : Int) (by omega) hj
        have s2 := hO2.fw (lo + j) (by omega)
        rw [show ((lo + j : Nat) : Int) = (lo : Int) + (j : Int) by omega, s1] at s2
        exact s2
      have p1 := pos (i - g.f0).toNat (by omega)
      have p0 := pos 0 (by omega)
      rw [show g.f0 + (((i - g.f0).toNat : Nat) : Int) = i by omega] at p1
      rw [show g.f0 + ((0 : Nat) : Int) = g.f0 by omega] at p0
      omega
  unfold naskhlaw31_AccentOrder.f
  by_cases hn : (l.length : Int) > 100
  · rw [if_pos hn]; exact key true (fun h => by cases h)
  · rw [if_neg hn]
    refine key _ (fun h => ⟨by omega, ?_⟩)
    have h' : (l.length : Int) = (mk.length : Int) := by simpa using h
    omega
end Go.Proofs.Ytmkgihmchkphaaa.PureAccentOrderAux
namespace Go.Proofs.Ytmkgihmchkphaaa.Pure
open Go.Proofs.Ytmkgihmchkphaaa.PAccentOrder
theorem AccentOrder : naskhlaw31_AccentOrder.Pure := PureAccentOrderAux.AccentOrder_ok
end Go.Proofs.Ytmkgihmchkphaaa.Pure
