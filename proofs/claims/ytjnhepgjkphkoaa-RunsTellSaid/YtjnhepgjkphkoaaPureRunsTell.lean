/- The runs of any levels, in both orders, are what the document says. No condition. -/
import Derived.Test.YtjnhepgjkphkoaaPRunsTellx6
namespace Go.Proofs.Ytjnhepgjkphkoaa.PureRunsTellAux
open Go.RowKit Go.Proofs.Ytjnhepgjkphkoaa.PRunsTell Go.Proofs.YtjnhepgjkphkoaaW.PrintWords Go.Proofs.YtjnhepgjkphkoaaW.PrintLast

set_option linter.unusedSimpArgs false
set_option linter.unusedVariables false
theorem w64 {x : Int} (h0 : -9223372036854775808 ≤ x) (h1 : x ≤ 9223372036854775807) : wrap64 x = x := by unfold wrap64; omega
theorem rd_at (pre : List Int) (x : Int) (rest : List Int) : rd (pre ++ x :: rest) (pre.length : Int) = x := by simp [rd]
theorem rd_nat (l : List Int) (i : Nat) (h : i < l.length) : rd l (i : Int) = l[i] := by simp [rd, h]
theorem wf64 {x : Int} (h : (Lit.int .i64 x).wf = true) : -9223372036854775808 ≤ x ∧ x ≤ 9223372036854775807 := by
  simpa [Lit.wf, IntKind.min, IntKind.max, IntKind.signed, IntKind.bits] using h
theorem bsome {P : Prop} [Decidable P] {b : Bool} (h : b = true ↔ P) : some b = some (decide P) := by
  congr 1; rw [Bool.eq_iff_iff]; simpa using h
theorem u16w {x : Int} (h0 : 0 ≤ x) (h1 : x ≤ 65535) : IntKind.u16.wrap x = x := by
  simp [IntKind.wrap, IntKind.min, IntKind.max, IntKind.signed, IntKind.bits]; omega

theorem wraps_i64' (n : Int) (h₀ : 0 ≤ n) (h₁ : n < 2 ^ 62) : IntKind.i64.wrap n = n := by rw [IntKind.wrap_i64]; omega
theorem and_mask (x : Int) (i : Nat) (hi : i ≤ 62) (h0 : 0 ≤ x) (h1 : x < 2 ^ 62) : Go.bits .and .i64 x (2 ^ i - 1) = x % 2 ^ i := bits_mask .i64 62 (by decide) wraps_i64' i hi x h0 h1

/-- Runs one behind the other, from lo to hi, each as long as can be. -/
def Chain (x0 : List Int) : Int → List S35 → Int → Prop
  | lo, [], hi => lo = hi
  | lo, r :: rs, hi => r.f0.f0 = lo ∧ lo < r.f0.f1 ∧ r.f0.f1 ≤ (x0.length : Int) ∧ (∀ j, lo ≤ j → j < r.f0.f1 → rd x0 j = r.f1) ∧ (r.f0.f1 < (x0.length : Int) → rd x0 r.f0.f1 ≠ r.f1) ∧ Chain x0 r.f0.f1 rs hi
theorem rd35_at (pre : List S35) (x : S35) (rest : List S35) : rd_T35 (pre ++ x :: rest) (pre.length : Int) = x := by simp [rd_T35]
theorem logical_loop (x0 : List Int) (hm : (x0.length : Int) ≤ 5000000000000) : ∀ d : Nat,
    (∀ (k : Nat) (out : List S35) (x4 : Int), 0 ≤ x4 → (out.length : Int) ≤ x4 → x4 + d = x0.length → 3 * d + 1 ≤ k →
      ∃ rs, runs_Logical.l0 k x0 out x4 = some (out ++ rs) ∧ Chain x0 x4 rs x0.length) ∧
    (∀ (k : Nat) (out : List S35) (x4 lo u lev : Int), 0 ≤ lo → lo < x4 → (out.length : Int) ≤ lo → x4 + d = x0.length → (∀ j, lo ≤ j → j < x4 → rd x0 j = lev) → 3 * d + 2 ≤ k →
      ∃ rs, runs_Logical.l1 k x0 out x4 lo u lev = some (out ++ rs) ∧ Chain x0 lo rs x0.length) := by
  intro d
  induction d with
  | zero =>
    have P0 : ∀ (k : Nat) (out : List S35) (x4 : Int), 0 ≤ x4 → (out.length : Int) ≤ x4 → x4 + (0 : Nat) = x0.length → 3 * 0 + 1 ≤ k →
      ∃ rs, runs_Logical.l0 k x0 out x4 = some (out ++ rs) ∧ Chain x0 x4 rs x0.length := by
      intro k out x4 h0 ho hx hk
      obtain ⟨k, rfl⟩ : ∃ m, k = m + 1 := ⟨k - 1, by omega⟩
      refine ⟨[], ?_, by simp [Chain]; omega⟩
      simp only [runs_Logical.l0]
      rw [if_neg (by omega), List.append_nil]
    refine ⟨P0, ?_⟩
    intro k out x4 lo u lev h0 hl ho hx hj hk
    obtain ⟨k, rfl⟩ : ∃ m, k = m + 1 := ⟨k - 1, by omega⟩
    obtain ⟨rs, hr, hc⟩ := P0 k (out ++ [⟨⟨lo, x4⟩, lev⟩]) x4 (by omega) (by simp; omega) hx (by omega)
    refine ⟨⟨⟨lo, x4⟩, lev⟩ :: rs, ?_, rfl, hl, by simp at hx ⊢; omega, hj, fun h => by simp at hx h; omega, hc⟩
    simp only [runs_Logical.l1]
    rw [if_neg (by omega), if_pos (by omega), hr]
    simp
  | succ d ih =>
    obtain ⟨_, ih1⟩ := ih
    have P0 : ∀ (k : Nat) (out : List S35) (x4 : Int), 0 ≤ x4 → (out.length : Int) ≤ x4 → x4 + (d + 1 : Nat) = x0.length → 3 * (d + 1) + 1 ≤ k →
      ∃ rs, runs_Logical.l0 k x0 out x4 = some (out ++ rs) ∧ Chain x0 x4 rs x0.length := by
      intro k out x4 h0 ho hx hk
      obtain ⟨k, rfl⟩ : ∃ m, k = m + 2 := ⟨k - 2, by omega⟩
      obtain ⟨rs, hr, hc⟩ := ih1 k out (x4 + 1) x4 0 (rd x0 x4) h0 (by omega) ho (by omega) (fun j a b => by rw [show j = x4 by omega]) (by omega)
      refine ⟨rs, ?_, hc⟩
      simp only [runs_Logical.l0, runs_Logical.l1]
      rw [if_pos (by omega), if_pos (by omega), if_pos (by omega), if_pos (by omega), if_pos True.intro, w64 (by omega) (by omega), hr]
    refine ⟨P0, ?_⟩
    intro k out x4 lo u lev h0 hl ho hx hj hk
    obtain ⟨k, rfl⟩ : ∃ m, k = m + 1 := ⟨k - 1, by omega⟩
    by_cases he : rd x0 x4 = lev
    · obtain ⟨rs, hr, hc⟩ := ih1 k out (x4 + 1) lo u lev h0 (by omega) ho (by omega) (fun j a b => by
        by_cases e : j = x4
        · rw [e]; exact he
        · exact hj j a (by omega)) (by omega)
      refine ⟨rs, ?_, hc⟩
      simp only [runs_Logical.l1]
      rw [if_pos (by omega), if_pos (by omega), if_pos he, w64 (by omega) (by omega), hr]
    · obtain ⟨rs, hr, hc⟩ := P0 k (out ++ [⟨⟨lo, x4⟩, lev⟩]) x4 (by omega) (by simp; omega) hx (by omega)
      refine ⟨⟨⟨lo, x4⟩, lev⟩ :: rs, ?_, rfl, hl, by simp at hx ⊢; omega, hj, fun _ => he, hc⟩
      simp only [runs_Logical.l1]
      rw [if_pos (by omega), if_pos (by omega), if_neg he, if_pos (by omega), hr]
      simp
theorem logical_f (x0 : List Int) (hm : (x0.length : Int) ≤ 5000000000000) (k : Nat) (hk : 3 * x0.length + 1 ≤ k) : ∃ rs, runs_Logical.f k x0 = some rs ∧ Chain x0 0 rs x0.length := by
  obtain ⟨rs, hr, hc⟩ := (logical_loop x0 hm x0.length).1 k [] 0 (by omega) (by simp) (by omega) hk
  exact ⟨rs, by unfold runs_Logical.f; rw [hr]; rfl, hc⟩
theorem Chain.len {x0 : List Int} : ∀ {rs : List S35} {lo hi : Int}, Chain x0 lo rs hi → lo + rs.length ≤ hi
  | [], lo, hi, h => by simp [Chain] at h; simp [h]
  | r :: rs, lo, hi, ⟨h1, h2, h3, _, _, h⟩ => by have := Chain.len h; simp; omega

/-- All rows of which 'q' holds turned round, 'acc' being the row that has begun, turned. -/
def turnG {α : Type} (q : α → Bool) : List α → List α → List α
  | acc, [] => acc
  | acc, p :: rest => if q p then turnG q (p :: acc) rest else acc ++ p :: turnG q [] rest
theorem turnG_mem {α : Type} (q : α → Bool) (p : α) : ∀ (rest acc : List α), p ∈ turnG q acc rest ↔ p ∈ acc ∨ p ∈ rest
  | [], acc => by simp [turnG]
  | x :: t, acc => by
    rw [turnG]
    split
    · rw [turnG_mem q p t (x :: acc)]; simp; grind
    · simp only [List.mem_append, List.mem_cons, turnG_mem q p t []]; simp
theorem turnG_length {α : Type} (q : α → Bool) : ∀ (rest acc : List α), (turnG q acc rest).length = acc.length + rest.length
  | [], acc => by simp [turnG]
  | x :: t, acc => by
    rw [turnG]
    split
    · rw [turnG_length q t]; simp; omega
    · simp [turnG_length q t]
theorem turnG_none {α : Type} (q : α → Bool) : ∀ (rest acc : List α), (∀ x ∈ rest, q x = false) → turnG q acc rest = acc ++ rest
  | [], acc, _ => by simp [turnG]
  | x :: t, acc, h => by
    rw [turnG, if_neg (by simp [h x (by simp)]), turnG_none q t [] (fun y hy => h y (by simp [hy]))]
    simp
/-- The reach of a row. -/
def runG {α : Type} (q : α → Bool) (o : List α) : Nat := (o.takeWhile q).length
theorem runG_le {α : Type} (q : α → Bool) (o : List α) : runG q o ≤ o.length := (List.takeWhile_prefix _).length_le
theorem runG_yes {α : Type} (q : α → Bool) (p : α) (t : List α) (h : q p = true) : runG q (p :: t) = runG q t + 1 := by simp [runG, List.takeWhile_cons, h]
theorem runG_no {α : Type} (q : α → Bool) (p : α) (t : List α) (h : q p = false) : runG q (p :: t) = 0 := by simp [runG, List.takeWhile_cons, h]
theorem turnG_run {α : Type} (q : α → Bool) : ∀ (rest acc : List α), turnG q acc rest = (rest.take (runG q rest)).reverse ++ (acc ++ turnG q [] (rest.drop (runG q rest)))
  | [], acc => by simp [turnG]
  | p :: t, acc => by
    cases h : q p with
    | true => rw [runG_yes q p t h, turnG, if_pos h, turnG_run q t (p :: acc)]; simp
    | false => rw [runG_no q p t h, turnG, if_neg (by simp [h])]; simp [turnG, h]
/-- A round of what turns rows, from lo on. -/
theorem turnG_round {α : Type} (q : α → Bool) (cur : List α) (lo : Nat) (h : lo < cur.length) (r : Nat) (hr : runG q (cur.drop lo) = r) (nx : Nat) (hnx : nx = if lo + r < lo + 1 then lo + 1 else lo + r) (new : List α)
    (hnew : new = cur.take lo ++ (((cur.drop lo).take r).reverse ++ cur.drop (lo + r))) :
    new.length = cur.length ∧ nx ≤ cur.length ∧ lo < nx ∧ new.take nx ++ turnG q [] (new.drop nx) = cur.take lo ++ turnG q [] (cur.drop lo) := by
  have hle : r ≤ cur.length - lo := by have := runG_le q (cur.drop lo); rw [hr, List.length_drop] at this; exact this
  have hlen : new.length = cur.length := by rw [hnew]; simp; omega
  rw [turnG_run q (cur.drop lo) [], hr, List.nil_append, List.drop_drop]
  by_cases h0 : r = 0
  · subst h0
    rw [if_pos (by omega)] at hnx
    subst hnx
    have e : new = cur := by rw [hnew]; simp
    subst e
    refine ⟨rfl, by omega, by omega, ?_⟩
    simp only [Nat.add_zero, List.take_zero, List.reverse_nil, List.nil_append]
    have hd : List.drop lo new = new[lo] :: List.drop (lo + 1) new := List.drop_eq_getElem_cons h
    have hn : q new[lo] = false := by
      cases hh : q new[lo] with
      | false => rfl
      | true => rw [hd, runG_yes q _ _ hh] at hr; omega
    have ht : List.take (lo + 1) new = List.take lo new ++ [new[lo]] := by rw [List.take_add_one, List.getElem?_eq_getElem h]; rfl
    rw [hd, turnG, if_neg (by simp [hn]), ht]
    simp only [List.append_assoc, List.cons_append, List.nil_append]
  · rw [if_neg (by omega)] at hnx
    subst hnx
    refine ⟨hlen, by omega, by omega, ?_⟩
    have e1 : new.take (lo + r) = cur.take lo ++ ((cur.drop lo).take r).reverse := by
      rw [hnew, ← List.append_assoc, List.take_append_of_le_length (by simp; omega), List.take_of_length_le (by simp; omega)]
    have e2 : new.drop (lo + r) = cur.drop (lo + r) := by
      rw [hnew, ← List.append_assoc, List.drop_append, List.drop_eq_nil_of_le (by simp; omega), List.nil_append]
      have : lo + r - (List.take lo cur ++ (List.take r (List.drop lo cur)).reverse).length = 0 := by simp; omega
      rw [this, List.drop_zero]
    rw [e1, e2, List.append_assoc]
/-- Down the levels: 'n' of them, from one on; 'f' is an element's level. -/
def downG {α : Type} (f : α → Int) : Nat → Int → List α → List α
  | 0, _, o => o
  | n + 1, level, o => downG f n (level - 1) (turnG (fun p => decide (level ≤ f p)) [] o)
theorem downG_mem {α : Type} (f : α → Int) (p : α) : ∀ (n : Nat) (level : Int) (o : List α), p ∈ downG f n level o ↔ p ∈ o
  | 0, _, _ => Iff.rfl
  | n + 1, level, o => by rw [downG, downG_mem f p n, turnG_mem]; simp
theorem downG_length {α : Type} (f : α → Int) : ∀ (n : Nat) (level : Int) (o : List α), (downG f n level o).length = o.length
  | 0, _, _ => rfl
  | n + 1, level, o => by rw [downG, downG_length f n, turnG_length]; simp
/-- Above the greatest level nothing is turned. -/
theorem downG_above {α : Type} (f : α → Int) (m : Int) : ∀ (a b : Nat) (o : List α), (∀ x ∈ o, f x ≤ m) → downG f (a + b) (m + a) o = downG f b m o
  | 0, b, o, _ => by simp
  | a + 1, b, o, h => by
    have e : a + 1 + b = a + b + 1 := by omega
    rw [e, downG, turnG_none _ o [] (fun x hx => by have := h x hx; simp; omega), List.nil_append]
    have e2 : m + ((a + 1 : Nat) : Int) - 1 = m + (a : Int) := by omega
    rw [e2]
    exact downG_above f m a b o h
def clamp (n : Int) : Int := mn (mx n 0) 126
theorem clamp_ge (n : Int) : 0 ≤ clamp n := by unfold clamp mn mx; repeat' split <;> omega
theorem clamp_le (n : Int) : clamp n ≤ 126 := by unfold clamp mn mx; repeat' split <;> omega
theorem and1 (x : Int) (h : 0 ≤ x) (h1 : x ≤ 126) : Go.bits .and .i64 x 1 = x % 2 := by
  have := and_mask x 1 (by decide) h (by omega)
  simpa using this
def lev (r : S35) : Int := clamp r.f1
theorem lev_ge (r : S35) : 0 ≤ lev r := clamp_ge _
theorem lev_le (r : S35) : lev r ≤ 126 := clamp_le _
theorem held_f (a b c : Int) : runs_held.f a b c = some (clamp c) := rfl
theorem odd_f (a b c : Int) : runs_odd.f a b c = some (decide (clamp c % 2 = 1)) := by
  unfold runs_odd.f
  rw [held_f, Option.bind_some, and1 _ (clamp_ge c) (clamp_le c)]
  congr 1

theorem rows_loop (level : Int) (r : List S35) (n : Nat) (hn : n ≤ 5000000000000) : ∀ (C A B : List S35) (k : Nat), A.length + B.length + C.length = n → C.length < k → A ++ turnG (fun p => decide (level ≤ lev p)) B.reverse C = r →
    runs_rows.l0 k (A ++ (B ++ C)) level (A.length : Int) (n : Int) ((A.length : Int) + (B.length : Int)) = some r := by
  intro C
  induction C with
  | nil =>
    intro A B k hl hk hr
    obtain ⟨k, rfl⟩ : ∃ m, k = m + 1 := ⟨k - 1, by omega⟩
    rw [List.length_nil] at hl
    rw [runs_rows.l0, if_neg (by omega)]
    unfold slices_ReverseFrom_naskh_api_Run.f slices_ReverseCut_naskh_api_Run.f
    rw [if_pos ⟨by omega, by simp; omega, by omega⟩, Option.bind_some, ← hr]
    have hd : List.drop (A ++ (B ++ ([] : List S35))).length (A ++ (B ++ ([] : List S35))) = [] := List.drop_eq_nil_of_le (by omega)
    rw [Int.toNat_natCast, Int.toNat_natCast, hd, List.append_nil, List.append_nil, List.take_left, List.drop_left, List.take_of_length_le (by simp)]
    rfl
  | cons c C ih =>
    intro A B k hl hk hr
    obtain ⟨k, rfl⟩ : ∃ m, k = m + 1 := ⟨k - 1, by omega⟩
    rw [List.length_cons] at hl hk
    have hlen : (A ++ (B ++ c :: C)).length = n := by simp; omega
    have hrd : rd_T35 (A ++ (B ++ c :: C)) ((A.length : Int) + (B.length : Int)) = c := by
      have h1 : A ++ (B ++ c :: C) = (A ++ B) ++ c :: C := by simp
      have h2 : (A.length : Int) + (B.length : Int) = ((A ++ B).length : Int) := by simp
      rw [h1, h2]
      exact rd35_at _ c C
    rw [runs_rows.l0, if_pos (by omega), if_pos (by omega), if_pos (by omega), hrd, held_f, Option.bind_some, w64 (by omega) (by omega)]
    rw [turnG] at hr
    change (if lev c ≥ level then _ else _) = some r
    by_cases hq : level ≤ lev c
    · rw [if_pos (decide_eq_true hq)] at hr
      rw [if_pos hq]
      have step := ih A (B ++ [c]) k (by simp; omega) (by omega) (by rw [List.reverse_append]; exact hr)
      simp only [List.append_assoc, List.cons_append, List.nil_append, List.length_append, List.length_cons, List.length_nil, Nat.zero_add, Int.natCast_add, Int.natCast_one] at step
      rw [Int.add_assoc]
      exact step
    · rw [if_neg (by simp [hq])] at hr
      rw [if_neg hq]
      unfold slices_ReverseCut_naskh_api_Run.f
      rw [if_pos ⟨by omega, by omega, by omega⟩, Option.bind_some]
      have e : (A ++ (B ++ c :: C)).take (A.length : Int).toNat ++ ((((A ++ (B ++ c :: C)).drop (A.length : Int).toNat).take (((A.length : Int) + (B.length : Int)).toNat - (A.length : Int).toNat)).reverse ++ (A ++ (B ++ c :: C)).drop ((A.length : Int) + (B.length : Int)).toNat) = (A ++ B.reverse ++ [c]) ++ ([] ++ C) := by
        have h1 : ((A.length : Int) + (B.length : Int)).toNat = A.length + B.length := by omega
        rw [h1, Int.toNat_natCast, Nat.add_sub_cancel_left, List.take_left, List.drop_left, List.take_left]
        have h2 : (A ++ (B ++ c :: C)).drop (A.length + B.length) = c :: C := by rw [← List.append_assoc, ← List.length_append, List.drop_left]
        rw [h2]
        simp
      rw [e]
      have step := ih (A ++ B.reverse ++ [c]) [] k (by simp; omega) (by omega) (by rw [← hr]; simp)
      have e2 : ((A ++ B.reverse ++ [c]).length : Int) = (A.length : Int) + (B.length : Int) + 1 := by simp; omega
      rw [e2] at step
      simp only [List.length_nil, Int.natCast_zero, Int.add_zero, Int.ofNat_zero] at step
      simpa using step
theorem rows_f (l : List S35) (level : Int) (hl : l.length ≤ 5000000000000) (k : Nat) (hk : l.length < k) : runs_rows.f k l level = some (turnG (fun p => decide (level ≤ lev p)) [] l) := by
  unfold runs_rows.f
  have := rows_loop level (turnG (fun p => decide (level ≤ lev p)) [] l) l.length hl l [] [] k (by simp) hk (by simp)
  simpa using this
def mostL : Int → List S35 → Int
  | m, [] => m
  | m, r :: rest => mostL (mx m (lev r)) rest
def leastL : Int → List S35 → Int
  | m, [] => m
  | m, r :: rest => leastL (if lev r % 2 = 1 then mn m (lev r) else m) rest
theorem mostL_ge : ∀ (l : List S35) (m : Int), m ≤ mostL m l
  | [], _ => by rw [mostL]; exact Int.le_refl _
  | x :: rest, m => by
    rw [mostL]
    have h1 := mostL_ge rest (mx m (lev x))
    have h2 : m ≤ mx m (lev x) := by unfold mx; split <;> omega
    omega
theorem mostL_mem : ∀ (l : List S35) (m : Int) (x : S35), x ∈ l → lev x ≤ mostL m l
  | y :: rest, m, x, h => by
    rw [mostL]
    rcases List.mem_cons.mp h with rfl | h
    · have h1 := mostL_ge rest (mx m (lev x))
      have h2 : lev x ≤ mx m (lev x) := by unfold mx; split <;> omega
      omega
    · exact mostL_mem rest _ x h
theorem mostL_le : ∀ (l : List S35) (m : Int), m ≤ 126 → mostL m l ≤ 126
  | [], _, h => h
  | x :: rest, m, h => by
    rw [mostL]
    refine mostL_le rest _ ?_
    have := lev_le x
    unfold mx; split <;> omega
/-- The runs as they are seen. -/
def visR (rs : List S35) : List S35 := downG lev (mostL 0 rs - leastL 127 rs + 1).toNat (mostL 0 rs) rs
theorem visR_length (rs : List S35) : (visR rs).length = rs.length := downG_length _ _ _ _
theorem leastL_ge : ∀ (l : List S35) (m : Int), 1 ≤ m → 1 ≤ leastL m l
  | [], _, h => h
  | x :: rest, m, h => by
    rw [leastL]
    refine leastL_ge rest _ ?_
    have := lev_ge x
    split
    · unfold mn; split <;> omega
    · exact h
set_option maxRecDepth 20000 in
theorem vl1_loop (least : Int) (hle : 1 ≤ least) : ∀ (n : Nat) (level : Int) (l : List S35) (k : Nat), (level - least + 1).toNat = n → level ≤ 126 → l.length ≤ 900 → n * 1000 + 1000 ≤ k →
    -1000 ≤ level → runs_Visual.l1 k l least level = some (downG lev n level l) := by
  intro n
  induction n with
  | zero =>
    intro level l k hn h1 hl hk h2
    obtain ⟨k, rfl⟩ : ∃ m, k = m + 1 := ⟨k - 1, by omega⟩
    rw [runs_Visual.l1, if_neg (by omega)]
    rfl
  | succ n ih =>
    intro level l k hn h1 hl hk h2
    obtain ⟨k, rfl⟩ : ∃ m, k = m + 1 := ⟨k - 1, by omega⟩
    rw [runs_Visual.l1, if_pos (by omega), rows_f l level (by omega) k (by omega), Option.bind_some, downG, w64 (by omega) (by omega)]
    exact ih (level - 1) _ k (by omega) (by omega) (by rw [turnG_length]; simpa using hl) (by omega) (by omega)
theorem vl0_loop (l : List S35) (r : Option (List S35)) (K : Nat) (hm : l.length ≤ 5000000000) : ∀ (rest pre : List S35) (m o : Int) (k : Nat), l = pre ++ rest → rest.length + K < k → (∀ k, K ≤ k → runs_Visual.l1 k l (leastL o rest) (mostL m rest) = r) →
    runs_Visual.l0 k l m o l (l.length : Int) (pre.length : Int) = r := by
  intro rest
  induction rest with
  | nil =>
    intro pre m o k hl hk hr
    obtain ⟨k, rfl⟩ : ∃ m, k = m + 1 := ⟨k - 1, by omega⟩
    rw [runs_Visual.l0, if_neg (by rw [hl]; simp)]
    exact hr k (by simp at hk; omega)
  | cons x rest ih =>
    intro pre m o k hl hk hr
    obtain ⟨k, rfl⟩ : ∃ m, k = m + 1 := ⟨k - 1, by omega⟩
    rw [List.length_cons] at hk
    have hlen : l.length = pre.length + rest.length + 1 := by rw [hl]; simp; omega
    have hrd : rd_T35 l (pre.length : Int) = x := by rw [hl]; exact rd35_at pre x rest
    have step := fun m o => ih (pre ++ [x]) m o k (by rw [hl]; simp) (by omega)
    simp only [List.length_append, List.length_cons, List.length_nil, Nat.zero_add, Int.natCast_add, Int.natCast_one] at step
    rw [runs_Visual.l0, if_pos (by omega), if_pos (by omega), if_pos (by omega), hrd, held_f, odd_f, Option.bind_some, Option.bind_some, w64 (by omega) (by omega)]
    rw [leastL, mostL] at hr
    by_cases h : lev x % 2 = 1
    · have h' : clamp x.f1 % 2 = 1 := h
      rw [if_pos h] at hr
      rw [if_pos (decide_eq_true h')]
      exact step (mx m (lev x)) (mn o (lev x)) hr
    · have h' : ¬ clamp x.f1 % 2 = 1 := h
      rw [if_neg h] at hr
      rw [if_neg (by rw [decide_eq_false h']; simp)]
      exact step (mx m (lev x)) o hr

theorem chain_unique (x0 : List Int) : ∀ (a b : List S35) (lo hi : Int), 0 ≤ lo → Chain x0 lo a hi → Chain x0 lo b hi → a = b
  | [], [], _, _, _, _, _ => rfl
  | [], r :: b, lo, hi, _, h, ⟨h1, h2, h3, h4, h5, h6⟩ => by simp [Chain] at h; have := Chain.len h6; omega
  | r :: a, [], lo, hi, _, ⟨h1, h2, h3, h4, h5, h6⟩, h => by simp [Chain] at h; have := Chain.len h6; omega
  | r :: a, s :: b, lo, hi, h0, ⟨h1, h2, h3, h4, h5, h6⟩, ⟨g1, g2, g3, g4, g5, g6⟩ => by
    have e1 : r.f1 = s.f1 := by rw [← h4 lo (by omega) h2, ← g4 lo (by omega) g2]
    have e2 : r.f0.f1 = s.f0.f1 := by
      rcases Int.lt_trichotomy r.f0.f1 s.f0.f1 with h | h | h
      · exact absurd (g4 r.f0.f1 (by omega) h) (by rw [← e1]; exact h5 (by omega))
      · exact h
      · exact absurd (h4 s.f0.f1 (by omega) h) (by rw [e1]; exact g5 (by omega))
    have e : r = s := by
      obtain ⟨⟨r0, r1⟩, r2⟩ := r
      obtain ⟨⟨s0, s1⟩, s2⟩ := s
      simp only at h1 g1 e1 e2
      subst h1 g1 e1 e2
      rfl
    subst e
    rw [chain_unique x0 a b r.f0.f1 hi (by omega) h6 g6]
set_option maxRecDepth 20000 in
theorem visual_f (x0 : List Int) (rs : List S35) (hc : Chain x0 0 rs x0.length) (hx : x0.length ≤ 900) (k : Nat) (hk : 300000000 ≤ k) : runs_Visual.f k x0 = some (visR rs) := by
  have hlen := Chain.len hc
  obtain ⟨rs', e, hc'⟩ := logical_f x0 (by omega) k (by omega)
  obtain rfl := chain_unique x0 rs' rs 0 _ (by omega) hc' hc
  unfold runs_Visual.f
  rw [e, Option.bind_some]
  have hm126 := mostL_le rs' 0 (by omega)
  have hm0 := mostL_ge rs' 0
  have hl1 := leastL_ge rs' 127 (by omega)
  have h := vl0_loop rs' (some (visR rs')) 200000 (by omega) rs' [] 0 127 k rfl (by omega) (fun k hk => by
    unfold visR
    exact vl1_loop (leastL 127 rs') hl1 _ (mostL 0 rs') rs' k rfl hm126 (by omega) (by omega) (by omega))
  exact h
theorem reflogical_loop (x0 : List Int) (hm : (x0.length : Int) ≤ 5000000000000) : ∀ (d k : Nat) (pre : List S35) (lo x4 lev : Int), 0 ≤ lo → lo < x4 → (pre.length : Int) ≤ lo → x4 + d = x0.length → (∀ j, lo ≤ j → j < x4 → rd x0 j = lev) → d < k →
    ∃ rs, naskhref30_Logical.l0 k x0 (pre ++ [⟨⟨lo, x4⟩, lev⟩]) x4 = some (pre ++ rs) ∧ Chain x0 lo rs x0.length := by
  intro d
  induction d with
  | zero =>
    intro k pre lo x4 lev h0 h1 hp hx hj hk
    obtain ⟨k, rfl⟩ : ∃ m, k = m + 1 := ⟨k - 1, by omega⟩
    refine ⟨[⟨⟨lo, x4⟩, lev⟩], ?_, rfl, h1, by simp at hx ⊢; omega, hj, fun h => by simp at hx h; omega, by simp [Chain]; omega⟩
    rw [naskhref30_Logical.l0, if_neg (by omega)]
  | succ d ih =>
    intro k pre lo x4 lev h0 h1 hp hx hj hk
    obtain ⟨k, rfl⟩ : ∃ m, k = m + 1 := ⟨k - 1, by omega⟩
    have hl : (pre ++ [(⟨⟨lo, x4⟩, lev⟩ : S35)]).length = pre.length + 1 := by simp
    have hr : rd_T35 (pre ++ [(⟨⟨lo, x4⟩, lev⟩ : S35)]) (pre.length : Int) = ⟨⟨lo, x4⟩, lev⟩ := rd35_at pre _ []
    rw [naskhref30_Logical.l0, if_pos (by omega), hl, w64 (by omega) (by omega), show ((pre.length + 1 : Nat) : Int) - 1 = (pre.length : Int) by omega, if_pos (by omega), if_pos (by omega), if_pos (by omega), if_pos (by omega), hr]
    by_cases he : lev = rd x0 x4
    · obtain ⟨rs, e, hc⟩ := ih k pre lo (x4 + 1) lev h0 (by omega) hp (by omega) (fun j a b => by
        by_cases e : j = x4
        · rw [e]; exact he.symm
        · exact hj j a (by omega)) (by omega)
      refine ⟨rs, ?_, hc⟩
      rw [if_pos he, w64 (by omega) (by omega), Int.toNat_natCast, ← e]
      congr 1
      simp
    · obtain ⟨rs, e, hc⟩ := ih k (pre ++ [⟨⟨lo, x4⟩, lev⟩]) x4 (x4 + 1) (rd x0 x4) (by omega) (by omega) (by rw [hl]; omega) (by omega) (fun j a b => by rw [show j = x4 by omega]) (by omega)
      refine ⟨⟨⟨lo, x4⟩, lev⟩ :: rs, ?_, rfl, h1, by simp at hx ⊢; omega, hj, fun _ => fun e => he e.symm, hc⟩
      rw [if_neg he, if_pos (by omega), w64 (by omega) (by omega), e]
      simp
theorem reflogical_f (x0 : List Int) (hm : (x0.length : Int) ≤ 5000000000000) (k : Nat) (hk : x0.length + 1 ≤ k) : ∃ rs, naskhref30_Logical.f k x0 = some rs ∧ Chain x0 0 rs x0.length := by
  unfold naskhref30_Logical.f
  obtain ⟨k, rfl⟩ : ∃ m, k = m + 1 := ⟨k - 1, by omega⟩
  rw [naskhref30_Logical.l0]
  by_cases h : (0 : Int) < x0.length
  · obtain ⟨rs, e, hc⟩ := reflogical_loop x0 hm (x0.length - 1) k [] 0 1 (rd x0 0) (by omega) (by omega) (by simp) (by omega) (fun j a b => by rw [show j = 0 by omega]) (by omega)
    refine ⟨rs, ?_, hc⟩
    rw [if_pos h, if_neg (by simp), if_pos (by omega), if_pos (by simp), w64 (by omega) (by omega)]
    exact e
  · refine ⟨[], ?_, by simp [Chain]; omega⟩
    rw [if_neg h]
theorem equalrun_loop (a : List S35) (hm : a.length ≤ 9223372036854775806) : ∀ d k i : Nat, i + d = a.length → d < k → api_Run_32.l0 k a a a.length i = some true := by
  intro d
  induction d with
  | zero =>
    intro k i hi hk
    obtain ⟨k, rfl⟩ : ∃ m, k = m + 1 := ⟨k - 1, by omega⟩
    rw [api_Run_32.l0, if_neg (by omega)]
  | succ d ih =>
    intro k i hi hk
    obtain ⟨k, rfl⟩ : ∃ m, k = m + 1 := ⟨k - 1, by omega⟩
    have := ih k (i + 1) (by omega) (by omega)
    rw [Int.natCast_add] at this
    rw [api_Run_32.l0, if_pos (by omega), if_pos (by omega), if_pos (by omega), if_pos (by omega), if_neg (by simp), w64 (by omega) (by omega)]
    exact this
theorem equalrun (a : List S35) (hm : a.length ≤ 9223372036854775806) (k : Nat) (hk : a.length < k) : api_Run_32.f k a a = some true := by
  unfold api_Run_32.f
  rw [if_pos rfl]
  exact equalrun_loop a hm a.length k 0 (by omega) hk
theorem refheld_f (a : Int) : naskhref30_held.f a = some (clamp a) := rfl

/-- The least odd level of the reference: 0 where none is. -/
def lowR : Int → List S35 → Int
  | m, [] => m
  | m, r :: rest => lowR (if lev r % 2 = 1 ∧ (m = 0 ∨ lev r < m) then lev r else m) rest
theorem least_loop (l : List S35) (hm : l.length ≤ 5000000000000) : ∀ (rest pre : List S35) (m : Int) (k : Nat), l = pre ++ rest → rest.length < k → naskhref30_least.l0 k l m (pre.length : Int) = some (lowR m rest) := by
  intro rest
  induction rest with
  | nil =>
    intro pre m k hl hk
    obtain ⟨k, rfl⟩ : ∃ m, k = m + 1 := ⟨k - 1, by omega⟩
    rw [naskhref30_least.l0, if_neg (by rw [hl]; simp)]
    rfl
  | cons r rest ih =>
    intro pre m k hl hk
    obtain ⟨k, rfl⟩ : ∃ m, k = m + 1 := ⟨k - 1, by omega⟩
    rw [List.length_cons] at hk
    have hlen : l.length = pre.length + rest.length + 1 := by rw [hl]; simp; omega
    have hr : rd_T35 l (pre.length : Int) = r := by rw [hl]; exact rd35_at pre r rest
    have step := fun m => ih (pre ++ [r]) m k (by rw [hl]; simp) (by omega)
    simp only [List.length_append, List.length_cons, List.length_nil, Nat.zero_add, Int.natCast_add, Int.natCast_one] at step
    have h0 := clamp_ge r.f1
    rw [naskhref30_least.l0, if_pos (by omega), if_pos (by omega), hr, refheld_f, Option.bind_some, w64 (by omega) (by omega), step, step, lowR, Int.tmod_eq_emod_of_nonneg h0]
    change (if lev r % 2 = 1 then (if m = 0 then some (lowR (lev r) rest) else (if lev r < m then some (lowR (lev r) rest) else some (lowR m rest))) else some (lowR m rest)) = _
    by_cases h1 : lev r % 2 = 1
    · rw [if_pos h1]
      by_cases h2 : m = 0
      · rw [if_pos h2, if_pos ⟨h1, Or.inl h2⟩]
      · rw [if_neg h2]
        by_cases h3 : lev r < m
        · rw [if_pos h3, if_pos ⟨h1, Or.inr h3⟩]
        · rw [if_neg h3, if_neg (by omega)]
    · rw [if_neg h1, if_neg (by omega)]
/-- The two least odd levels are the same, where one is. -/
theorem low_least : ∀ (l : List S35) (m : Int), (m = 0 ∨ 1 ≤ m ∧ m ≤ 126) → (lowR m l = 0 ∧ leastL (if m = 0 then 127 else m) l = 127) ∨ (1 ≤ lowR m l ∧ lowR m l ≤ 126 ∧ lowR m l = leastL (if m = 0 then 127 else m) l)
  | [], m, hm => by
    rw [lowR, leastL]
    rcases hm with rfl | hm
    · left; simp
    · right; rw [if_neg (by omega)]; omega
  | r :: rest, m, hm => by
    have h0 := lev_ge r
    have h1 := lev_le r
    rw [lowR, leastL]
    by_cases h : lev r % 2 = 1
    · by_cases h2 : m = 0 ∨ lev r < m
      · have := low_least rest (lev r) (Or.inr (by omega))
        rw [if_neg (by omega)] at this
        rw [if_pos ⟨h, h2⟩, if_pos h]
        have e : mn (if m = 0 then 127 else m) (lev r) = lev r := by
          unfold mn
          rcases h2 with h2 | h2
          · rw [if_pos h2, if_pos (by omega)]
          · by_cases h3 : m = 0
            · rw [if_pos h3, if_pos (by omega)]
            · rw [if_neg h3, if_pos (by omega)]
        rw [e]
        exact this
      · have := low_least rest m hm
        have hm0 : ¬ m = 0 := fun e => h2 (Or.inl e)
        rw [if_neg hm0] at this
        rw [if_neg (fun e => h2 e.2), if_pos h, if_neg hm0]
        have e : mn m (lev r) = m := by unfold mn; rw [if_neg (by omega)]
        rw [e]
        exact this
    · rw [if_neg (fun e => h e.1), if_neg h]
      exact low_least rest m hm
theorem set35_at (a : List S35) (y v : S35) (b : List S35) : (a ++ y :: b).set a.length v = a ++ v :: b := by simp
theorem set35_set (a m b : List S35) (x y x' y' : S35) (i j : Nat) (hi : i = a.length) (hj : j = a.length + 1 + m.length) : ((a ++ x :: (m ++ y :: b)).set i x').set j y' = a ++ x' :: (m ++ y' :: b) := by
  subst hi hj
  rw [set35_at]
  have : a ++ x' :: (m ++ y :: b) = (a ++ x' :: m) ++ y :: b := by simp
  rw [this]
  have h2 := set35_at (a ++ x' :: m) y y' b
  rw [show (a ++ x' :: m).length = a.length + 1 + m.length by simp; omega] at h2
  rw [h2]
  simp
theorem list35_ends : ∀ (m : List S35), 2 ≤ m.length → ∃ x m' y, m = x :: (m' ++ [y]) := by
  intro m hm
  match m, hm with
  | x :: t, hm =>
    have ht : t ≠ [] := by intro h; subst h; simp at hm
    exact ⟨x, t.dropLast, t.getLast ht, by rw [List.dropLast_concat_getLast ht]⟩
theorem l3_loop (x4 x5 x6 x7 : Int) (r : Option (List S35)) (K : Nat) (fin : List S35) (hr : ∀ k, K ≤ k → naskhref30_Visual.l1 k fin x4 x5 (wrap64 ((mx x6 (wrap64 (x7 - 1))) + 1)) = r) : ∀ (n : Nat) (a m b : List S35) (k : Nat), m.length ≤ n → n + K < k → a.length + m.length + b.length ≤ 9223372036854775806 → a ++ (m.reverse ++ b) = fin →
    naskhref30_Visual.l3 k (a ++ (m ++ b)) x4 x5 x6 x7 (a.length : Int) ((a.length : Int) + (m.length : Int) - 1) = r := by
  intro n
  induction n with
  | zero =>
    intro a m b k hm hk hM hf
    obtain ⟨k, rfl⟩ : ∃ m, k = m + 1 := ⟨k - 1, by omega⟩
    obtain rfl : m = [] := List.eq_nil_of_length_eq_zero (by omega)
    rw [naskhref30_Visual.l3, if_neg (by simp; omega)]
    simp only [List.reverse_nil] at hf
    rw [hf]
    exact hr k (by omega)
  | succ n ih =>
    intro a m b k hm hk hM hf
    obtain ⟨k, rfl⟩ : ∃ m, k = m + 1 := ⟨k - 1, by omega⟩
    rw [naskhref30_Visual.l3]
    by_cases h2 : 2 ≤ m.length
    · obtain ⟨x, m', y, rfl⟩ := list35_ends m h2
      simp only [List.length_cons, List.length_append, List.length_nil] at hm hM h2
      have e1 : a ++ ((x :: (m' ++ [y])) ++ b) = a ++ x :: (m' ++ y :: b) := by simp
      have hl : (a ++ x :: (m' ++ y :: b)).length = a.length + m'.length + b.length + 2 := by simp; omega
      have e2 : (a.length : Int) + ((x :: (m' ++ [y])).length : Int) - 1 = (a.length : Int) + (m'.length : Int) + 1 := by simp; omega
      have r1 : rd_T35 (a ++ x :: (m' ++ y :: b)) (a.length : Int) = x := rd35_at a x _
      have r2 : rd_T35 (a ++ x :: (m' ++ y :: b)) ((a.length : Int) + (m'.length : Int) + 1) = y := by
        have h3 : a ++ x :: (m' ++ y :: b) = (a ++ x :: m') ++ y :: b := by simp
        have h4 : (a.length : Int) + (m'.length : Int) + 1 = ((a ++ x :: m').length : Int) := by simp; omega
        rw [h3, h4]
        exact rd35_at _ y b
      rw [e1, e2, if_pos (by omega), if_pos (by omega), if_pos (by omega), if_pos (by omega), if_pos (by omega), r1, r2, w64 (by omega) (by omega), w64 (by omega) (by omega),
        set35_set a m' b x y _ _ _ _ (by simp) (by omega)]
      have step := ih (a ++ [y]) m' (x :: b) k (by omega) (by omega) (by simp; omega) (by rw [← hf]; simp)
      have f1 : (a ++ [y]) ++ (m' ++ x :: b) = a ++ y :: (m' ++ x :: b) := by simp
      have f2 : ((a ++ [y]).length : Int) = (a.length : Int) + 1 := by simp
      have f3 : (a.length : Int) + 1 + (m'.length : Int) - 1 = (a.length : Int) + (m'.length : Int) + 1 - 1 := by omega
      rw [f1, f2, f3] at step
      exact step
    · rw [if_neg (by omega)]
      have hm : m.reverse = m := by
        match m, h2 with
        | [], _ => rfl
        | [x], _ => rfl
        | x :: y :: t, h2 => simp at h2
      rw [hm] at hf
      rw [hf]
      exact hr k (by omega)
theorem l2_loop (l : List S35) (x4 x5 x6 : Int) (r : Option (List S35)) (K : Nat) (hm : l.length ≤ 900) (lo : Nat) (hr : ∀ k, K ≤ k → naskhref30_Visual.j4 k l x4 x5 x6 ((lo + runG (fun p => decide (x5 ≤ lev p)) (l.drop lo) : Nat) : Int) = r) : ∀ (d h k : Nat), h + d = l.length → h + runG (fun p => decide (x5 ≤ lev p)) (l.drop h) = lo + runG (fun p => decide (x5 ≤ lev p)) (l.drop lo) → d + K < k →
    naskhref30_Visual.l2 k l x4 x5 x6 (h : Int) = r := by
  intro d
  induction d with
  | zero =>
    intro h k hd hh hk
    obtain ⟨k, rfl⟩ : ∃ m, k = m + 1 := ⟨k - 1, by omega⟩
    rw [naskhref30_Visual.l2, if_neg (by omega)]
    rw [List.drop_eq_nil_of_le (show l.length ≤ h by omega)] at hh
    rw [show h = lo + runG (fun p => decide (x5 ≤ lev p)) (l.drop lo) from hh]
    exact hr k (by omega)
  | succ d ih =>
    intro h k hd hh hk
    obtain ⟨k, rfl⟩ : ∃ m, k = m + 1 := ⟨k - 1, by omega⟩
    have hlt : h < l.length := by omega
    have hrd : rd_T35 l (h : Int) = l[h] := by simp [rd_T35, hlt]
    rw [naskhref30_Visual.l2, if_pos (by omega), if_pos (by omega), hrd, refheld_f, Option.bind_some]
    rw [List.drop_eq_getElem_cons hlt] at hh
    change (if lev l[h] ≥ x5 then _ else _) = r
    by_cases hq : x5 ≤ lev l[h]
    · rw [if_pos hq, w64 (by omega) (by omega)]
      rw [runG_yes (fun p => decide (x5 ≤ lev p)) _ _ (decide_eq_true hq)] at hh
      exact ih (h + 1) k (by omega) (by omega) (by omega)
    · rw [if_neg hq]
      rw [runG_no (fun p => decide (x5 ≤ lev p)) _ _ (decide_eq_false hq)] at hh
      rw [show h = lo + runG (fun p => decide (x5 ≤ lev p)) (l.drop lo) from hh]
      exact hr k (by omega)
theorem l1_loop (x4 x5 : Int) (r : Option (List S35)) (K n : Nat) (hn : n ≤ 900) (res : List S35) (hr : ∀ k, K ≤ k → naskhref30_Visual.l0 k res x4 (wrap64 (x5 - 1)) = r) : ∀ (d lo : Nat) (cur : List S35) (k : Nat), cur.length = n → lo ≤ n → n ≤ lo + d → K + 2000 * (d + 1) ≤ k →
    cur.take lo ++ turnG (fun p => decide (x5 ≤ lev p)) [] (cur.drop lo) = res → naskhref30_Visual.l1 k cur x4 x5 (lo : Int) = r := by
  intro d
  induction d with
  | zero =>
    intro lo cur k hc hlo hd hk hres
    obtain ⟨k, rfl⟩ : ∃ m, k = m + 1 := ⟨k - 1, by omega⟩
    rw [naskhref30_Visual.l1, if_neg (by omega)]
    rw [List.take_of_length_le (by omega), List.drop_eq_nil_of_le (by omega)] at hres
    rw [show cur = res by simpa [turnG] using hres]
    exact hr k (by omega)
  | succ d ih =>
    intro lo cur k hc hlo hd hk hres
    obtain ⟨k, rfl⟩ : ∃ m, k = m + 1 := ⟨k - 1, by omega⟩
    by_cases hlt : lo < n
    · rw [naskhref30_Visual.l1, if_pos (by omega)]
      obtain ⟨rr, hrr⟩ : ∃ rr, runG (fun p => decide (x5 ≤ lev p)) (cur.drop lo) = rr := ⟨_, rfl⟩
      have hle : rr ≤ n - lo := by have := runG_le (fun p => decide (x5 ≤ lev p)) (cur.drop lo); rw [hrr, List.length_drop] at this; omega
      obtain ⟨nx, hnx⟩ : ∃ nx, nx = if lo + rr < lo + 1 then lo + 1 else lo + rr := ⟨_, rfl⟩
      obtain ⟨new, hnew⟩ : ∃ new, new = cur.take lo ++ (((cur.drop lo).take rr).reverse ++ cur.drop (lo + rr)) := ⟨_, rfl⟩
      obtain ⟨a1, a2, a3, a4⟩ := turnG_round (fun p => decide (x5 ≤ lev p)) cur lo (by omega) rr hrr nx hnx new hnew
      refine l2_loop cur x4 x5 lo r (K + 2000 * (d + 1) + 950) (by omega) lo (fun k hk => ?_) (cur.length - lo) lo k (by omega) rfl (by omega)
      obtain ⟨k, rfl⟩ : ∃ m, k = m + 1 := ⟨k - 1, by omega⟩
      rw [hrr, naskhref30_Visual.j4]
      have hseg : cur = cur.take lo ++ ((cur.drop lo).take rr ++ cur.drop (lo + rr)) := by
        conv => lhs; rw [← List.take_append_drop lo cur, ← List.take_append_drop rr (cur.drop lo), List.drop_drop]
      have htl : (cur.take lo).length = lo := by rw [List.length_take]; omega
      have hml : ((cur.drop lo).take rr).length = rr := by rw [List.length_take, List.length_drop]; omega
      have hnext : wrap64 ((mx (lo : Int) (wrap64 (((lo + rr : Nat) : Int) - 1))) + 1) = (nx : Int) := by
        rw [show wrap64 (((lo + rr : Nat) : Int) - 1) = ((lo + rr : Nat) : Int) - 1 from w64 (by omega) (by omega)]
        have : mx (lo : Int) (((lo + rr : Nat) : Int) - 1) + 1 = (nx : Int) := by
          rw [hnx]; unfold mx
          repeat' split
          all_goals omega
        rw [this]
        exact w64 (by omega) (by omega)
      have h3 := l3_loop x4 x5 (lo : Int) ((lo + rr : Nat) : Int) r (K + 2000 * (d + 1)) new (fun k hk => by rw [hnext]; exact ih nx new k (by omega) (by omega) (by omega) (by omega) (by rw [a4, hres])) rr (cur.take lo) ((cur.drop lo).take rr) (cur.drop (lo + rr)) k (by omega) (by omega) (by rw [htl, hml, List.length_drop]; omega) hnew.symm
      rw [← hseg, htl, hml] at h3
      rw [show wrap64 (((lo + rr : Nat) : Int) - 1) = (lo : Int) + (rr : Int) - 1 by rw [w64 (by omega) (by omega)]; omega]
      exact h3
    · rw [naskhref30_Visual.l1, if_neg (by omega)]
      rw [List.take_of_length_le (by omega), List.drop_eq_nil_of_le (by omega)] at hres
      rw [show cur = res by simpa [turnG] using hres]
      exact hr k (by omega)
set_option maxRecDepth 20000 in
theorem l0_loop (low : Int) (hlow : 1 ≤ low ∧ low ≤ 126) : ∀ (j : Nat) (cur : List S35) (k : Nat), j ≤ 127 → cur.length ≤ 900 → 1000 + 2000000 * (j + 1) ≤ k →
    naskhref30_Visual.l0 k cur low (low - 1 + j) = some (downG lev j (low - 1 + j) cur) := by
  intro j
  induction j with
  | zero =>
    intro cur k hj hc hk
    obtain ⟨k, rfl⟩ : ∃ m, k = m + 2 := ⟨k - 2, by omega⟩
    rw [naskhref30_Visual.l0, if_pos (by omega), decide_eq_false (by omega), naskhref30_Visual.j1, if_neg (by simp)]
    rfl
  | succ j ih =>
    intro cur k hj hc hk
    obtain ⟨k, rfl⟩ : ∃ m, k = m + 2 := ⟨k - 2, by omega⟩
    rw [naskhref30_Visual.l0, if_pos (by omega), decide_eq_true (by omega), naskhref30_Visual.j1, if_pos rfl, downG]
    have e : low - 1 + ((j + 1 : Nat) : Int) - 1 = low - 1 + (j : Int) := by omega
    refine l1_loop low (low - 1 + ((j + 1 : Nat) : Int)) _ (1000 + 2000000 * (j + 1)) cur.length hc (turnG (fun p => decide (low - 1 + ((j + 1 : Nat) : Int) ≤ lev p)) [] cur) (fun k hk => ?_) cur.length 0 cur k rfl (by omega) (by omega) (by omega) (by simp)
    rw [w64 (by omega) (by omega), e]
    exact ih _ k (by omega) (by rw [turnG_length]; simpa using hc) hk
set_option maxRecDepth 20000 in
theorem refvisual_f (x0 : List Int) (rs : List S35) (hc : Chain x0 0 rs x0.length) (hx : x0.length ≤ 900) (k : Nat) (hk : 300000000 ≤ k) : naskhref30_Visual.f k x0 = some (visR rs) := by
  have hlen := Chain.len hc
  obtain ⟨rs', e, hc'⟩ := reflogical_f x0 (by omega) k (by omega)
  obtain rfl := chain_unique x0 rs' rs 0 _ (by omega) hc' hc
  unfold naskhref30_Visual.f
  rw [e, Option.bind_some]
  unfold naskhref30_least.f
  have hl := least_loop rs' (by omega) rs' [] 0 k rfl (by omega)
  rw [show ((([] : List S35).length : Nat) : Int) = 0 from rfl] at hl
  rw [hl, Option.bind_some]
  have hmost : ∀ x ∈ rs', lev x ≤ mostL 0 rs' := fun x hx => mostL_mem rs' 0 x hx
  have hm126 := mostL_le rs' 0 (by omega)
  have hm0 := mostL_ge rs' 0
  rcases low_least rs' 0 (Or.inl rfl) with ⟨h1, h2⟩ | ⟨h1, h2, h3⟩
  · obtain ⟨k, rfl⟩ : ∃ m, k = m + 2 := ⟨k - 2, by omega⟩
    rw [if_pos rfl] at h2
    rw [h1, naskhref30_Visual.l0, if_neg (by omega), naskhref30_Visual.j1, if_neg (by simp)]
    unfold visR
    rw [h2, show (mostL 0 rs' - 127 + 1).toNat = 0 by omega]
    rfl
  · rw [if_pos rfl] at h3
    obtain ⟨low, hlow⟩ : ∃ low, lowR 0 rs' = low := ⟨_, rfl⟩
    rw [hlow] at h1 h2 h3 ⊢
    obtain ⟨j, hj⟩ : ∃ j, (127 - low).toNat = j := ⟨_, rfl⟩
    have hj2 : j ≤ 127 := by omega
    have h := l0_loop low ⟨h1, h2⟩ (127 - low).toNat rs' k (by omega) (by omega) (by rw [hj]; exact Nat.le_trans (Nat.le_trans (Nat.add_le_add_left (Nat.mul_le_mul_left 2000000 (Nat.succ_le_succ hj2)) 1000) (by decide : 1000 + 2000000 * (127 + 1) ≤ 300000000)) hk)
    rw [show low - 1 + ((127 - low).toNat : Int) = 126 by omega] at h
    rw [h]
    unfold visR
    rw [← h3]
    by_cases hcmp : low ≤ mostL 0 rs'
    · have ha := downG_above lev (mostL 0 rs') (126 - mostL 0 rs').toNat (mostL 0 rs' - low + 1).toNat rs' hmost
      rw [show (126 - mostL 0 rs').toNat + (mostL 0 rs' - low + 1).toNat = (127 - low).toNat by omega, show mostL 0 rs' + ((126 - mostL 0 rs').toNat : Int) = 126 by omega] at ha
      rw [ha]
    · have ha := downG_above lev (low - 1) (127 - low).toNat 0 rs' (fun x hx => by have := hmost x hx; omega)
      rw [Nat.add_zero, show low - 1 + ((127 - low).toNat : Int) = 126 by omega] at ha
      rw [ha, show (mostL 0 rs' - low + 1).toNat = 0 by omega]
      rfl

theorem awake_ok : naskhlaw30_awake.f 40 = some true := by decide +kernel
theorem RunsTell_ok : naskhlaw30_RunsTell.Pure := by
  intro l0 h1 h2 h3
  refine ⟨300000000, ?_⟩
  unfold naskhlaw30_RunsTell.f
  have haw : naskhlaw30_awake.f 300000000 = some true := at_rounds (fun k => naskhlaw30_awake.mono k) (by decide) awake_ok
  by_cases hn : (l0.length : Int) > 200
  · rw [if_pos hn, haw]; rfl
  · rw [if_neg hn]
    obtain ⟨rs, e, hc⟩ := logical_f l0 (by omega) 300000000 (by omega)
    obtain ⟨rs', e', hc'⟩ := reflogical_f l0 (by omega) 300000000 (by omega)
    obtain rfl := chain_unique l0 rs' rs 0 _ (by omega) hc' hc
    have hlen := Chain.len hc
    rw [e, Option.bind_some, e', Option.bind_some, equalrun rs' (by omega) _ (by omega), Option.bind_some, if_pos rfl, visual_f l0 rs' hc (by omega) _ (by omega), Option.bind_some, refvisual_f l0 rs' hc (by omega) _ (by omega), Option.bind_some,
      equalrun _ (by rw [visR_length]; omega) _ (by rw [visR_length]; omega), Option.bind_some, if_pos rfl, haw]
    rfl
end Go.Proofs.Ytjnhepgjkphkoaa.PureRunsTellAux
namespace Go.Proofs.Ytjnhepgjkphkoaa.Pure
open Go.Proofs.Ytjnhepgjkphkoaa.PRunsTell
theorem RunsTell : naskhlaw30_RunsTell.Pure := PureRunsTellAux.RunsTell_ok
end Go.Proofs.Ytjnhepgjkphkoaa.Pure
