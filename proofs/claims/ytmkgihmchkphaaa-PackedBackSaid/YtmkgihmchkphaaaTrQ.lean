/- The trie: plain words and Ranges in them, without the references' print (taken out of trg1.py, trr1.py, trr2.py, trr3.py). -/
import Derived.Test.YtmkgihmchkphaaaTrE4
namespace Go.Proofs.Ytmkgihmchkphaaa.Stk
open Go.RowKit Go.Proofs.YtmkgihmchkphaaaW.PrintWords Go.Proofs.YtmkgihmchkphaaaW.PrintLast Go.Proofs.YtmkgihmchkphaaaW.PrintMore
attribute [local go_sem] max2_int min2_int max_two min_two max_three min_three max_four min_four   -- for this text's walks alone
set_option linter.unusedVariables false
set_option linter.unusedSimpArgs false
theorem up1 {i n : Nat} (h : i < n) (hn : n ≤ 9223372036854775807) : wrap64 ((i : Int) + 1) = ((i + 1 : Nat) : Int) := by unfold wrap64; omega
theorem valR_in {l : List Rg} {z c : Int} {i : Nat} (hO : OkL l) (hi : i < l.length) (h1 : (rgAt l i).lo ≤ c) (h2 : c ≤ (rgAt l i).hi) : valR l z c = (rgAt l i).va := by
  rw [← valR_end (m := i + 1) (fun j hj hl => by have := hO.2 i j (by omega) hl; omega), valR_take hi, if_pos ⟨h1, h2⟩]
theorem valR_out {l : List Rg} {z c : Int} (h : ∀ i, i < l.length → ¬ ((rgAt l i).lo ≤ c ∧ c ≤ (rgAt l i).hi)) : valR l z c = z := valR_none fun r hr => by
  obtain ⟨j, hj, e⟩ := List.mem_iff_getElem.1 hr
  have e2 : rgAt l j = r := by rw [← e]; simp [rgAt, List.getD, hj]
  rw [← e2]
  exact h j hj

theorem rgAt_zero (r : Rg) (rs : List Rg) : rgAt (r :: rs) 0 = r := rfl
theorem rgAt_succ (r : Rg) (rs : List Rg) (i : Nat) : rgAt (r :: rs) (i + 1) = rgAt rs i := rfl
theorem rgAt_last (init : List Rg) (r : Rg) : rgAt (init ++ [r]) init.length = r := by simp [rgAt, List.getD]
/-- What a row of ranges that are longest says of V, from a on ahead of b. -/
def OutP (V : Int → Int) (z : Int) : List Rg → Int → Int → Prop
  | [], a, b => ∀ x, a ≤ x → x < b → V x = z
  | r :: out, a, b => (a ≤ r.lo ∧ r.lo ≤ r.hi ∧ r.hi < b ∧ r.va ≠ z) ∧ (∀ x, a ≤ x → x < r.lo → V x = z) ∧ (∀ x, r.lo ≤ x → x ≤ r.hi → V x = r.va) ∧ (r.hi + 1 < b → V (r.hi + 1) ≠ r.va) ∧ OutP V z out (r.hi + 1) b
theorem outp_z {V : Int → Int} {z b b' : Int} (hb : b ≤ b') (h : ∀ x, b ≤ x → x < b' → V x = z) : ∀ {out : List Rg} {a : Int}, OutP V z out a b → OutP V z out a b'
  | [], a, h1 => fun x hx hy => by
    by_cases e : x < b
    · exact h1 x hx e
    · exact h x (by omega) hy
  | r :: out, a, h1 => ⟨⟨h1.1.1, h1.1.2.1, by have := h1.1.2.2.1; omega, h1.1.2.2.2⟩, h1.2.1, h1.2.2.1, fun h2 => by
    by_cases e : r.hi + 1 < b
    · exact h1.2.2.2.1 e
    · have := h1.1.2.2.1
      rw [h (r.hi + 1) (by omega) h2]
      exact Ne.symm h1.1.2.2.2, outp_z hb h h1.2.2.2.2⟩
theorem outp_snoc {V : Int → Int} {z b : Int} {r : Rg} (h1 : r.lo = b) (h2 : r.lo ≤ r.hi) (h3 : r.va ≠ z) (h4 : ∀ x, r.lo ≤ x → x ≤ r.hi → V x = r.va) : ∀ {out : List Rg} {a : Int}, a ≤ b → (∀ q, q ∈ out.getLast? → q.hi + 1 = r.lo → q.va ≠ r.va) → OutP V z out a b → OutP V z (out ++ [r]) a (r.hi + 1)
  | [], a, ha, hl, h => ⟨⟨by omega, h2, by omega, h3⟩, fun x hx hy => h x hx (by omega), h4, fun h5 => by omega, fun x hx hy => by omega⟩
  | q :: out, a, ha, hl, h => by
    refine ⟨⟨h.1.1, h.1.2.1, by have := h.1.2.2.1; omega, h.1.2.2.2⟩, h.2.1, h.2.2.1, fun h5 => ?_, outp_snoc h1 h2 h3 h4 (by have := h.1.2.2.1; omega) (fun p hp e => ?_) h.2.2.2.2⟩
    · by_cases e : q.hi + 1 < b
      · exact h.2.2.2.1 e
      · have := h.1.2.2.1
        have e2 : q.hi + 1 = r.lo := by omega
        rw [e2, h4 r.lo (by omega) h2]
        cases out with
        | nil => exact Ne.symm (hl q (by simp) e2)
        | cons p out =>
          have := h.2.2.2.2.1
          omega
    · refine hl p ?_ e
      cases out with
      | nil => simp at hp
      | cons p2 out => simpa using hp
theorem outp_more {V : Int → Int} {z b hi : Int} {q : Rg} (h1 : q.hi + 1 = b) (h2 : b ≤ hi) (h3 : ∀ x, b ≤ x → x ≤ hi → V x = q.va) : ∀ {out : List Rg} {a : Int}, OutP V z (out ++ [q]) a b → OutP V z (out ++ [⟨q.lo, hi, q.va⟩]) a (hi + 1)
  | [], a, h => by
    have h := (show OutP V z [q] a b from h)
    exact ⟨⟨h.1.1, by have := h.1.2.1; show q.lo ≤ hi; omega, by show hi < hi + 1; omega, h.1.2.2.2⟩, h.2.1, fun x hx hy => by
      by_cases e : x ≤ q.hi
      · exact h.2.2.1 x hx e
      · exact h3 x (by omega) hy, fun h5 => by have : hi + 1 < hi + 1 := h5; omega, fun x hx hy => by have : hi + 1 ≤ x := hx; omega⟩
  | p :: out, a, h => by
    have h := (show OutP V z (p :: (out ++ [q])) a b from h)
    refine ⟨⟨h.1.1, h.1.2.1, by have := h.1.2.2.1; omega, h.1.2.2.2⟩, h.2.1, h.2.2.1, fun h5 => ?_, outp_more h1 h2 h3 h.2.2.2.2⟩
    by_cases e : p.hi + 1 < b
    · exact h.2.2.2.1 e
    · exfalso
      have h6 := h.2.2.2.2
      have h7 := h.1.2.2.1
      cases out with
      | nil =>
        have h8 : OutP V z [q] (p.hi + 1) b := h6
        have := h8.1.2.1
        have := h8.1.1
        omega
      | cons p2 out =>
        have h8 : OutP V z (p2 :: (out ++ [q])) (p.hi + 1) b := h6
        have := h8.1.2.2.1
        have := h8.1.1
        have := h8.1.2.1
        omega
theorem outp_in {V : Int → Int} {z b : Int} : ∀ {out : List Rg} {a : Int}, OutP V z out a b → ∀ i, i < out.length → a ≤ (rgAt out i).lo ∧ (rgAt out i).lo ≤ (rgAt out i).hi ∧ (rgAt out i).hi < b ∧ ∀ x, (rgAt out i).lo ≤ x → x ≤ (rgAt out i).hi → V x = (rgAt out i).va
  | [], a, h, i, hi => by simp at hi
  | r :: out, a, h, 0, hi => ⟨h.1.1, h.1.2.1, h.1.2.2.1, h.2.2.1⟩
  | r :: out, a, h, i + 1, hi => by
    have h1 := outp_in h.2.2.2.2 i (by simpa using hi)
    rw [rgAt_succ]
    exact ⟨by have := h.1.1; have := h.1.2.1; omega, h1.2⟩
theorem outp_lt {V : Int → Int} {z b : Int} : ∀ {out : List Rg} {a : Int}, OutP V z out a b → ∀ i j, i < j → j < out.length → (rgAt out i).hi < (rgAt out j).lo
  | [], a, h, i, j, hij, hj => by simp at hj
  | r :: out, a, h, 0, j + 1, hij, hj => by
    have h1 := outp_in h.2.2.2.2 j (by simpa using hj)
    rw [rgAt_succ, rgAt_zero]
    omega
  | r :: out, a, h, i + 1, j + 1, hij, hj => by
    rw [rgAt_succ, rgAt_succ]
    exact outp_lt h.2.2.2.2 i j (by omega) (by simpa using hj)
theorem outp_gap {V : Int → Int} {z b : Int} : ∀ {out : List Rg} {a : Int}, OutP V z out a b → ∀ x, a ≤ x → x < b → (∀ i, i < out.length → ¬ ((rgAt out i).lo ≤ x ∧ x ≤ (rgAt out i).hi)) → V x = z
  | [], a, h, x, hx, hy, hn => h x hx hy
  | r :: out, a, h, x, hx, hy, hn => by
    by_cases e : x < r.lo
    · exact h.2.1 x hx e
    · have h0 := hn 0 (by simp)
      rw [rgAt_zero] at h0
      exact outp_gap h.2.2.2.2 x (by omega) hy (fun i hi => hn (i + 1) (by simpa using hi))
/-- The ranges, and what lies between them. -/
def fillG (z : Int) : List Rg → Int → List Rg
  | [], a => if a ≤ 1114111 then [⟨a, 1114111, z⟩] else []
  | r :: out, a => (if a < r.lo then [⟨a, r.lo - 1, z⟩] else []) ++ r :: fillG z out (r.hi + 1)
theorem keep_fill {V : Int → Int} {z : Int} : ∀ {out : List Rg} {a : Int}, OutP V z out a 1114112 → keepR z (fillG z out a) = out
  | [], a, h => by unfold fillG; split <;> simp [keepR]
  | r :: out, a, h => by
    have h1 := keep_fill h.2.2.2.2
    have h2 := h.1.2.2.2
    unfold fillG
    unfold keepR at h1 ⊢
    rw [List.filter_append, List.filter_cons_of_pos (by simpa using h2), h1]
    split <;> simp
theorem seg_fill {V : Int → Int} {z : Int} : ∀ {out : List Rg} {a : Int}, a ≤ 1114112 → OutP V z out a 1114112 → Seg V (fillG z out a) a 1114112
  | [], a, ha, h => by
    unfold fillG
    split
    · exact ⟨⟨rfl, by show a ≤ 1114111; omega, by show (1114111 : Int) ≤ 1114111; omega⟩, fun x hx hy => h x hx (by have : x ≤ 1114111 := hy; omega), fun h5 => by have : (1114111 : Int) < 1114111 := h5; omega, rfl⟩
    · show a = 1114112; omega
  | r :: out, a, ha, h => by
    have h1 := seg_fill (by have := h.1.2.2.1; omega) h.2.2.2.2
    have h2 : Seg V (r :: fillG z out (r.hi + 1)) r.lo 1114112 := ⟨⟨rfl, h.1.2.1, by have := h.1.2.2.1; omega⟩, h.2.2.1, fun h5 => h.2.2.2.1 (by omega), h1⟩
    unfold fillG
    by_cases e : a < r.lo
    · rw [if_pos e]
      have h3 := h.1
      refine ⟨⟨rfl, by show a ≤ r.lo - 1; omega, by show r.lo - 1 ≤ 1114111; omega⟩, fun x hx hy => h.2.1 x hx (by have : x ≤ r.lo - 1 := hy; omega), fun h5 => ?_, ?_⟩
      · show V (r.lo - 1 + 1) ≠ z
        rw [show r.lo - 1 + 1 = r.lo by omega, h.2.2.1 r.lo (by omega) h3.2.1]
        exact h3.2.2.2
      · show Seg V (r :: fillG z out (r.hi + 1)) (r.lo - 1 + 1) 1114112
        rw [show r.lo - 1 + 1 = r.lo by omega]
        exact h2
    · rw [if_neg e, List.nil_append, show a = r.lo by have := h.1.1; omega]
      exact h2
theorem seg_uniq {V V' : Int → Int} : ∀ {rs rs' : List Rg} {a : Int}, 0 ≤ a → (∀ x, 0 ≤ x → x ≤ 1114111 → V x = V' x) → Seg V rs a 1114112 → Seg V' rs' a 1114112 → rs = rs'
  | [], [], a, h0, hv, h, h' => rfl
  | [], r :: rs', a, h0, hv, h, h' => by
    have e : a = 1114112 := h
    have := h'.1
    omega
  | r :: rs, [], a, h0, hv, h, h' => by
    have e : a = 1114112 := h'
    have := h.1
    omega
  | r :: rs, r' :: rs', a, h0, hv, h, h' => by
    have h1 := h.1
    have h2 := h'.1
    have ev : r.va = r'.va := by rw [← h.2.1 a (Int.le_refl _) h1.2.1, ← h'.2.1 a (Int.le_refl _) h2.2.1]; exact hv a h0 (by omega)
    have eh : r.hi = r'.hi := by
      rcases Int.lt_trichotomy r.hi r'.hi with e | e | e
      · exfalso
        refine h.2.2.1 (by omega) ?_
        rw [hv _ (by omega) (by omega), h'.2.1 (r.hi + 1) (by omega) (by omega), ev]
      · exact e
      · exfalso
        refine h'.2.2.1 (by omega) ?_
        rw [← hv _ (by omega) (by omega), h.2.1 (r'.hi + 1) (by omega) (by omega), ev]
    have er : r = r' := by
      obtain ⟨a1, a2, a3⟩ := r
      obtain ⟨b1, b2, b3⟩ := r'
      simp only at ev eh h1 h2
      rw [ev, eh, h1.1, h2.1]
    have h3 := h'.2.2.2
    rw [← eh] at h3
    rw [er, seg_uniq (by omega) hv h.2.2.2 h3]
/-- How many codes have v, from a on. -/
def cF (V : Int → Int) (v a : Int) : Nat → Int
  | 0 => 0
  | m + 1 => (if V (a + m) = v then 1 else 0) + cF V v a m
theorem cF_succ (V : Int → Int) (v a : Int) (m : Nat) : cF V v a (m + 1) = (if V (a + m) = v then 1 else 0) + cF V v a m := rfl
theorem cF_le (V : Int → Int) (v a : Int) : ∀ m, 0 ≤ cF V v a m ∧ cF V v a m ≤ m
  | 0 => ⟨Int.le_refl _, Int.le_refl _⟩
  | m + 1 => by have := cF_le V v a m; rw [cF_succ]; split <;> omega
theorem cF_add (V : Int → Int) (v a : Int) (m : Nat) : ∀ k, cF V v a (m + k) = cF V v a m + cF V v (a + m) k
  | 0 => by simp [cF]
  | k + 1 => by
    rw [← Nat.add_assoc, cF_succ, cF_succ, cF_add V v a m k, show a + ((m + k : Nat) : Int) = a + (m : Int) + (k : Int) by omega]
    omega
theorem cF_const {V : Int → Int} {v a u : Int} : ∀ {m : Nat}, (∀ x, a ≤ x → x < a + m → V x = u) → cF V v a m = if u = v then (m : Int) else 0
  | 0, h => by simp [cF]
  | m + 1, h => by
    rw [cF_succ, h (a + m) (by omega) (by omega), cF_const (fun x hx hy => h x hx (by omega))]
    split <;> omega
theorem cF_congr {V V' : Int → Int} {v a : Int} : ∀ {m : Nat}, (∀ x, a ≤ x → x < a + m → V x = V' x) → cF V v a m = cF V' v a m
  | 0, h => rfl
  | m + 1, h => by
    rw [cF_succ, cF_succ, h (a + m) (by omega) (by omega), cF_congr (fun x hx hy => h x hx (by omega))]
theorem seg_count {V : Int → Int} {v : Int} : ∀ {rs : List Rg} {a n : Int}, 0 ≤ a → 0 ≤ n → n ≤ a → Seg V rs a 1114112 → rs.foldl (cntW v) n = n + cF V v a (1114112 - a).toNat
  | [], a, n, h0, h1, h2, h => by
    have e : a = 1114112 := h
    subst e
    simp [cF]
  | r :: rs, a, n, h0, h1, h2, h => by
    have h3 := h.1
    have hm : (1114112 - a).toNat = (r.hi + 1 - a).toNat + (1114112 - (r.hi + 1)).toNat := by omega
    have hc := cF_const (V := V) (v := v) (a := a) (u := r.va) (m := (r.hi + 1 - a).toNat) (fun x hx hy => h.2.1 x hx (by omega))
    rw [List.foldl_cons, hm, cF_add, hc, show a + (((r.hi + 1 - a).toNat : Nat) : Int) = r.hi + 1 by omega]
    by_cases e : r.va = v
    · rw [if_pos e, show cntW v n r = n + (r.hi + 1 - a) by unfold cntW; rw [if_pos e]; unfold wrap64; omega, seg_count (by omega) (by omega) (by omega) h.2.2.2]
      omega
    · rw [if_neg e, show cntW v n r = n from if_neg e, seg_count (by omega) h1 (by omega) h.2.2.2]
      omega

def stepM (z : Int) (out : List Rg) (r : Rg) : List Rg :=
  if r.va = z then out else if 0 < out.length ∧ (rgAt out (out.length - 1)).hi + 1 = r.lo ∧ (rgAt out (out.length - 1)).va = r.va then out.set (out.length - 1) ⟨(rgAt out (out.length - 1)).lo, r.hi, (rgAt out (out.length - 1)).va⟩ else out ++ [r]
/-- The ranges, those of one value beside one another put together. -/
def mrgF (z : Int) (l : List Rg) : List Rg := l.foldl (stepM z) []
theorem stepM_len (z : Int) (out : List Rg) (r : Rg) : (stepM z out r).length ≤ out.length + 1 := by
  unfold stepM
  split
  · omega
  · split <;> simp
theorem foldM_len (z : Int) : ∀ (l out : List Rg), (l.foldl (stepM z) out).length ≤ out.length + l.length
  | [], out => by simp
  | r :: l, out => by
    have h1 := foldM_len z l (stepM z out r)
    have h2 := stepM_len z out r
    rw [List.foldl_cons, List.length_cons]
    omega
theorem mrg_len (z : Int) (l : List Rg) : (mrgF z l).length ≤ l.length := by have := foldM_len z l []; simpa [mrgF] using this
def bAt (l : List Rg) : Nat → Int
  | 0 => 0
  | j + 1 => (rgAt l j).hi + 1
theorem bAt_ok {l : List Rg} (hO : OkL l) {i : Nat} (hi : i ≤ l.length) : 0 ≤ bAt l i ∧ bAt l i ≤ 1114112 ∧ (i < l.length → bAt l i ≤ (rgAt l i).lo) := by
  cases i with
  | zero => exact ⟨Int.le_refl _, by show (0 : Int) ≤ 1114112; omega, fun h => (hO.1 0 h).1⟩
  | succ j =>
    have h1 := hO.1 j (by omega)
    show 0 ≤ (rgAt l j).hi + 1 ∧ (rgAt l j).hi + 1 ≤ 1114112 ∧ _
    exact ⟨by omega, by omega, fun h => by have := hO.2 j (j + 1) (by omega) h; show (rgAt l j).hi + 1 ≤ _; omega⟩
theorem bAt_gap {l : List Rg} {z : Int} (hO : OkL l) {i : Nat} (hi : i ≤ l.length) (x : Int) (h1 : bAt l i ≤ x) (h2 : i < l.length → x < (rgAt l i).lo) : valR l z x = z := valR_out fun j hj hx => by
  rcases Nat.lt_trichotomy j i with e | e | e
  · obtain ⟨i, rfl⟩ : ∃ i', i = i' + 1 := ⟨i - 1, by omega⟩
    have h3 : (rgAt l i).hi + 1 ≤ x := h1
    by_cases e2 : j = i
    · subst e2; omega
    · have := hO.2 j i (by omega) (by omega)
      have := hO.1 i (by omega)
      omega
  · subst e; have := h2 hj; omega
  · have := h2 (by omega)
    have := hO.2 i j e hj
    have := hO.1 i (by omega)
    omega
theorem take_snoc {l : List Rg} {i : Nat} (hi : i < l.length) : l.take (i + 1) = l.take i ++ [rgAt l i] := by
  rw [List.take_add_one]
  simp [rgAt, List.getD, hi]
theorem mrg_step {V : Int → Int} {z : Int} {out : List Rg} {r : Rg} (h : OutP V z out 0 r.lo) (h0 : 0 ≤ r.lo) (h1 : r.lo ≤ r.hi) (h2 : ∀ x, r.lo ≤ x → x ≤ r.hi → V x = r.va) : OutP V z (stepM z out r) 0 (r.hi + 1) := by
  unfold stepM
  by_cases e : r.va = z
  · rw [if_pos e]
    exact outp_z (by omega) (fun x hx hy => (h2 x hx (by omega)).trans e) h
  · rw [if_neg e]
    rcases List.eq_nil_or_concat out with e2 | ⟨init, q, e2⟩
    · subst e2
      rw [if_neg (by simp)]
      exact outp_snoc rfl h1 e h2 h0 (fun q hq => by simp at hq) h
    · rw [List.concat_eq_append] at e2
      subst e2
      have el : (init ++ [q]).length - 1 = init.length := by simp
      rw [el, rgAt_last]
      by_cases c : 0 < (init ++ [q]).length ∧ q.hi + 1 = r.lo ∧ q.va = r.va
      · rw [if_pos c, show (init ++ [q]).set init.length ⟨q.lo, r.hi, q.va⟩ = init ++ [⟨q.lo, r.hi, q.va⟩] by simp]
        exact outp_more c.2.1 h1 (fun x hx hy => (h2 x hx hy).trans c.2.2.symm) h
      · rw [if_neg c]
        exact outp_snoc rfl h1 e h2 h0 (fun p hp e3 e4 => by
          rw [List.getLast?_append] at hp
          simp at hp
          subst hp
          exact c ⟨by simp, e3, e4⟩) h
theorem mrg_take {l : List Rg} {z : Int} (hO : OkL l) : ∀ i, i ≤ l.length → OutP (valR l z) z ((l.take i).foldl (stepM z) []) 0 (bAt l i)
  | 0, hi => by
    rw [List.take_zero]
    exact fun x hx hy => by have : x < 0 := hy; omega
  | i + 1, hi => by
    have h1 := mrg_take (z := z) hO i (by omega)
    have h2 := hO.1 i (by omega)
    have h3 := bAt_ok hO (i := i) (by omega)
    rw [take_snoc (by omega), List.foldl_append]
    exact mrg_step (outp_z (h3.2.2 (by omega)) (fun x hx hy => bAt_gap hO (by omega) x hx (fun _ => hy)) h1) h2.1 h2.2.1 (fun x hx hy => valR_in hO (by omega) hx hy)
theorem mrg_out {l : List Rg} (z : Int) (hO : OkL l) : OutP (valR l z) z (mrgF z l) 0 1114112 := by
  have h1 := mrg_take (z := z) hO l.length (Nat.le_refl _)
  rw [List.take_length] at h1
  exact outp_z (bAt_ok hO (Nat.le_refl _)).2.1 (fun x hx hy => bAt_gap hO (Nat.le_refl _) x hx (fun h => by omega)) h1
theorem ranges_same {l rs : List Rg} {z : Int} {V : Int → Int} (hO : OkL l) (hV : ∀ x, 0 ≤ x → x ≤ 1114111 → V x = valR l z x) (hs : Seg V rs 0 1114112) : keepR z rs = mrgF z l := by
  rw [seg_uniq (Int.le_refl _) hV hs (seg_fill (by decide) (mrg_out z hO)), keep_fill (mrg_out z hO)]
theorem count_same {l rs : List Rg} {z v : Int} {V : Int → Int} (hV : ∀ x, 0 ≤ x → x ≤ 1114111 → V x = valR l z x) (hs : Seg V rs 0 1114112) : rs.foldl (cntW v) 0 = cF (valR l z) v 0 1114112 := by
  rw [seg_count (Int.le_refl _) (Int.le_refl _) (Int.le_refl _) hs, cF_congr (fun x hx hy => hV x hx (by omega))]
  show 0 + cF (valR l z) v 0 (1114112 - 0 : Int).toNat = _
  rw [Int.zero_add]
  rfl

theorem outp_chk {V : Int → Int} {z b : Int} (hb : b ≤ 1114112) : ∀ {out : List Rg} {a last : Int}, OutP V z out a b → last < a → chkL out last = 0
  | [], a, last, h, hl => rfl
  | r :: out, a, last, h, hl => by
    have h1 := h.1
    unfold chkL
    rw [if_neg (by omega)]
    exact outp_chk hb h.2.2.2.2 (by omega)
theorem mrg_chk {l : List Rg} (z : Int) (hO : OkL l) (hl : l.length ≤ 4096) : chk (mrgF z l) = 0 := by
  unfold chk
  rw [if_neg (by have := mrg_len z l; omega)]
  exact outp_chk (by decide) (mrg_out z hO) (by decide)
theorem mrg_val {l : List Rg} (z : Int) (hO : OkL l) (hl : l.length ≤ 4096) (c : Int) : valR (mrgF z l) z c = valR l z c := by
  have hM := (chk_ok (mrg_chk z hO hl)).2
  have hP := mrg_out z hO
  by_cases h : ∃ i, i < (mrgF z l).length ∧ (rgAt (mrgF z l) i).lo ≤ c ∧ c ≤ (rgAt (mrgF z l) i).hi
  · obtain ⟨i, hi, h1, h2⟩ := h
    rw [valR_in hM hi h1 h2, (outp_in hP i hi).2.2.2 c h1 h2]
  · have hn : ∀ i, i < (mrgF z l).length → ¬ ((rgAt (mrgF z l) i).lo ≤ c ∧ c ≤ (rgAt (mrgF z l) i).hi) := fun i hi h1 => h ⟨i, hi, h1⟩
    rw [valR_out hn]
    by_cases h0 : 0 ≤ c ∧ c < 1114112
    · exact (outp_gap hP c h0.1 h0.2 hn).symm
    · exact (valR_out fun i hi => by have := hO.1 i hi; omega).symm

theorem p_rng {w : World} {g : Nat} {l M : List Rg} {z : Int} {fs : List Int} {bs : List (List Int)} (hT : TabR w g fs bs z true) (hB : Built l z fs bs) (hO : OkL l) (hM : mrgF z l = M) : Calls Try.prog 75 #[.pointer (some ⟨g, 0, none⟩)] w fun e w' => ∃ A, e = .returned (.slice A M.length M.length) ∧ Kd.C kR w' A M.length M ∧ Below w.heap.size w w' := by
  refine (p_ranges hT hB.1).mono fun e w' ⟨rs, A, he, hC, hs, hb⟩ => ?_
  have h1 := ranges_same hO (fun x h0 h1 => built_at hB x h0 h1) hs
  rw [h1, hM] at he hC
  exact ⟨A, he, hC, hb⟩

end Go.Proofs.Ytmkgihmchkphaaa.Stk
