/- The trie: the references' Ranges and Count (over the print of TrieRanges). -/
import Derived.Test.YtljcohjafcjgdaaTrR1
namespace Go.Proofs.Ytljcohjafcjgdaa.Stk
open Go.RowKit Go.Proofs.YtljcohjafcjgdaaW.PrintWords Go.Proofs.YtljcohjafcjgdaaW.PrintLast Go.Proofs.YtljcohjafcjgdaaW.PrintMore
attribute [local go_sem] max2_int min2_int max_two min_two max_three min_three max_four min_four   -- for this text's walks alone
set_option linter.unusedVariables false
set_option linter.unusedSimpArgs false
def stepM (z : Int) (out : List Rg) (r : Rg) : List Rg :=
  if r.va = z then out else if 0 < out.length ∧ (rgAt out (out.length - 1)).hi + 1 = r.lo ∧ (rgAt out (out.length - 1)).va = r.va then out.set (out.length - 1) ⟨(rgAt out (out.length - 1)).lo, r.hi, (rgAt out (out.length - 1)).va⟩ else out ++ [r]
/-- The ranges, those of one value beside one another put together. -/
def mrgF (z : Int) (l : List Rg) : List Rg := l.foldl (stepM z) []
theorem stepM_len (z : Int) (out : List Rg) (r : Rg) : (stepM z out r).length ≤ out.length + 1 := by
  unfold stepM
  split
  · omega
  · split <;> simp
theorem foldM_len (z : Int) : ∀ (l out : List Rg), (l.foldl (stepM z) out).length ≤ out.length + l.length
  | [], out => by simp
  | r :: l, out => by
    have h1 := foldM_len z l (stepM z out r)
    have h2 := stepM_len z out r
    rw [List.foldl_cons, List.length_cons]
    omega
theorem mrg_len (z : Int) (l : List Rg) : (mrgF z l).length ≤ l.length := by have := foldM_len z l []; simpa [mrgF] using this
def bAt (l : List Rg) : Nat → Int
  | 0 => 0
  | j + 1 => (rgAt l j).hi + 1
theorem bAt_ok {l : List Rg} (hO : OkL l) {i : Nat} (hi : i ≤ l.length) : 0 ≤ bAt l i ∧ bAt l i ≤ 1114112 ∧ (i < l.length → bAt l i ≤ (rgAt l i).lo) := by
  cases i with
  | zero => exact ⟨Int.le_refl _, by show (0 : Int) ≤ 1114112; omega, fun h => (hO.1 0 h).1⟩
  | succ j =>
    have h1 := hO.1 j (by omega)
    show 0 ≤ (rgAt l j).hi + 1 ∧ (rgAt l j).hi + 1 ≤ 1114112 ∧ _
    exact ⟨by omega, by omega, fun h => by have := hO.2 j (j + 1) (by omega) h; show (rgAt l j).hi + 1 ≤ _; omega⟩
theorem bAt_gap {l : List Rg} {z : Int} (hO : OkL l) {i : Nat} (hi : i ≤ l.length) (x : Int) (h1 : bAt l i ≤ x) (h2 : i < l.length → x < (rgAt l i).lo) : valR l z x = z := valR_out fun j hj hx => by
  rcases Nat.lt_trichotomy j i with e | e | e
  · obtain ⟨i, rfl⟩ : ∃ i', i = i' + 1 := ⟨i - 1, by omega⟩
    have h3 : (rgAt l i).hi + 1 ≤ x := h1
    by_cases e2 : j = i
    · subst e2; omega
    · have := hO.2 j i (by omega) (by omega)
      have := hO.1 i (by omega)
      omega
  · subst e; have := h2 hj; omega
  · have := h2 (by omega)
    have := hO.2 i j e hj
    have := hO.1 i (by omega)
    omega
theorem take_snoc {l : List Rg} {i : Nat} (hi : i < l.length) : l.take (i + 1) = l.take i ++ [rgAt l i] := by
  rw [List.take_add_one]
  simp [rgAt, List.getD, hi]
theorem mrg_step {V : Int → Int} {z : Int} {out : List Rg} {r : Rg} (h : OutP V z out 0 r.lo) (h0 : 0 ≤ r.lo) (h1 : r.lo ≤ r.hi) (h2 : ∀ x, r.lo ≤ x → x ≤ r.hi → V x = r.va) : OutP V z (stepM z out r) 0 (r.hi + 1) := by
  unfold stepM
  by_cases e : r.va = z
  · rw [if_pos e]
    exact outp_z (by omega) (fun x hx hy => (h2 x hx (by omega)).trans e) h
  · rw [if_neg e]
    rcases List.eq_nil_or_concat out with e2 | ⟨init, q, e2⟩
    · subst e2
      rw [if_neg (by simp)]
      exact outp_snoc rfl h1 e h2 h0 (fun q hq => by simp at hq) h
    · rw [List.concat_eq_append] at e2
      subst e2
      have el : (init ++ [q]).length - 1 = init.length := by simp
      rw [el, rgAt_last]
      by_cases c : 0 < (init ++ [q]).length ∧ q.hi + 1 = r.lo ∧ q.va = r.va
      · rw [if_pos c, show (init ++ [q]).set init.length ⟨q.lo, r.hi, q.va⟩ = init ++ [⟨q.lo, r.hi, q.va⟩] by simp]
        exact outp_more c.2.1 h1 (fun x hx hy => (h2 x hx hy).trans c.2.2.symm) h
      · rw [if_neg c]
        exact outp_snoc rfl h1 e h2 h0 (fun p hp e3 e4 => by
          rw [List.getLast?_append] at hp
          simp at hp
          subst hp
          exact c ⟨by simp, e3, e4⟩) h
theorem mrg_take {l : List Rg} {z : Int} (hO : OkL l) : ∀ i, i ≤ l.length → OutP (valR l z) z ((l.take i).foldl (stepM z) []) 0 (bAt l i)
  | 0, hi => by
    rw [List.take_zero]
    exact fun x hx hy => by have : x < 0 := hy; omega
  | i + 1, hi => by
    have h1 := mrg_take (z := z) hO i (by omega)
    have h2 := hO.1 i (by omega)
    have h3 := bAt_ok hO (i := i) (by omega)
    rw [take_snoc (by omega), List.foldl_append]
    exact mrg_step (outp_z (h3.2.2 (by omega)) (fun x hx hy => bAt_gap hO (by omega) x hx (fun _ => hy)) h1) h2.1 h2.2.1 (fun x hx hy => valR_in hO (by omega) hx hy)
theorem mrg_out {l : List Rg} (z : Int) (hO : OkL l) : OutP (valR l z) z (mrgF z l) 0 1114112 := by
  have h1 := mrg_take (z := z) hO l.length (Nat.le_refl _)
  rw [List.take_length] at h1
  exact outp_z (bAt_ok hO (Nat.le_refl _)).2.1 (fun x hx hy => bAt_gap hO (Nat.le_refl _) x hx (fun h => by omega)) h1
theorem ranges_same {l rs : List Rg} {z : Int} {V : Int → Int} (hO : OkL l) (hV : ∀ x, 0 ≤ x → x ≤ 1114111 → V x = valR l z x) (hs : Seg V rs 0 1114112) : keepR z rs = mrgF z l := by
  rw [seg_uniq (Int.le_refl _) hV hs (seg_fill (by decide) (mrg_out z hO)), keep_fill (mrg_out z hO)]
theorem count_same {l rs : List Rg} {z v : Int} {V : Int → Int} (hV : ∀ x, 0 ≤ x → x ≤ 1114111 → V x = valR l z x) (hs : Seg V rs 0 1114112) : rs.foldl (cntW v) 0 = cF (valR l z) v 0 1114112 := by
  rw [seg_count (Int.le_refl _) (Int.le_refl _) (Int.le_refl _) hs, cF_congr (fun x hx hy => hV x hx (by omega))]
  show 0 + cF (valR l z) v 0 (1114112 - 0 : Int).toNat = _
  rw [Int.zero_add]
  rfl
namespace C
open PTrieRanges
def toS (r : Rg) : PTrieRanges.S39 := ⟨r.lo, r.hi, r.va⟩
def toR (r : PTrieRanges.S39) : Rg := ⟨r.f0, r.f1, r.f2⟩
theorem toRS (l : List Rg) : (l.map toS).map toR = l := by rw [List.map_map]; exact List.map_id l
theorem c_toS {w : World} {A : Option Addr} {n : Nat} {l : List Rg} (h : Kd.C kR w A n l) : Kd.C PTrieRanges.k39 w A n (l.map toS) := C_map toS rfl (fun x cs hx => by obtain rfl := kR_open hx; exact PTrieRanges.k39_mk _ _) h
theorem c_toR {w : World} {A : Option Addr} {n : Nat} {l : List PTrieRanges.S39} (h : Kd.C PTrieRanges.k39 w A n l) : Kd.C kR w A n (l.map toR) := C_map toR rfl (fun x cs hx => by obtain rfl := PTrieRanges.k39_open hx; exact kR_mk _ _) h
theorem rd_toS {l : List Rg} {i : Nat} (h : i < l.length) : PTrieRanges.rd_T39 (l.map toS) (i : Int) = toS (rgAt l i) := by
  unfold PTrieRanges.rd_T39 rgAt
  rw [Int.toNat_natCast]
  simp [List.getD, h]
def AllB (out : List Rg) : Prop := ∀ r, r ∈ out → 0 ≤ r.hi ∧ r.hi ≤ 1114111
theorem allB_step {z : Int} {out : List Rg} {r : Rg} (h : AllB out) (hr : 0 ≤ r.hi ∧ r.hi ≤ 1114111) : AllB (stepM z out r) := by
  unfold stepM
  split
  · exact h
  · split
    · intro q hq
      rcases List.mem_or_eq_of_mem_set hq with h1 | h1
      · exact h q h1
      · subst h1; exact hr
    · intro q hq
      rcases List.mem_append.1 hq with h1 | h1
      · exact h q h1
      · simp at h1; subst h1; exact hr
theorem rgAt_mem {l : List Rg} {i : Nat} (h : i < l.length) : rgAt l i ∈ l := by simp [rgAt, List.getD, h]
theorem ranges_l {l : List Rg} {z : Int} (hO : OkL l) (hl : l.length ≤ 4096) : ∀ (k i : Nat) (out : List Rg), l.length + 1 ≤ k + i → i ≤ l.length → out.length ≤ i → AllB out → PTrieRanges.naskhref06_Ranges.l0 k (l.map toS) z (out.map toS) (i : Int) = some (((l.drop i).foldl (stepM z) out).map toS)
  | 0, i, out, h, h2, h3, h4 => by omega
  | k + 1, i, out, h, h2, h3, h4 => by
    by_cases hi : i < l.length
    · have hr := hO.1 i hi
      have H : PTrieRanges.naskhref06_Ranges.l0 k (l.map toS) z ((stepM z out (rgAt l i)).map toS) ((i + 1 : Nat) : Int) = some (((l.drop i).foldl (stepM z) out).map toS) := by
        rw [List.drop_eq_getElem_cons hi, List.foldl_cons, show l[i] = rgAt l i by simp [rgAt, List.getD, hi]]
        exact ranges_l hO hl k (i + 1) _ (by omega) (by omega) (by have := stepM_len z out (rgAt l i); omega) (allB_step h4 ⟨by omega, by omega⟩)
      unfold PTrieRanges.naskhref06_Ranges.l0
      rw [List.length_map, List.length_map, if_pos (by omega), if_pos (by omega), rd_toS hi, up1 hi (by omega)]
      rw [← H]
      unfold stepM
      by_cases e : (rgAt l i).va = z
      · rw [if_pos e, if_pos (show (toS (rgAt l i)).f2 = z from e)]
      · rw [if_neg e, if_neg (show ¬ (toS (rgAt l i)).f2 = z from e)]
        have hap : (if out.length < 5864062014805 then PTrieRanges.naskhref06_Ranges.l0 k (l.map toS) z (out.map toS ++ [(⟨(toS (rgAt l i)).f0, (toS (rgAt l i)).f1, (toS (rgAt l i)).f2⟩ : PTrieRanges.S39)]) ((i + 1 : Nat) : Int) else none) = PTrieRanges.naskhref06_Ranges.l0 k (l.map toS) z ((out ++ [rgAt l i]).map toS) ((i + 1 : Nat) : Int) := by
          rw [if_pos (by omega), List.map_append]
          rfl
        by_cases e1 : 0 < out.length
        · rw [if_pos (show (out.length : Int) > 0 by omega), show wrap64 ((out.length : Int) - 1) = ((out.length - 1 : Nat) : Int) by unfold wrap64; omega, if_pos (by omega), if_pos (by omega), rd_toS (show out.length - 1 < out.length by omega), Int.toNat_natCast]
          have hb := h4 _ (rgAt_mem (show out.length - 1 < out.length by omega))
          rw [show wrap64 ((toS (rgAt out (out.length - 1))).f1 + 1) = (rgAt out (out.length - 1)).hi + 1 by show wrap64 ((rgAt out (out.length - 1)).hi + 1) = _; unfold wrap64; omega]
          by_cases e2 : (rgAt out (out.length - 1)).hi + 1 = (rgAt l i).lo
          · rw [if_pos (show (rgAt out (out.length - 1)).hi + 1 = (toS (rgAt l i)).f0 from e2)]
            by_cases e3 : (rgAt out (out.length - 1)).va = (rgAt l i).va
            · rw [if_pos (show (toS (rgAt out (out.length - 1))).f2 = (toS (rgAt l i)).f2 from e3), if_pos ⟨e1, e2, e3⟩, List.map_set]
              rfl
            · rw [if_neg (show ¬ (toS (rgAt out (out.length - 1))).f2 = (toS (rgAt l i)).f2 from e3), if_neg (fun h : 0 < out.length ∧ (rgAt out (out.length - 1)).hi + 1 = (rgAt l i).lo ∧ (rgAt out (out.length - 1)).va = (rgAt l i).va => e3 h.2.2)]
              exact hap
          · rw [if_neg (show ¬ (rgAt out (out.length - 1)).hi + 1 = (toS (rgAt l i)).f0 from e2), if_neg (fun h : 0 < out.length ∧ (rgAt out (out.length - 1)).hi + 1 = (rgAt l i).lo ∧ (rgAt out (out.length - 1)).va = (rgAt l i).va => e2 h.2.1)]
            exact hap
        · rw [if_neg (show ¬ (out.length : Int) > 0 by omega), if_neg (fun h : 0 < out.length ∧ (rgAt out (out.length - 1)).hi + 1 = (rgAt l i).lo ∧ (rgAt out (out.length - 1)).va = (rgAt l i).va => e1 h.1)]
          exact hap
    · unfold PTrieRanges.naskhref06_Ranges.l0
      rw [List.length_map, if_neg (by omega), List.drop_eq_nil_of_le (by omega)]
      rfl
theorem count_l {l : List Rg} {z v : Int} (hO : OkL l) (hl : l.length ≤ 4096) : ∀ (k i : Nat) (n al : Int), l.length + 1 ≤ k + i → i ≤ l.length → 0 ≤ n → n ≤ bAt l i → 0 ≤ al → al ≤ bAt l i → n + (if v = z then bAt l i - al else 0) = cF (valR l z) v 0 (bAt l i).toNat → PTrieRanges.naskhref06_Count.l0 k (l.map toS) z v n al (i : Int) = some (cF (valR l z) v 0 1114112)
  | 0, i, n, al, h, h2, _, _, _, _, _ => by omega
  | k + 1, i, n, al, h, h2, n0, n1, a0, a1, hc => by
    have hb := bAt_ok hO h2
    by_cases hi : i < l.length
    · have hr := hO.1 i hi
      have hb2 := hb.2.2 hi
      have g1 := cF_const (V := valR l z) (v := v) (a := bAt l i) (u := z) (m := ((rgAt l i).lo - bAt l i).toNat) (fun x hx hy => bAt_gap hO h2 x hx (fun _ => by omega))
      have g2 := cF_const (V := valR l z) (v := v) (a := (rgAt l i).lo) (u := (rgAt l i).va) (m := ((rgAt l i).hi + 1 - (rgAt l i).lo).toNat) (fun x hx hy => valR_in hO hi hx (by omega))
      have g3 : (bAt l (i + 1)).toNat = (bAt l i).toNat + ((rgAt l i).lo - bAt l i).toNat + ((rgAt l i).hi + 1 - (rgAt l i).lo).toNat := by
        show ((rgAt l i).hi + 1).toNat = _
        omega
      have g4 := cF_add (valR l z) v 0 ((bAt l i).toNat + ((rgAt l i).lo - bAt l i).toNat) ((rgAt l i).hi + 1 - (rgAt l i).lo).toNat
      have g5 := cF_add (valR l z) v 0 (bAt l i).toNat ((rgAt l i).lo - bAt l i).toNat
      rw [show (0 : Int) + (((bAt l i).toNat : Nat) : Int) = bAt l i by omega, g1] at g5
      rw [show (0 : Int) + ((((bAt l i).toNat + ((rgAt l i).lo - bAt l i).toNat : Nat)) : Int) = (rgAt l i).lo by omega, g2, g5, ← g3, ← hc] at g4
      have hB : bAt l (i + 1) = (rgAt l i).hi + 1 := rfl
      unfold PTrieRanges.naskhref06_Count.l0
      rw [List.length_map, if_pos (by omega), if_pos (by omega), rd_toS hi, up1 hi (by omega)]
      rw [show wrap64 (wrap64 (wrap64 (al + (toS (rgAt l i)).f1) - (toS (rgAt l i)).f0) + 1) = al + ((rgAt l i).hi + 1 - (rgAt l i).lo) by show wrap64 (wrap64 (wrap64 (al + (rgAt l i).hi) - (rgAt l i).lo) + 1) = _; unfold wrap64; omega]
      by_cases e : (rgAt l i).va = v
      · rw [if_pos (show (toS (rgAt l i)).f2 = v from e), show wrap64 (wrap64 (wrap64 (n + (toS (rgAt l i)).f1) - (toS (rgAt l i)).f0) + 1) = n + ((rgAt l i).hi + 1 - (rgAt l i).lo) by show wrap64 (wrap64 (wrap64 (n + (rgAt l i).hi) - (rgAt l i).lo) + 1) = _; unfold wrap64; omega]
        refine count_l hO hl k (i + 1) _ _ (by omega) (by omega) (by omega) (by omega) (by omega) (by omega) ?_
        rw [g4, hB, if_pos e]
        by_cases e2 : v = z
        · rw [if_pos e2, if_pos e2, if_pos e2.symm]; omega
        · rw [if_neg e2, if_neg e2, if_neg (Ne.symm e2)]; omega
      · rw [if_neg (show ¬ (toS (rgAt l i)).f2 = v from e)]
        refine count_l hO hl k (i + 1) _ _ (by omega) (by omega) (by omega) (by omega) (by omega) (by omega) ?_
        rw [g4, hB, if_neg e]
        by_cases e2 : v = z
        · rw [if_pos e2, if_pos e2, if_pos e2.symm]; omega
        · rw [if_neg e2, if_neg e2, if_neg (Ne.symm e2)]; omega
    · have g1 := cF_const (V := valR l z) (v := v) (a := bAt l i) (u := z) (m := (1114112 - bAt l i).toNat) (fun x hx hy => bAt_gap hO h2 x hx (fun h => absurd h hi))
      have g5 := cF_add (valR l z) v 0 (bAt l i).toNat (1114112 - bAt l i).toNat
      have hn : (bAt l i).toNat + (1114112 - bAt l i).toNat = (1114112 : Int).toNat := by omega
      rw [show (0 : Int) + (((bAt l i).toNat : Nat) : Int) = bAt l i by omega, g1, hn, ← hc] at g5
      unfold PTrieRanges.naskhref06_Count.l0
      rw [List.length_map, if_neg (by omega), show cF (valR l z) v 0 1114112 = cF (valR l z) v 0 (1114112 : Int).toNat from rfl, g5]
      by_cases e2 : v = z
      · rw [if_pos e2, if_pos e2, if_pos e2.symm, show wrap64 (wrap64 (wrap64 (n + 1114111) + 1) - al) = n + 1114112 - al by unfold wrap64; omega]
        congr 1
        omega
      · rw [if_neg e2, if_neg e2, if_neg (Ne.symm e2)]
        congr 1
        omega
theorem p_rranges {w : World} {A : Option Addr} {c : Nat} {l : List Rg} (h : Kd.C kR w A l.length l) (hc : l.length ≤ c) (hO : OkL l) (hl : l.length ≤ 4096) (z : Int) : Calls Try.prog 39 #[.slice A l.length c, .int .i64 z] w fun e w' => ∃ (A1 : Option Addr) (c1 : Nat), e = .returned (.slice A1 (mrgF z l).length c1) ∧ Kd.C kR w' A1 (mrgF z l).length (mrgF z l) ∧ (mrgF z l).length ≤ c1 ∧ Below w.heap.size w w' := by
  have h1 := PTrieRanges.naskhref06_Ranges.calls (l.length + 1) A c (l.map toS) z ((mrgF z l).map toS) w (by rw [List.length_map]; exact c_toS h) (by rw [List.length_map]; exact hc) (ranges_l hO hl _ 0 [] (by omega) (by omega) (Nat.le_refl _) (fun r hr => by simp at hr))
  rw [List.length_map] at h1
  refine h1.mono fun e w' ⟨v0, he, hR, hb⟩ => ?_
  obtain ⟨A1, c1, e1, hc1, hC1⟩ := Kd.R_reads hR
  rw [List.length_map] at e1 hc1 hC1
  have h3 := c_toR hC1
  rw [toRS] at h3
  exact ⟨A1, c1, by rw [he, e1], h3, hc1, hb⟩
theorem p_rcount {w : World} {A : Option Addr} {c : Nat} {l : List Rg} (h : Kd.C kR w A l.length l) (hc : l.length ≤ c) (hO : OkL l) (hl : l.length ≤ 4096) (z v : Int) : Calls Try.prog 40 #[.slice A l.length c, .int .i64 z, .int .i64 v] w fun e w' => e = .returned (.int .i64 (cF (valR l z) v 0 1114112)) ∧ Below w.heap.size w w' := by
  have h1 := PTrieRanges.naskhref06_Count.calls (l.length + 1) A c (l.map toS) z v (cF (valR l z) v 0 1114112) w (by rw [List.length_map]; exact c_toS h) (by rw [List.length_map]; exact hc) (count_l hO hl _ 0 0 0 (by omega) (by omega) (by decide) (by show (0 : Int) ≤ 0; decide) (by decide) (by show (0 : Int) ≤ 0; decide) (by
    show 0 + (if v = z then (0 : Int) - 0 else 0) = 0
    split <;> rfl))
  rw [List.length_map] at h1
  exact h1.mono fun e w' ⟨a, b⟩ => ⟨a, drawn_below0 b⟩
end C
end Go.Proofs.Ytljcohjafcjgdaa.Stk
