/- Packed: the law PackedTables. -/
import Derived.Test.YtmkgihmchkphaaaPkS2
import Derived.Test.YtmkgihmchkphaaaPkS1
import Derived.Test.YtmkgihmchkphaaaPPackedTablesx7
import Derived.Lib.Bytes
namespace Go.Proofs.Ytmkgihmchkphaaa.Stk
open Go.RowKit Go.Proofs.YtmkgihmchkphaaaW.PrintWords Go.Proofs.YtmkgihmchkphaaaW.PrintLast Go.Proofs.YtmkgihmchkphaaaW.PrintMore
attribute [local go_sem] max2_int min2_int max_two min_two max_three min_three max_four min_four   -- for this text's walks alone
set_option linter.unusedVariables false
set_option linter.unusedSimpArgs false
namespace D
open PPackedTables
def toS (r : Rg) : PPackedTables.S66 := ⟨r.lo, r.hi, r.va⟩
def toR (r : PPackedTables.S66) : Rg := ⟨r.f0, r.f1, r.f2⟩
theorem toRS (l : List Rg) : (l.map toS).map toR = l := by rw [List.map_map]; exact List.map_id l
theorem c_toS {w : World} {A : Option Addr} {n : Nat} {l : List Rg} (h : Kd.C kR w A n l) : Kd.C PPackedTables.k66 w A n (l.map toS) := C_map toS rfl (fun x cs hx => by obtain rfl := kR_open hx; exact PPackedTables.k66_mk _ _) h
theorem c_toR {w : World} {A : Option Addr} {n : Nat} {l : List PPackedTables.S66} (h : Kd.C PPackedTables.k66 w A n l) : Kd.C kR w A n (l.map toR) := C_map toR rfl (fun x cs hx => by obtain rfl := PPackedTables.k66_open hx; exact kR_mk _ _) h
theorem rd_toS {l : List Rg} {i : Nat} (h : i < l.length) : PPackedTables.rd_T66 (l.map toS) (i : Int) = toS (rgAt l i) := by
  unfold PPackedTables.rd_T66 rgAt
  rw [Int.toNat_natCast]
  simp [List.getD, h]
def AllB (out : List Rg) : Prop := ∀ r, r ∈ out → 0 ≤ r.hi ∧ r.hi ≤ 1114111
theorem allB_step {z : Int} {out : List Rg} {r : Rg} (h : AllB out) (hr : 0 ≤ r.hi ∧ r.hi ≤ 1114111) : AllB (stepM z out r) := by
  unfold stepM
  split
  · exact h
  · split
    · intro q hq
      rcases List.mem_or_eq_of_mem_set hq with h1 | h1
      · exact h q h1
      · subst h1; exact hr
    · intro q hq
      rcases List.mem_append.1 hq with h1 | h1
      · exact h q h1
      · simp at h1; subst h1; exact hr
theorem rgAt_mem {l : List Rg} {i : Nat} (h : i < l.length) : rgAt l i ∈ l := by simp [rgAt, List.getD, h]
theorem ranges_l {l : List Rg} {z : Int} (hO : OkL l) (hl : l.length ≤ 4096) : ∀ (k i : Nat) (out : List Rg), l.length + 1 ≤ k + i → i ≤ l.length → out.length ≤ i → AllB out → PPackedTables.naskhref06_Ranges.l0 k (l.map toS) z (out.map toS) (i : Int) = some (((l.drop i).foldl (stepM z) out).map toS)
  | 0, i, out, h, h2, h3, h4 => by omega
  | k + 1, i, out, h, h2, h3, h4 => by
    by_cases hi : i < l.length
    · have hr := hO.1 i hi
      have H : PPackedTables.naskhref06_Ranges.l0 k (l.map toS) z ((stepM z out (rgAt l i)).map toS) ((i + 1 : Nat) : Int) = some (((l.drop i).foldl (stepM z) out).map toS) := by
        rw [List.drop_eq_getElem_cons hi, List.foldl_cons, show l[i] = rgAt l i by simp [rgAt, List.getD, hi]]
        exact ranges_l hO hl k (i + 1) _ (by omega) (by omega) (by have := stepM_len z out (rgAt l i); omega) (allB_step h4 ⟨by omega, by omega⟩)
      unfold PPackedTables.naskhref06_Ranges.l0
      rw [List.length_map, List.length_map, if_pos (by omega), if_pos (by omega), rd_toS hi, up1 hi (by omega)]
      rw [← H]
      unfold stepM
      by_cases e : (rgAt l i).va = z
      · rw [if_pos e, if_pos (show (toS (rgAt l i)).f2 = z from e)]
      · rw [if_neg e, if_neg (show ¬ (toS (rgAt l i)).f2 = z from e)]
        have hap : (if out.length < 5864062014805 then PPackedTables.naskhref06_Ranges.l0 k (l.map toS) z (out.map toS ++ [(⟨(toS (rgAt l i)).f0, (toS (rgAt l i)).f1, (toS (rgAt l i)).f2⟩ : PPackedTables.S66)]) ((i + 1 : Nat) : Int) else none) = PPackedTables.naskhref06_Ranges.l0 k (l.map toS) z ((out ++ [rgAt l i]).map toS) ((i + 1 : Nat) : Int) := by
          rw [if_pos (by omega), List.map_append]
          rfl
        by_cases e1 : 0 < out.length
        · rw [if_pos (show (out.length : Int) > 0 by omega), show wrap64 ((out.length : Int) - 1) = ((out.length - 1 : Nat) : Int) by unfold wrap64; omega, if_pos (by omega), if_pos (by omega), rd_toS (show out.length - 1 < out.length by omega), Int.toNat_natCast]
          have hb := h4 _ (rgAt_mem (show out.length - 1 < out.length by omega))
          rw [show wrap64 ((toS (rgAt out (out.length - 1))).f1 + 1) = (rgAt out (out.length - 1)).hi + 1 by show wrap64 ((rgAt out (out.length - 1)).hi + 1) = _; unfold wrap64; omega]
          by_cases e2 : (rgAt out (out.length - 1)).hi + 1 = (rgAt l i).lo
          · rw [if_pos (show (rgAt out (out.length - 1)).hi + 1 = (toS (rgAt l i)).f0 from e2)]
            by_cases e3 : (rgAt out (out.length - 1)).va = (rgAt l i).va
            · rw [if_pos (show (toS (rgAt out (out.length - 1))).f2 = (toS (rgAt l i)).f2 from e3), if_pos ⟨e1, e2, e3⟩, List.map_set]
              rfl
            · rw [if_neg (show ¬ (toS (rgAt out (out.length - 1))).f2 = (toS (rgAt l i)).f2 from e3), if_neg (fun h : 0 < out.length ∧ (rgAt out (out.length - 1)).hi + 1 = (rgAt l i).lo ∧ (rgAt out (out.length - 1)).va = (rgAt l i).va => e3 h.2.2)]
              exact hap
          · rw [if_neg (show ¬ (rgAt out (out.length - 1)).hi + 1 = (toS (rgAt l i)).f0 from e2), if_neg (fun h : 0 < out.length ∧ (rgAt out (out.length - 1)).hi + 1 = (rgAt l i).lo ∧ (rgAt out (out.length - 1)).va = (rgAt l i).va => e2 h.2.1)]
            exact hap
        · rw [if_neg (show ¬ (out.length : Int) > 0 by omega), if_neg (fun h : 0 < out.length ∧ (rgAt out (out.length - 1)).hi + 1 = (rgAt l i).lo ∧ (rgAt out (out.length - 1)).va = (rgAt l i).va => e1 h.1)]
          exact hap
    · unfold PPackedTables.naskhref06_Ranges.l0
      rw [List.length_map, if_neg (by omega), List.drop_eq_nil_of_le (by omega)]
      rfl

theorem check_l {l : List Rg} (hn : l.length ≤ 9223372036854775807) : ∀ (k i : Nat) (last : Int), l.length + 1 ≤ k + i → i ≤ l.length → PPackedTables.naskhref06_Check.l0 k (l.map toS) last (i : Int) = some (chkL (l.drop i) last)
  | 0, i, last, h, h2 => by omega
  | k + 1, i, last, h, h2 => by
    unfold PPackedTables.naskhref06_Check.l0
    rw [List.length_map]
    by_cases hi : i < l.length
    · rw [if_pos (by omega), if_pos (by omega), rd_toS hi, chk_step hi, up1 hi hn]
      show (if (rgAt l i).lo ≤ last then some 10 else if (rgAt l i).lo > (rgAt l i).hi then some 10 else if (rgAt l i).hi > 1114111 then some 10 else PPackedTables.naskhref06_Check.l0 k (l.map toS) (rgAt l i).hi ((i + 1 : Nat) : Int)) = _
      rw [check_l hn k (i + 1) _ (by omega) (by omega)]
      by_cases h1 : (rgAt l i).lo ≤ last
      · rw [if_pos h1, if_pos (.inl h1)]
      · rw [if_neg h1]
        by_cases h2 : (rgAt l i).hi < (rgAt l i).lo
        · rw [if_pos h2, if_pos (.inr (.inl h2))]
        · rw [if_neg h2]
          by_cases h3 : (rgAt l i).hi > 1114111
          · rw [if_pos h3, if_pos (.inr (.inr h3))]
          · rw [if_neg h3, if_neg (by omega)]
    · rw [if_neg (by omega), chk_end hi]

theorem rnumber_l : ∀ (j k : Nat) (n : Int) (x : List Int), 0 ≤ n → n < lim j → n ≤ 2147483648 → j + 1 ≤ k → x.length + j < 140737488355328 → PPackedTables.naskhref40_Number.l0 k n x = some (x ++ digF (j + 1) n)
  | 0, k, n, x, h0, h1, h5, h2, h3 => by
    obtain ⟨k, rfl⟩ : ∃ k', k = k' + 1 := ⟨k - 1, by omega⟩
    have h4 : n < 128 := h1
    unfold PPackedTables.naskhref40_Number.l0
    rw [if_neg (by omega), if_pos (by omega), show n % 256 = n by omega]
    unfold digF
    rw [if_neg (by omega)]
  | j + 1, k, n, x, h0, h1, h5, h2, h3 => by
    obtain ⟨k, rfl⟩ : ∃ k', k = k' + 1 := ⟨k - 1, by omega⟩
    have h4 : n < 128 * lim j := h1
    unfold PPackedTables.naskhref40_Number.l0
    unfold digF
    by_cases h : n ≥ 128
    · rw [if_pos h, if_pos (by omega), if_pos (show 128 ≤ n from h), Int.tmod_eq_emod_of_nonneg h0, Int.tdiv_eq_ediv_of_nonneg h0, show wrap64 (128 + n % 128) % 256 = 128 + n % 128 by unfold wrap64; omega, show wrap64 (n / 128) = n / 128 by unfold wrap64; omega, rnumber_l j k (n / 128) _ (by omega) (by omega) (by omega) (by omega) (by simp; omega), List.append_assoc]
      rfl
    · rw [if_neg h, if_pos (by omega), if_neg (by omega), show n % 256 = n by omega]

theorem rj0t (k : Nat) (x : Int) (y : List Int) : PPackedTables.naskhref40_Number.j0 (k + 1) x y true = PPackedTables.naskhref40_Number.j1 k 0 y := by unfold PPackedTables.naskhref40_Number.j0; exact if_pos rfl
theorem rj0f (k : Nat) (x : Int) (y : List Int) : PPackedTables.naskhref40_Number.j0 (k + 1) x y false = PPackedTables.naskhref40_Number.j1 k x y := by unfold PPackedTables.naskhref40_Number.j0; exact if_neg (by decide)
theorem rj1 (k : Nat) (x : Int) (y : List Int) : PPackedTables.naskhref40_Number.j1 (k + 1) x y = PPackedTables.naskhref40_Number.l0 k x y := by unfold PPackedTables.naskhref40_Number.j1; rfl

set_option maxHeartbeats 4000000 in
theorem rtake_l {l : List Int} (hb : Bytes l) : ∀ (j k i : Nat) (n : Int), i + j = 5 → 2 * j + 2 ≤ k → 0 ≤ n → n < pw i → PPackedTables.naskhref40_Take.l0 k l n (pw i) (i : Int) = some (takF ((l.take 5).drop i) i n (pw i)) := by
  intro j
  induction j with
  | zero =>
    intro k i n h h2 hn hn2
    obtain ⟨k, rfl⟩ : ∃ k', k = k' + 2 := ⟨k - 2, by omega⟩
    rw [List.drop_eq_nil_of_le (by rw [List.length_take]; omega)]
    unfold PPackedTables.naskhref40_Take.l0 PPackedTables.naskhref40_Take.j1
    rw [decide_eq_false (show ¬ (i : Int) < 5 by omega)]
    split <;> rfl
  | succ j ih =>
    intro k i n h h2 hn hn2
    obtain ⟨k, rfl⟩ : ∃ k', k = k' + 2 := ⟨k - 2, by omega⟩
    by_cases hi : i < l.length
    · have hx := bytes_at hb hi
      obtain ⟨hp1, hp2, _⟩ := pw_ok (show i ≤ 4 by omega)
      rw [take_at hi (by omega)]
      have er : rd l (i : Int) = l.getD i 0 := by unfold rd; rw [Int.toNat_natCast]
      unfold PPackedTables.naskhref40_Take.l0 PPackedTables.naskhref40_Take.j1
      rw [if_pos (by omega), decide_eq_true (show (i : Int) < 5 by omega), if_pos rfl, if_pos (by omega), if_pos (by omega), er]
      generalize l.getD i 0 = x at hx
      have hu := pw_up (show i ≤ 4 by omega) hn hn2 (y := x % 128) (by omega) (by omega)
      have e1 : wrap64 (n + wrap64 (wrap64 (Int.tmod x 128) * pw i)) = n + x % 128 * pw i := by
        rw [Int.tmod_eq_emod_of_nonneg hx.1, show wrap64 (x % 128) = x % 128 by unfold wrap64; omega, show wrap64 (x % 128 * pw i) = x % 128 * pw i by unfold wrap64; omega]
        unfold wrap64; omega
      have e2 : wrap64 ((i : Int) + 1) = ((i + 1 : Nat) : Int) := by unfold wrap64; omega
      have e3 : wrap64 (pw i * 128) = pw (i + 1) := by show wrap64 (pw i * 128) = pw i * 128; unfold wrap64; omega
      have e4 : pw (i + 1) = pw i * 128 := rfl
      rw [e1, e2, e3, takF_cons]
      have e5 : ((i + 1 : Nat) : Int) = (i : Int) + 1 := by omega
      obtain ⟨t, ht⟩ : ∃ t, pw i = t := ⟨_, rfl⟩
      obtain ⟨t2, ht2⟩ : ∃ t2, pw (i + 1) = t2 := ⟨_, rfl⟩
      rw [ht, ht2] at e4
      have ih2 := fun k n h2 hn hn2 => ih k (i + 1) n (by omega) h2 hn hn2
      rw [ht2] at ih2
      rw [ht] at hu ⊢
      rw [ht2] at hu ⊢
      clear e1 e2 e3 ih hp1 hp2 hn2 ht ht2 er
      by_cases h3 : x < 128
      · have e6 : x % 128 = x := by omega
        rw [e6] at hu ⊢
        rw [if_pos h3, if_pos h3, e5]
        generalize n + x * t = y at hu ⊢
        by_cases h4 : y > 2147483648
        · have hc : ¬ (y ≤ 2147483648 ∧ ¬ (x = 0 ∧ 0 < i)) := fun h5 => by omega
          rw [if_pos h4, if_neg hc]
        · rw [if_neg h4]
          by_cases h5 : (i : Int) > 0
          · rw [if_pos h5]
            by_cases h6 : x = 0
            · have hc : ¬ (y ≤ 2147483648 ∧ ¬ (x = 0 ∧ 0 < i)) := fun h7 => h7.2 ⟨h6, by omega⟩
              rw [if_pos h6, if_neg hc]
            · have hc : y ≤ 2147483648 ∧ ¬ (x = 0 ∧ 0 < i) := ⟨by omega, fun h7 => h6 h7.1⟩
              rw [if_neg h6, if_pos hc]
          · have hc : y ≤ 2147483648 ∧ ¬ (x = 0 ∧ 0 < i) := ⟨by omega, fun h7 => by omega⟩
            rw [if_neg h5, if_pos hc]
      · have e6 : x - 128 = x % 128 := by omega
        rw [if_neg h3, if_neg h3, ih2 k _ (by omega) hu.2.2.1 hu.2.2.2.1, e6, e4]
    · rw [List.drop_eq_nil_of_le (by rw [List.length_take]; omega)]
      unfold PPackedTables.naskhref40_Take.l0 PPackedTables.naskhref40_Take.j1
      rw [if_neg (by omega)]
      rfl

theorem rnumber_fk {l : List Int} (hl : l.length < 140737488355000) (n : Int) {k : Nat} (hk : 9 ≤ k) : PPackedTables.naskhref40_Number.f k l n = some (l ++ numB n) := by
  have h1 := fitN_ok n
  obtain ⟨k, rfl⟩ : ∃ k', k = k' + 2 := ⟨k - 2, by omega⟩
  have h2 := rnumber_l 4 k (fitN n) l h1.1 (by rw [lim4]; omega) (by omega) (by omega) (by omega)
  unfold PPackedTables.naskhref40_Number.f
  rw [if_pos (by simp; omega), Option.bind_some, List.nil_append]
  unfold numB
  rw [← h2]
  unfold fitN
  by_cases h : fitP n = true
  · have h3 := (fitP_iff n).1 h
    rw [if_neg (by omega), if_pos h, decide_eq_false (by omega), rj0f, rj1]
  · rw [if_neg h]
    have h3 : ¬ (0 ≤ n ∧ n ≤ 2147483648) := fun h4 => h ((fitP_iff n).2 h4)
    by_cases h4 : n < 0
    · rw [if_pos h4, rj0t, rj1]
    · rw [if_neg h4, decide_eq_true (by omega), rj0t, rj1]
theorem put3 (a b c : Int) : putB [a, b, c] = numB a ++ (numB b ++ numB c) := by simp [putB]
theorem put2 (a b : Int) : putB [a, b] = numB a ++ numB b := by simp [putB]
theorem renc_l1 {M : List Rg} {z : Int} (hO : OkL M) (hM : M.length ≤ 4096) : ∀ (n k i : Nat) (b : List Int), i + n = M.length → n + 20 ≤ k → b = putB [z, (M.length : Int)] ++ encI M i → PPackedTables.naskhref40_Encode.l1 k (M.map toS) b (bAt M i) (i : Int) = some (encB z M, 0) := by
  intro n
  induction n with
  | zero =>
    intro k i b h1 h2 hb
    obtain ⟨k, rfl⟩ : ∃ k', k = k' + 1 := ⟨k - 1, by omega⟩
    unfold PPackedTables.naskhref40_Encode.l1
    rw [List.length_map, if_neg (by omega), hb, show i = M.length by omega]
    rfl
  | succ n ih =>
    intro k i b h1 h2 hb
    obtain ⟨k, rfl⟩ : ∃ k', k = k' + 1 := ⟨k - 1, by omega⟩
    have hi : i < M.length := by omega
    have hr := hO.1 i hi
    have hbt := bAt_ok hO (i := i) (by omega)
    have hle := hbt.2.2 hi
    have hbl : b.length < 1000000 := by
      have e1 := encI_len M i
      have e2 := putB_len [z, (M.length : Int)]
      rw [hb, List.length_append]
      simp only [List.length_cons, List.length_nil] at e2
      omega
    unfold PPackedTables.naskhref40_Encode.l1
    rw [List.length_map, if_pos (by omega), if_pos (by omega), rd_toS hi, up1 hi (by omega)]
    have e1 : wrap64 ((toS (rgAt M i)).f0 - bAt M i) = (rgAt M i).lo - bAt M i := by show wrap64 ((rgAt M i).lo - bAt M i) = _; unfold wrap64; omega
    have e2 : wrap64 ((toS (rgAt M i)).f1 - (toS (rgAt M i)).f0) = (rgAt M i).hi - (rgAt M i).lo := by show wrap64 ((rgAt M i).hi - (rgAt M i).lo) = _; unfold wrap64; omega
    have e3 : wrap64 ((toS (rgAt M i)).f1 + 1) = bAt M (i + 1) := by show wrap64 ((rgAt M i).hi + 1) = (rgAt M i).hi + 1; unfold wrap64; omega
    have l1 := numB_len ((rgAt M i).lo - bAt M i)
    have l2 := numB_len ((rgAt M i).hi - (rgAt M i).lo)
    rw [e1, e2, e3, rnumber_fk (by omega) _ (by omega), Option.bind_some, rnumber_fk (by rw [List.length_append]; omega) _ (by omega), Option.bind_some, rnumber_fk (by rw [List.length_append, List.length_append]; omega) _ (by omega), Option.bind_some]
    refine ih k (i + 1) _ (by omega) (by omega) ?_
    show _ = putB [z, (M.length : Int)] ++ (encI M i ++ putB [(rgAt M i).lo - bAt M i, (rgAt M i).hi - (rgAt M i).lo, (rgAt M i).va])
    rw [put3, hb]
    simp only [List.append_assoc]
    rfl
theorem renc_l0 {l : List Rg} {z : Int} (hO : OkL l) (hl : l.length ≤ 4096) : ∀ (n k i : Nat), i + n = l.length → n + 10000 ≤ k → PPackedTables.naskhref40_Encode.l0 k (l.map toS) z (i : Int) = some (if badR (l.drop i) = false then (encB z (mrgF z l), 0) else ([], 1)) := by
  intro n
  induction n with
  | zero =>
    intro k i h1 h2
    obtain ⟨k, rfl⟩ : ∃ k', k = k' + 1 := ⟨k - 1, by omega⟩
    have hML := mrg_len z l
    unfold PPackedTables.naskhref40_Encode.l0
    have hra := ranges_l (z := z) hO hl k 0 [] (by omega) (by omega) (Nat.le_refl _) (fun r hr => by simp at hr)
    rw [List.length_map, if_neg (by omega), show PPackedTables.naskhref06_Ranges.f k (l.map toS) z = some ((mrgF z l).map toS) from hra, Option.bind_some, rnumber_fk (by simp) _ (by omega), Option.bind_some, List.length_map, List.nil_append]
    have l1 := numB_len z
    rw [rnumber_fk (by omega) _ (by omega), Option.bind_some, List.drop_eq_nil_of_le (by omega)]
    have hb0 : numB z ++ numB ((mrgF z l).length : Int) = putB [z, ((mrgF z l).length : Int)] ++ encI (mrgF z l) 0 := by rw [put2]; simp [encI]
    exact renc_l1 (chk_ok (mrg_chk z hO hl)).2 (by omega) (mrgF z l).length k 0 _ (by omega) (by omega) hb0
  | succ n ih =>
    intro k i h1 h2
    obtain ⟨k, rfl⟩ : ∃ k', k = k' + 1 := ⟨k - 1, by omega⟩
    have hi : i < l.length := by omega
    unfold PPackedTables.naskhref40_Encode.l0
    rw [List.length_map, if_pos (by omega), if_pos (by omega), rd_toS hi, up1 hi (by omega), bad_at hi]
    by_cases h3 : (rgAt l i).va < 0
    · have hf : fitP (rgAt l i).va = false := by have := fitP_iff (rgAt l i).va; cases h : fitP (rgAt l i).va; rfl; exact absurd (this.1 h).1 (by omega)
      rw [if_pos (show (toS (rgAt l i)).f2 < 0 from h3), hf]
      rfl
    · rw [if_neg (show ¬ (toS (rgAt l i)).f2 < 0 from h3)]
      by_cases h4 : (rgAt l i).va > 2147483648
      · have hf : fitP (rgAt l i).va = false := by have := fitP_iff (rgAt l i).va; cases h : fitP (rgAt l i).va; rfl; exact absurd (this.1 h).2 (by omega)
        rw [if_pos (show (toS (rgAt l i)).f2 > 2147483648 from h4), hf]
        rfl
      · have hf : fitP (rgAt l i).va = true := (fitP_iff _).2 ⟨by omega, by omega⟩
        rw [if_neg (show ¬ (toS (rgAt l i)).f2 > 2147483648 from h4), hf, ih k (i + 1) (by omega) (by omega)]
        rfl
theorem renc_f {l : List Rg} (hn : l.length ≤ 9223372036854775807) (z : Int) {k : Nat} (hk : 20000 ≤ k) (hk2 : l.length ≤ 4096 ∨ True) : PPackedTables.naskhref40_Encode.f k (l.map toS) z = some (encF l z) := by
  have hc : PPackedTables.naskhref06_Check.f k (l.map toS) = some (chk l) := by
    unfold PPackedTables.naskhref06_Check.f chk
    rw [List.length_map]
    by_cases h4 : 4096 < l.length
    · rw [if_pos (by omega), if_pos h4]
    · rw [if_neg (by omega), if_neg h4]
      exact check_l hn _ 0 _ (by omega) (by omega)
  unfold PPackedTables.naskhref40_Encode.f encF
  rw [hc, Option.bind_some]
  by_cases h0 : chk l = 0
  · obtain ⟨k, rfl⟩ : ∃ k', k = k' + 1 := ⟨k - 1, by omega⟩
    have hl := (chk_ok h0).1
    have hO := (chk_ok h0).2
    rw [if_pos h0, if_pos h0]
    have jt : PPackedTables.naskhref40_Encode.j0 (k + 1) (l.map toS) z true = some ([], 1) := by unfold PPackedTables.naskhref40_Encode.j0; exact if_pos rfl
    have jf : PPackedTables.naskhref40_Encode.j0 (k + 1) (l.map toS) z false = PPackedTables.naskhref40_Encode.l0 k (l.map toS) z 0 := by unfold PPackedTables.naskhref40_Encode.j0; exact if_neg (by decide)
    by_cases h1 : z < 0
    · rw [if_pos h1, jt, if_neg (fun h => by have := (fitP_iff z).1 h.1; omega)]
    · rw [if_neg h1]
      by_cases h2 : z > 2147483648
      · rw [decide_eq_true h2, jt, if_neg (fun h => by have := (fitP_iff z).1 h.1; omega)]
      · have hf : fitP z = true := (fitP_iff z).2 ⟨by omega, by omega⟩
        have hr := renc_l0 (z := z) hO hl l.length k 0 (by omega) (by omega)
        rw [decide_eq_false h2, jf]
        rw [Int.natCast_zero, List.drop_zero] at hr
        rw [hr]
        congr 1
        by_cases hb : badR l = false
        · rw [if_pos hb, if_pos ⟨hf, hb⟩]
        · rw [if_neg hb, if_neg (fun h => hb h.2)]
  · rw [if_neg h0, if_neg h0]
theorem p_rencode {w : World} {A : Option Addr} {c : Nat} {l : List Rg} (h : Kd.C kR w A l.length l) (hc : l.length ≤ c) (z : Int) : Calls Try.prog 40 #[.slice A l.length c, .int .i64 z] w (EncR w l z) := by
  have h1 := PPackedTables.naskhref40_Encode.calls 20000 A c (l.map toS) z (encF l z).1 (encF l z).2 w (by rw [List.length_map]; exact c_toS h) (by rw [List.length_map]; exact hc) (renc_f h.2.1 z (Nat.le_refl _) (.inr trivial))
  rw [List.length_map] at h1
  refine h1.mono fun e w' ⟨v0, he, hR, hb⟩ => ?_
  obtain ⟨A1, c1, e1, hc1, hC1⟩ := Kd.R_reads hR
  exact ⟨A1, c1, by rw [he, e1], hC1, hc1, hb⟩
end D
/-- All numbers that bytes are. -/
def numsF : Nat → List Int → List Int × Bool
  | 0, _ => ([], false)
  | f + 1, bs => if bs.length = 0 then ([], true) else if (takB bs).2.2 = true then (if (numsF f (bs.drop (takB bs).2.1.toNat)).2 = true then ((takB bs).1 :: (numsF f (bs.drop (takB bs).2.1.toNat)).1, true) else ([], false)) else ([], false)
theorem nums_stable : ∀ (f g : Nat) (bs : List Int), bs.length < f → bs.length < g → numsF f bs = numsF g bs
  | 0, g, bs, h, h2 => by omega
  | f + 1, 0, bs, h, h2 => by omega
  | f + 1, g + 1, bs, h, h2 => by
    unfold numsF
    by_cases h0 : bs.length = 0
    · rw [if_pos h0, if_pos h0]
    · rw [if_neg h0, if_neg h0]
      rcases ht : takB bs with ⟨n, z, t⟩
      cases t with
      | false => rfl
      | true =>
        obtain ⟨k, hz, hk0, hk⟩ := takB_ok ht
        subst hz
        simp only [if_true, Int.toNat_natCast]
        have hl : (bs.drop k).length = bs.length - k := List.length_drop
        rw [nums_stable f g (bs.drop k) (by omega) (by omega)]
def nF (bs : List Int) : List Int × Bool := numsF (bs.length + 1) bs
theorem nF_nil {bs : List Int} (h : bs.length = 0) : nF bs = ([], true) := by unfold nF numsF; rw [if_pos h]
theorem nF_bad {bs : List Int} {n z : Int} (h0 : bs.length ≠ 0) (h : takB bs = (n, z, false)) : nF bs = ([], false) := by unfold nF numsF; rw [if_neg h0, h]; rfl
theorem nF_ok {bs b1 : List Int} {n : Int} {k : Nat} (h : takB bs = (n, (k : Int), true)) (h1 : bs.drop k = b1) : nF bs = if (nF b1).2 = true then (n :: (nF b1).1, true) else ([], false) := by
  obtain ⟨k', hz, hk0, hk⟩ := takB_ok h
  have e : k = k' := by omega
  subst e
  have hl : (bs.drop k).length = bs.length - k := List.length_drop
  unfold nF
  conv => lhs; unfold numsF
  rw [if_neg (by omega), h]
  simp only [if_true, Int.toNat_natCast]
  rw [h1] at hl ⊢
  rw [nums_stable bs.length (b1.length + 1) b1 (by omega) (by omega)]
/-- Ranges out of numbers. -/
def outB : Int → List Int → List Rg
  | e, a :: b :: c :: ns => ⟨e + a, e + a + b, c⟩ :: outB (e + a + b + 1) ns
  | _, _ => []
theorem takB_nil {bs : List Int} (h : bs.length = 0) : takB bs = (0, 0, false) := by
  have e : bs = [] := List.length_eq_zero_iff.1 h
  subst e
  rfl
/-- What so many ranges leave, and all numbers. -/
theorem rng_nF : ∀ (m : Nat) (e : Int) (bs : List Int), (match rngN m e bs with
    | some (out, rest) => ∃ fs : List Int, fs.length = 3 * m ∧ out = outB e fs ∧ nF bs = (if (nF rest).2 = true then (fs ++ (nF rest).1, true) else ([], false))
    | none => (nF bs).2 = true → (nF bs).1.length ≠ 3 * m ∧ (nF bs).1.length < 3 * m)
  | 0, e, bs => by
    show ∃ fs : List Int, fs.length = 3 * 0 ∧ [] = outB e fs ∧ nF bs = (if (nF bs).2 = true then (fs ++ (nF bs).1, true) else ([], false))
    refine ⟨[], rfl, rfl, ?_⟩
    by_cases h : (nF bs).2 = true
    · rw [if_pos h, List.nil_append, ← h]
    · rw [if_neg h]
      have hg : ∀ (f : Nat) (b : List Int), (numsF f b).2 = false → numsF f b = ([], false) := fun f => by
        cases f with
        | zero => intro b _; rfl
        | succ f =>
          intro b hb
          unfold numsF at hb ⊢
          split at hb
          · simp at hb
          · rename_i h1
            rw [if_neg h1]
            split at hb
            · rename_i h2
              rw [if_pos h2]
              split at hb
              · simp at hb
              · rename_i h3; rw [if_neg h3]
            · rename_i h2; rw [if_neg h2]
      have h4 : (nF bs).2 = false := by simpa using h
      exact hg _ _ h4
  | m + 1, e, bs => by
    have bad : ∀ (b : List Int) (n z : Int), takB b = (n, z, false) → (nF b).2 = true → nF b = ([], true) := fun b n z h hb => by
      by_cases h0 : b.length = 0
      · exact nF_nil h0
      · rw [nF_bad h0 h] at hb; simp at hb
    rcases h1 : takB bs with ⟨a, z1, t1⟩
    cases t1 with
    | false =>
      rw [rng_bad1 h1]
      intro hb
      rw [bad bs a z1 h1 hb]
      simp
    | true =>
      obtain ⟨k1, hz1, _, _⟩ := takB_ok h1
      subst hz1
      obtain ⟨b1, hb1⟩ : ∃ b1, bs.drop k1 = b1 := ⟨_, rfl⟩
      have n1 := nF_ok h1 hb1
      rcases h2 : takB b1 with ⟨b, z2, t2⟩
      cases t2 with
      | false =>
        rw [rng_bad2 h1 hb1 h2]
        intro hb
        have hx : (nF b1).2 = true := by by_cases h : (nF b1).2 = true; exact h; rw [n1, if_neg h] at hb; simp at hb
        rw [n1, if_pos hx, bad b1 b z2 h2 hx]
        simp only [List.length_cons, List.length_nil]
        omega
      | true =>
        obtain ⟨k2, hz2, _, _⟩ := takB_ok h2
        subst hz2
        obtain ⟨b2, hb2⟩ : ∃ b2, b1.drop k2 = b2 := ⟨_, rfl⟩
        have n2 := nF_ok h2 hb2
        rcases h3 : takB b2 with ⟨c, z3, t3⟩
        cases t3 with
        | false =>
          rw [rng_bad3 h1 hb1 h2 hb2 h3]
          intro hb
          have hx : (nF b1).2 = true := by by_cases h : (nF b1).2 = true; exact h; rw [n1, if_neg h] at hb; simp at hb
          have hy : (nF b2).2 = true := by by_cases h : (nF b2).2 = true; exact h; rw [n2, if_neg h] at hx; simp at hx
          rw [n1, if_pos hx, n2, if_pos hy, bad b2 c z3 h3 hy]
          simp only [List.length_cons, List.length_nil]
          omega
        | true =>
          obtain ⟨k3, hz3, _, _⟩ := takB_ok h3
          subst hz3
          obtain ⟨b3, hb3⟩ : ∃ b3, b2.drop k3 = b3 := ⟨_, rfl⟩
          have n3 := nF_ok h3 hb3
          have ih := rng_nF m (e + a + b + 1) b3
          have n4 : nF bs = if (nF b3).2 = true then (a :: b :: c :: (nF b3).1, true) else ([], false) := by
            by_cases h : (nF b3).2 = true
            · rw [if_pos h] at n3 ⊢
              rw [n3] at n2
              rw [if_pos rfl] at n2
              rw [n2] at n1
              rw [if_pos rfl] at n1
              exact n1
            · rw [if_neg h] at n3 ⊢
              rw [n3] at n2
              rw [if_neg (by simp)] at n2
              rw [n2] at n1
              rw [if_neg (by simp)] at n1
              exact n1
          rw [rng_ok h1 hb1 h2 hb2 h3 hb3]
          cases hr : rngN m (e + a + b + 1) b3 with
          | none =>
            rw [hr] at ih
            intro hb
            have hx : (nF b3).2 = true := by by_cases h : (nF b3).2 = true; exact h; rw [n4, if_neg h] at hb; simp at hb
            have ih2 := ih hx
            rw [n4, if_pos hx]
            simp only [List.length_cons]
            omega
          | some p =>
            obtain ⟨out, rest⟩ := p
            rw [hr] at ih
            obtain ⟨fs, hf1, hf2, hf3⟩ := ih
            refine ⟨a :: b :: c :: fs, by simp only [List.length_cons]; omega, by rw [hf2]; rfl, ?_⟩
            by_cases h : (nF rest).2 = true
            · rw [if_pos h] at hf3 ⊢
              rw [n4, hf3]
              rfl
            · rw [if_neg h] at hf3 ⊢
              rw [n4, hf3]
              rfl
namespace D
open PPackedTables
theorem rtake_f {bs : List Int} (hb : Bytes bs) {k : Nat} (hk : 12 ≤ k) : PPackedTables.naskhref40_Take.f k bs = some (takB bs) := rtake_l hb 5 k 0 0 rfl (by omega) (by decide) (by decide)
theorem rnums_l : ∀ (f : Nat) (bs : List Int) (k : Nat) (acc : List Int), bs.length ≤ f → f + 20 ≤ k → acc.length + bs.length < 17592186044416 → Bytes bs → PPackedTables.naskhref40_numbers.l0 k bs acc = some (if (nF bs).2 = true then (acc ++ (nF bs).1, true) else ([], false)) := by
  intro f
  induction f with
  | zero =>
    intro bs k acc h1 h2 h3 hb
    obtain ⟨k, rfl⟩ : ∃ k', k = k' + 1 := ⟨k - 1, by omega⟩
    unfold PPackedTables.naskhref40_numbers.l0
    rw [if_neg (by omega), nF_nil (by omega), if_pos rfl, List.append_nil]
  | succ f ih =>
    intro bs k acc h1 h2 h3 hb
    obtain ⟨k, rfl⟩ : ∃ k', k = k' + 1 := ⟨k - 1, by omega⟩
    unfold PPackedTables.naskhref40_numbers.l0
    by_cases h0 : bs.length = 0
    · rw [if_neg (by omega), nF_nil h0, if_pos rfl, List.append_nil]
    · rw [if_pos (by omega), rtake_f hb (by omega), Option.bind_some]
      rcases ht : takB bs with ⟨n, z, t⟩
      cases t with
      | false => rw [nF_bad h0 ht]; rfl
      | true =>
        obtain ⟨k1, hz, hk0, hk1⟩ := takB_ok ht
        subst hz
        have hl : (bs.drop k1).length = bs.length - k1 := List.length_drop
        simp only [if_true]
        rw [if_pos (by omega), if_pos (by omega), if_pos (by omega), Int.toNat_natCast, ih (bs.drop k1) k _ (by omega) (by omega) (by simp; omega) (bytes_drop hb k1), nF_ok ht rfl]
        by_cases h : (nF (bs.drop k1)).2 = true
        · rw [if_pos h, if_pos h]
          simp
        · rw [if_neg h, if_neg h]
          rfl
def NB (ns : List Int) : Prop := ∀ x, x ∈ ns → 0 ≤ x ∧ x ≤ 2147483648
theorem nF_nb : ∀ (f : Nat) (bs : List Int), bs.length ≤ f → Bytes bs → NB (nF bs).1 := by
  intro f
  induction f with
  | zero => intro bs h hb x hx; rw [nF_nil (by omega)] at hx; simp at hx
  | succ f ih =>
    intro bs h hb x hx
    by_cases h0 : bs.length = 0
    · rw [nF_nil h0] at hx; simp at hx
    · rcases ht : takB bs with ⟨n, z, t⟩
      cases t with
      | false => rw [nF_bad h0 ht] at hx; simp at hx
      | true =>
        obtain ⟨k1, hz, hk0, hk1⟩ := takB_ok ht
        subst hz
        have hl : (bs.drop k1).length = bs.length - k1 := List.length_drop
        rw [nF_ok ht rfl] at hx
        by_cases h2 : (nF (bs.drop k1)).2 = true
        · rw [if_pos h2] at hx
          rcases List.mem_cons.1 hx with e | e
          · rw [e]; exact takB_val hb ht
          · exact ih _ (by omega) (bytes_drop hb k1) x e
        · rw [if_neg h2] at hx; simp at hx
theorem nF_pos {bs : List Int} (h0 : 0 < bs.length) (h : (nF bs).2 = true) : 0 < (nF bs).1.length := by
  rcases ht : takB bs with ⟨n, z, t⟩
  cases t with
  | false => rw [nF_bad (by omega) ht] at h; simp at h
  | true =>
    obtain ⟨k1, hz, hk0, hk1⟩ := takB_ok ht
    subst hz
    have e := nF_ok ht rfl
    by_cases h2 : (nF (bs.drop k1)).2 = true
    · rw [if_pos h2] at e; rw [e]; simp
    · rw [if_neg h2] at e; rw [e] at h; simp at h
theorem putB_bytes (ns : List Int) : Bytes (putB ns) := fun x hx => by
  unfold putB at hx
  obtain ⟨n, _, h⟩ := List.mem_flatMap.1 hx
  exact numB_bytes n x h
theorem encI_bytes (M : List Rg) : ∀ i, Bytes (encI M i)
  | 0 => fun x hx => by simp [encI] at hx
  | i + 1 => fun x hx => by
    unfold encI at hx
    rcases List.mem_append.1 hx with h | h
    · exact encI_bytes M i x h
    · exact putB_bytes _ x h
theorem encF_bytes (l : List Rg) (z : Int) : Bytes (encF l z).1 := by
  unfold encF
  split
  · split
    · intro x hx
      rcases List.mem_append.1 hx with h | h
      · exact putB_bytes _ x h
      · exact encI_bytes _ _ x h
    · intro x hx; simp at hx
  · intro x hx; simp at hx
theorem bytes_inj : ∀ {a b : List Int}, Bytes a → Bytes b → Lib.bytesOf a = Lib.bytesOf b → a = b
  | [], [], _, _, _ => rfl
  | [], y :: b, _, _, h => by simp [Lib.bytesOf] at h
  | x :: a, [], _, _, h => by simp [Lib.bytesOf] at h
  | x :: a, y :: b, ha, hb, h => by
    have h1 : UInt8.ofNat x.toNat :: Lib.bytesOf a = UInt8.ofNat y.toNat :: Lib.bytesOf b := h
    injection h1 with h2 h3
    have hx := ha x (by simp)
    have hy := hb y (by simp)
    have h4 := congrArg UInt8.toNat h2
    rw [UInt8.toNat_ofNat', UInt8.toNat_ofNat'] at h4
    have e : x = y := by omega
    rw [e, bytes_inj (fun z hz => ha z (by simp [hz])) (fun z hz => hb z (by simp [hz])) h3]
/-- The end of the reference's Decode. -/
def finF (bs : List Int) (z : Int) (out : List Rg) : List PPackedTables.S66 × Int × Int := if (encF out z).2 = 0 then (if (encF out z).1 = bs then (out.map toS, z, 0) else ([], 0, 2)) else ([], 0, (encF out z).2)
theorem drop3 {ns : List Int} {i : Nat} (h : 3 * i + 2 < ns.length) : ns.drop (3 * i) = ns.getD (3 * i) 0 :: ns.getD (3 * i + 1) 0 :: ns.getD (3 * i + 2) 0 :: ns.drop (3 * (i + 1)) := by
  have h0 : 3 * i < ns.length := by omega
  have h1 : 3 * i + 1 < ns.length := by omega
  have h2 : 3 * i + 1 + 1 < ns.length := by omega
  have e0 : ns.getD (3 * i) 0 = ns[3 * i] := by simp [List.getD, h0]
  have e1 : ns.getD (3 * i + 1) 0 = ns[3 * i + 1] := by simp [List.getD, h1]
  have e2 : ns.getD (3 * i + 2) 0 = ns[3 * i + 1 + 1] := by show ns.getD (3 * i + 1 + 1) 0 = _; simp [List.getD, h2]
  rw [e0, e1, e2, List.drop_eq_getElem_cons h0, List.drop_eq_getElem_cons h1, List.drop_eq_getElem_cons h2, show 3 * (i + 1) = 3 * i + 1 + 1 + 1 by omega]
theorem getD_nb {ns : List Int} (h : NB ns) {j : Nat} (hj : j < ns.length) : 0 ≤ ns.getD j 0 ∧ ns.getD j 0 ≤ 2147483648 := h _ (by simp [List.getD, hj])
theorem dec_l0 {bs : List Int} (hb : Bytes bs) (z : Int) {many : Nat} (hm : many ≤ 4096) {ns : List Int} (hn : ns.length = 3 * many) (hnb : NB ns) {F : Nat} (hF : 20000 < F) : ∀ (n k i : Nat) (acc : List Rg) (e : Int), i + n = many → n + F ≤ k → acc.length = i → 0 ≤ e → e ≤ (i : Int) * 4294967297 → PPackedTables.naskhref40_Decode.l0 k bs z (many : Int) ns (acc.map toS) e (i : Int) = some (finF bs z (acc ++ outB e (ns.drop (3 * i)))) := by
  intro n
  induction n with
  | zero =>
    intro k i acc e h1 h2 h3 h4 h5
    obtain ⟨k, rfl⟩ : ∃ k', k = k' + 1 := ⟨k - 1, by omega⟩
    unfold PPackedTables.naskhref40_Decode.l0
    rw [if_neg (by omega), renc_f (by omega) z (by omega) (.inr trivial), Option.bind_some, List.drop_eq_nil_of_le (by omega), show outB e [] = [] from rfl, List.append_nil, Lib.strOfNums_toList, Lib.strOfNums_toList]
    unfold finF
    by_cases he : (encF acc z).2 = 0
    · rw [if_pos he, if_pos he]
      by_cases hq : (encF acc z).1 = bs
      · rw [if_pos (by rw [hq]), if_pos hq]
      · rw [if_neg (fun h => hq (bytes_inj (encF_bytes _ _) hb h)), if_neg hq]
    · rw [if_neg he, if_neg he]
  | succ n ih =>
    intro k i acc e h1 h2 h3 h4 h5
    obtain ⟨k, rfl⟩ : ∃ k', k = k' + 1 := ⟨k - 1, by omega⟩
    have g0 := getD_nb hnb (j := 3 * i) (by omega)
    have g1 := getD_nb hnb (j := 3 * i + 1) (by omega)
    have er : ∀ j : Nat, rd ns ((j : Nat) : Int) = ns.getD j 0 := fun j => by unfold rd; rw [Int.toNat_natCast]
    have w0 : wrap64 (3 * (i : Int)) = ((3 * i : Nat) : Int) := by unfold wrap64; omega
    have w1 : wrap64 (((3 * i : Nat) : Int) + 1) = ((3 * i + 1 : Nat) : Int) := by unfold wrap64; omega
    have w2 : wrap64 (((3 * i : Nat) : Int) + 2) = ((3 * i + 2 : Nat) : Int) := by unfold wrap64; omega
    unfold PPackedTables.naskhref40_Decode.l0
    rw [if_pos (by omega), w0, w1, w2, if_pos (by omega), if_pos (by omega), if_pos (by omega), if_pos (by omega), if_pos (by omega), if_pos (by omega), List.length_map, if_pos (by omega), er, er, er, drop3 (by omega)]
    generalize ns.getD (3 * i) 0 = a at g0
    generalize ns.getD (3 * i + 1) 0 = b at g1
    generalize ns.getD (3 * i + 2) 0 = c
    have w3 : wrap64 (e + a) = e + a := by unfold wrap64; omega
    have w4 : wrap64 (e + a + b) = e + a + b := by unfold wrap64; omega
    have w5 : wrap64 (e + a + b + 1) = e + a + b + 1 := by unfold wrap64; omega
    have w6 : wrap64 ((i : Int) + 1) = ((i + 1 : Nat) : Int) := by unfold wrap64; omega
    rw [w3, w4, w5, w6]
    have y0 : i + 1 + n = many := by clear w0 w1 w2 w3 w4 w5 w6; omega
    have y1 : n + F ≤ k := by clear w0 w1 w2 w3 w4 w5 w6; omega
    have y2 : (acc ++ [(⟨e + a, e + a + b, c⟩ : Rg)]).length = i + 1 := by rw [List.length_append, h3]; rfl
    have y3 : 0 ≤ e + a + b + 1 := by clear w0 w1 w2 w3 w4 w5 w6; omega
    have y4 : e + a + b + 1 ≤ ((i + 1 : Nat) : Int) * 4294967297 := by clear w0 w1 w2 w3 w4 w5 w6; omega
    have hx := ih k (i + 1) (acc ++ [⟨e + a, e + a + b, c⟩]) (e + a + b + 1) y0 y1 y2 y3 y4
    rw [List.map_append, List.append_assoc] at hx
    exact hx
theorem decF_fin (bs : List Int) (z : Int) (out : List Rg) (h : rdF bs = ((out, z), 0)) : ((decF bs).1.1.map toS, (decF bs).1.2, (decF bs).2) = finF bs z out := by
  unfold decF finF
  rw [h, if_pos rfl]
  show (((if (encF out z).2 = 0 then (if (encF out z).1 = bs then ((out, z), 0) else (([], 0), 2)) else (([], 0), (encF out z).2) : (List Rg × Int) × Int)).1.1.map toS, _, _) = _
  by_cases he : (encF out z).2 = 0
  · rw [if_pos he, if_pos he]
    by_cases hq : (encF out z).1 = bs
    · rw [if_pos hq, if_pos hq]
    · rw [if_neg hq, if_neg hq]; rfl
  · rw [if_neg he, if_neg he]; rfl
end D
namespace D
open PPackedTables
theorem rdec_j0t (k : Nat) (bs : List Int) (z m : Int) (ns : List Int) : PPackedTables.naskhref40_Decode.j0 (k + 1) bs z m ns true = some ([], 0, 2) := by unfold PPackedTables.naskhref40_Decode.j0; exact if_pos rfl
theorem rdec_j0f (k : Nat) (bs : List Int) (z m : Int) (ns : List Int) : PPackedTables.naskhref40_Decode.j0 (k + 1) bs z m ns false = PPackedTables.naskhref40_Decode.l0 k bs z m ns [] 0 0 := by unfold PPackedTables.naskhref40_Decode.j0; exact if_neg (by decide)
theorem rdF_bad1 {bs : List Int} {n z : Int} (h : takB bs = (n, z, false)) : rdF bs = (([], 0), 2) := by unfold rdF; rw [h]; rfl
theorem rdF_bad2 {bs b1 : List Int} {n m z : Int} {k1 : Nat} (h : takB bs = (n, (k1 : Int), true)) (h1 : bs.drop k1 = b1) (h2 : takB b1 = (m, z, false)) : rdF bs = (([], 0), 2) := by
  unfold rdF
  rw [h]
  simp only [if_true, Int.toNat_natCast]
  rw [h1, h2]
  rfl
theorem rdF_ok {bs b1 b2 : List Int} {n m : Int} {k1 k2 : Nat} (h : takB bs = (n, (k1 : Int), true)) (h1 : bs.drop k1 = b1) (h2 : takB b1 = (m, (k2 : Int), true)) (h3 : b1.drop k2 = b2) : rdF bs = if m > 4096 then ((([] : List Rg), (0 : Int)), (6 : Int)) else match rngN m.toNat 0 b2 with
    | some (out, rest) => if rest.length > 0 then (([], 0), 2) else ((out, n), 0)
    | none => (([], 0), 2) := by
  unfold rdF
  rw [h]
  simp only [if_true, Int.toNat_natCast]
  rw [h1, h2]
  simp only [if_true, Int.toNat_natCast]
  rw [h3]
  rfl
theorem decF_bad {bs : List Int} {er : Int} (h : rdF bs = (([], 0), er)) (he : er ≠ 0) : decF bs = (([], 0), er) := by unfold decF; rw [h, if_neg he]
def R3 (bs : List Int) : List PPackedTables.S66 × Int × Int := ((decF bs).1.1.map toS, (decF bs).1.2, (decF bs).2)
theorem r3_bad {bs : List Int} {er : Int} (h : rdF bs = (([], 0), er)) (he : er ≠ 0) : R3 bs = ([], 0, er) := by unfold R3; rw [decF_bad h he]; rfl
theorem rdec_f {bs : List Int} (hb : Bytes bs) (hl : bs.length < 17592186044000) {F k : Nat} (hF : 20000 < F) (hk : bs.length + 5000 + F ≤ k) : PPackedTables.naskhref40_Decode.f k bs = some (R3 bs) := by
  obtain ⟨k, rfl⟩ : ∃ k', k = k' + 1 := ⟨k - 1, by omega⟩
  unfold PPackedTables.naskhref40_Decode.f
  rw [rtake_f hb (by omega), Option.bind_some]
  rcases h1 : takB bs with ⟨n, z1, t1⟩
  cases t1 with
  | false =>
    rw [r3_bad (rdF_bad1 h1) (by decide)]
    rfl
  | true =>
    obtain ⟨k1, hz1, hk1, hk1l⟩ := takB_ok h1
    subst hz1
    simp only [if_true]
    rw [if_pos (by omega), if_pos (by omega), Int.toNat_natCast]
    obtain ⟨b1, hb1⟩ : ∃ b1, bs.drop k1 = b1 := ⟨_, rfl⟩
    have hb1l : b1.length = bs.length - k1 := by rw [← hb1]; exact List.length_drop
    have hbb1 : Bytes b1 := by rw [← hb1]; exact bytes_drop hb k1
    rw [hb1, rtake_f hbb1 (by omega), Option.bind_some]
    rcases h2 : takB b1 with ⟨m, z2, t2⟩
    cases t2 with
    | false =>
      rw [r3_bad (rdF_bad2 h1 hb1 h2) (by decide)]
      rfl
    | true =>
      obtain ⟨k2, hz2, hk2, hk2l⟩ := takB_ok h2
      subst hz2
      have hv := takB_val hbb1 h2
      obtain ⟨b2, hb2⟩ : ∃ b2, b1.drop k2 = b2 := ⟨_, rfl⟩
      have hR := rdF_ok h1 hb1 h2 hb2
      simp only [if_true]
      by_cases hm : m > 4096
      · rw [if_pos hm] at hR
        rw [if_pos hm, r3_bad hR (by decide)]
      · rw [if_neg hm] at hR
        rw [if_neg hm]
        have hb2l : b2.length = b1.length - k2 := by rw [← hb2]; exact List.length_drop
        have hbb2 : Bytes b2 := by rw [← hb2]; exact bytes_drop hbb1 k2
        have hdd : bs.drop (k1 + k2) = b2 := by rw [← hb2, ← hb1, List.drop_drop]
        rw [show wrap64 ((k1 : Int) + (k2 : Int)) = ((k1 + k2 : Nat) : Int) by unfold wrap64; omega, if_pos (by omega), if_pos (by omega), Int.toNat_natCast, hdd]
        rw [show PPackedTables.naskhref40_numbers.f (k + 1) b2 = some (if (nF b2).2 = true then ([] ++ (nF b2).1, true) else ([], false)) from rnums_l b2.length b2 (k + 1) [] (Nat.le_refl _) (by omega) (by simp; omega) hbb2, Option.bind_some, List.nil_append]
        obtain ⟨mm, hmm⟩ : ∃ mm : Nat, m = (mm : Int) := ⟨m.toNat, by omega⟩
        subst hmm
        rw [Int.toNat_natCast] at hR
        have hw : wrap64 (3 * (mm : Int)) = ((3 * mm : Nat) : Int) := by unfold wrap64; omega
        have hrn := rng_nF mm 0 b2
        -- what is no table
        have hno : R3 bs = ([], 0, 2) → ((nF b2).2 = true → (nF b2).1.length ≠ 3 * mm) → (if (if (nF b2).2 = true then ((nF b2).1, true) else ([], false)).2 = true then PPackedTables.naskhref40_Decode.j0 (k + 1) bs n (mm : Int) (if (nF b2).2 = true then ((nF b2).1, true) else ([], false)).1 ((((if (nF b2).2 = true then ((nF b2).1, true) else ([], false)).1.length : Nat) : Int) != wrap64 (3 * (mm : Int))) else PPackedTables.naskhref40_Decode.j0 (k + 1) bs n (mm : Int) (if (nF b2).2 = true then ((nF b2).1, true) else ([], false)).1 true) = some (R3 bs) := fun h3 h4 => by
          rw [h3]
          by_cases h5 : (nF b2).2 = true
          · rw [if_pos h5, if_pos rfl, hw]
            have h6 := h4 h5
            rw [show ((((nF b2).1.length : Nat) : Int) != ((3 * mm : Nat) : Int)) = true by simp; omega, rdec_j0t]
          · rw [if_neg h5, if_neg (by simp), rdec_j0t]
        cases hr : rngN mm 0 b2 with
        | none =>
          rw [hr] at hrn hR
          exact hno (r3_bad hR (by decide)) (fun h => (hrn h).1)
        | some p =>
          obtain ⟨out, rest⟩ := p
          rw [hr] at hrn hR
          obtain ⟨fs, hf1, hf2, hf3⟩ := hrn
          have hR : rdF bs = if rest.length > 0 then (([], 0), 2) else ((out, n), 0) := hR
          by_cases hrs : rest.length > 0
          · rw [if_pos hrs] at hR
            refine hno (r3_bad hR (by decide)) (fun h => ?_)
            by_cases h5 : (nF rest).2 = true
            · rw [if_pos h5] at hf3
              have h6 := nF_pos hrs h5
              rw [hf3, List.length_append]
              omega
            · rw [if_neg h5] at hf3
              rw [hf3] at h
              simp at h
          · rw [if_neg hrs] at hR
            have h5 := nF_nil (bs := rest) (by omega)
            rw [h5, if_pos rfl, List.append_nil] at hf3
            have hnb : NB fs := by have h6 := nF_nb b2.length b2 (Nat.le_refl _) hbb2; rw [hf3] at h6; exact h6
            rw [hf3, if_pos rfl, if_pos rfl, hw, hf1, show ((((3 * mm : Nat) : Nat) : Int) != ((3 * mm : Nat) : Int)) = false by simp, rdec_j0f]
            have hx := dec_l0 hb n (many := mm) (by omega) hf1 hnb hF mm k 0 [] 0 (by omega) (by omega) rfl (by decide) (by simp)
            rw [Nat.mul_zero, List.drop_zero, List.nil_append, ← hf2] at hx
            rw [show PPackedTables.naskhref40_Decode.l0 k bs n (mm : Int) fs [] 0 0 = some (finF bs n out) from hx, ← decF_fin bs n out hR]
            rfl
theorem p_rdecode {w : World} {A : Option Addr} {c : Nat} {bs : List Int} (h : Kd.C (Kd.int .u8) w A bs.length bs) (hc : bs.length ≤ c) (hb : Bytes bs) (hl : bs.length < 17592186044000) : Calls Try.prog 42 #[.slice A bs.length c] w (DecR w bs) := by
  refine (PPackedTables.naskhref40_Decode.calls (bs.length + 5000 + 20001) A c bs (R3 bs).1 (R3 bs).2.1 (R3 bs).2.2 w h hc (rdec_f hb hl (by decide) (Nat.le_refl _))).mono fun e w' ⟨v0, he, hR, hbw⟩ => ?_
  obtain ⟨A1, c1, e1, hc1, hC1⟩ := Kd.R_reads hR
  have hx : (R3 bs).1 = (decF bs).1.1.map toS := rfl
  rw [hx, List.length_map] at e1 hc1 hC1
  have h3 := c_toR hC1
  rw [toRS] at h3
  exact ⟨A1, c1, by rw [he, e1]; rfl, h3, hc1, hbw⟩
end D
namespace D
open PPackedTables
theorem eqr_l {l : List Rg} (hn : l.length ≤ 9223372036854775807) : ∀ (k i : Nat), l.length + 1 ≤ k + i → i ≤ l.length → PPackedTables.api_Range_43.l0 k (l.map toS) (l.map toS) (l.length : Int) (i : Int) = some true
  | 0, i, h, h2 => by omega
  | k + 1, i, h, h2 => by
    unfold PPackedTables.api_Range_43.l0
    rw [List.length_map]
    by_cases hi : i < l.length
    · rw [if_pos (by omega), if_pos (by omega), if_pos (by omega), if_pos (by omega), if_neg (by simp), up1 hi hn, eqr_l hn k (i + 1) (by omega) (by omega)]
    · rw [if_neg (by omega)]
theorem p_reqr {w : World} {A A1 : Option Addr} {c c1 : Nat} {l : List Rg} (h : Kd.C kR w A l.length l) (hc : l.length ≤ c) (h1 : Kd.C kR w A1 l.length l) (hc1 : l.length ≤ c1) : Calls Try.prog 43 #[.slice A l.length c, .slice A1 l.length c1] w fun e w' => e = .returned (.bool true) ∧ Below w.heap.size w w' := by
  have h2 := PPackedTables.api_Range_43.calls (l.length + 1) A c (l.map toS) A1 c1 (l.map toS) true w (by rw [List.length_map]; exact c_toS h) (by rw [List.length_map]; exact hc) (by rw [List.length_map]; exact c_toS h1) (by rw [List.length_map]; exact hc1) (by
    unfold PPackedTables.api_Range_43.f
    rw [List.length_map, if_pos rfl]
    exact eqr_l h.2.1 _ 0 (by omega) (by omega))
  rw [List.length_map] at h2
  exact h2.mono fun e w' ⟨a, b⟩ => ⟨a, drawn_below0 b⟩
end D
set_option maxHeartbeats 8000000 in
set_option maxRecDepth 100000 in
theorem p_ptables (A : Option Addr) (c : Nat) (l : List Rg) (a1 : Int) (A2 : Option Addr) (c2 : Nat) (bs : List Int) (w : World) (hC : Kd.C kR w A l.length l) (hc : l.length ≤ c) (hln : l.length < 5864062014805) (hD : Kd.C (Kd.int .u8) w A2 bs.length bs) (hdc : bs.length ≤ c2) (hb : Bytes bs) :
    Calls Try.prog 12 #[.slice A l.length c, .int .i64 a1, .slice A2 bs.length c2] w fun e w' => e = .returned (.bool true) ∧ Below w.heap.size w w' := by
  have HC := Aside0.mk hC
  have HCC := Aside0.mk hc
  have HD := Aside0.mk hD
  have HDC := Aside0.mk hdc
  have HBY := Aside0.mk hb
  have HB0 := Aside0.mk (Below.refl w.heap.size w)
  clear hC hc hln hD hdc hb
  by_cases h1 : 100 < l.length
  · have p0 : decide ((l.length : Int) > 100) = true := decide_eq_true (by omega)
    have p1 : decide (100 < (l.length : Int)) = true := decide_eq_true (by omega)
    have p2 : decide (100 < l.length) = true := decide_eq_true h1
    clear h1
    go_enter Try.func12, Try.ntmps12
    go_wp2_with (first | (go_at_call 24; (with_reducible refine (p_awakeP _).mono ?_); rintro e wA ⟨rfl, hb⟩; have HBA := Aside0.mk (below_step HB0.out hb); clear hb))
    go_ret
    exact ⟨by first | rfl | (simp; done), HBA.out⟩
  · have p0 : decide ((l.length : Int) > 100) = false := decide_eq_false (by omega)
    have p1 : decide (100 < (l.length : Int)) = false := decide_eq_false (by omega)
    have p2 : decide (100 < l.length) = false := decide_eq_false h1
    by_cases h3 : 400 < bs.length
    · have r0 : decide ((bs.length : Int) > 400) = true := decide_eq_true (by omega)
      have r1 : decide (400 < (bs.length : Int)) = true := decide_eq_true (by omega)
      have r2 : decide (400 < bs.length) = true := decide_eq_true h3
      clear h1 h3
      go_enter Try.func12, Try.ntmps12
      go_wp2_with (first | (go_at_call 24; (with_reducible refine (p_awakeP _).mono ?_); rintro e wA ⟨rfl, hb⟩; have HBA := Aside0.mk (below_step HB0.out hb); clear hb))
      go_ret
      exact ⟨by first | rfl | (simp; done), HBA.out⟩
    · have r0 : decide ((bs.length : Int) > 400) = false := decide_eq_false (by omega)
      have r1 : decide (400 < (bs.length : Int)) = false := decide_eq_false (by omega)
      have r2 : decide (400 < bs.length) = false := decide_eq_false h3
      have HDL := Aside0.mk (show bs.length < 17592186044000 by omega)
      rcases hen : encF l a1 with ⟨eb, ee⟩
      rcases hdf : decF bs with ⟨⟨out, z⟩, er⟩
      have HEN := Aside0.mk hen
      have HDF := Aside0.mk hdf
      have e1 : (ee == ee) = true := by simp
      have e2 : (er == er) = true := by simp
      have e3 : (z == z) = true := by simp
      clear h1 h3 hen hdf
      go_enter Try.func12, Try.ntmps12
      go_wp2_with (first | (go_at_call 39; (with_reducible refine (p_encode_all HC.out a1).mono ?_); rintro e w1 hr; unfold EncR at hr; rw [HEN.out] at hr; obtain ⟨A1, c1, rfl, h1, h2, hb⟩ := hr; have HX1 := Aside0.mk h1; have HCX1 := Aside0.mk h2; have HB1 := Aside0.mk hb; clear h1 h2 hb) | (go_at_call 40; (with_reducible refine (D.p_rencode (Kd.C_below HC.out HB1.out) HCC.out a1).mono ?_); rintro e w2 hr; unfold EncR at hr; rw [HEN.out] at hr; obtain ⟨A2, c2, rfl, h1, h2, hb⟩ := hr; have HX2 := Aside0.mk h1; have HCX2 := Aside0.mk h2; have HB2 := Aside0.mk (below_step HB1.out hb); have HX12 := Aside0.mk (Kd.C_below HX1.out hb); clear h1 h2 hb) | (go_at_call 41; (with_reducible refine (p_decode (Kd.C_below HD.out HB2.out) HDC.out HBY.out).mono ?_); rintro e w3 hr; unfold DecR at hr; rw [HDF.out] at hr; obtain ⟨A3, c3, rfl, h1, h2, hb⟩ := hr; have HY3 := Aside0.mk h1; have HCY3 := Aside0.mk h2; have HB3 := Aside0.mk (below_step HB2.out hb); have HX13 := Aside0.mk (Kd.C_below HX12.out hb); have HX23 := Aside0.mk (Kd.C_below HX2.out hb); clear h1 h2 hb) | (go_at_call 42; (with_reducible refine (D.p_rdecode (Kd.C_below HD.out HB3.out) HDC.out HBY.out HDL.out).mono ?_); rintro e w4 hr; unfold DecR at hr; rw [HDF.out] at hr; obtain ⟨A4, c4, rfl, h1, h2, hb⟩ := hr; have HY4 := Aside0.mk h1; have HCY4 := Aside0.mk h2; have HB4 := Aside0.mk (below_step HB3.out hb); have HX14 := Aside0.mk (Kd.C_below HX13.out hb); have HX24 := Aside0.mk (Kd.C_below HX23.out hb); have HY34 := Aside0.mk (Kd.C_below HY3.out hb); clear h1 h2 hb) | (go_at_call 27; (with_reducible refine (p_eqb HX14.out HCX1.out HX24.out HCX2.out).mono ?_); rintro e w5 ⟨rfl, hb⟩; have HB5 := Aside0.mk (below_step HB4.out hb); have HY35 := Aside0.mk (Kd.C_below HY34.out hb); have HY45 := Aside0.mk (Kd.C_below HY4.out hb); clear hb) | (go_at_call 43; (with_reducible refine (D.p_reqr HY35.out HCY3.out HY45.out HCY4.out).mono ?_); rintro e w6 ⟨rfl, hb⟩; have HBX := Aside0.mk (below_step HB5.out hb); clear hb) | (go_at_call 24; (with_reducible refine (p_awakeP _).mono ?_); rintro e wA ⟨rfl, hb⟩; have HBA := Aside0.mk (below_step HBX.out hb); clear hb))
      go_ret
      exact ⟨by first | rfl | (simp; done), HBA.out⟩
end Go.Proofs.Ytmkgihmchkphaaa.Stk
