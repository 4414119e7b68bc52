/- The trie: the references' Check, Get; slices.Clone, slices.Equal (over the print of TrieGets). -/
import Derived.Test.YtljcohjafcjgdaaTrP8
import Derived.Test.YtljcohjafcjgdaaPTrieGetsx2
namespace Go.Proofs.Ytljcohjafcjgdaa.Stk
open Go.RowKit Go.Proofs.YtljcohjafcjgdaaW.PrintWords Go.Proofs.YtljcohjafcjgdaaW.PrintLast Go.Proofs.YtljcohjafcjgdaaW.PrintMore
attribute [local go_sem] max2_int min2_int max_two min_two max_three min_three max_four min_four   -- for this text's walks alone
set_option linter.unusedVariables false
set_option linter.unusedSimpArgs false
open PTrieGets
def toS (r : Rg) : PTrieGets.S39 := ⟨r.lo, r.hi, r.va⟩
def toR (r : PTrieGets.S39) : Rg := ⟨r.f0, r.f1, r.f2⟩
theorem toRS (l : List Rg) : (l.map toS).map toR = l := by rw [List.map_map]; exact List.map_id l
theorem c_toS {w : World} {A : Option Addr} {n : Nat} {l : List Rg} (h : Kd.C kR w A n l) : Kd.C PTrieGets.k39 w A n (l.map toS) := C_map toS rfl (fun x cs hx => by obtain rfl := kR_open hx; exact PTrieGets.k39_mk _ _) h
theorem c_toR {w : World} {A : Option Addr} {n : Nat} {l : List PTrieGets.S39} (h : Kd.C PTrieGets.k39 w A n l) : Kd.C kR w A n (l.map toR) := C_map toR rfl (fun x cs hx => by obtain rfl := PTrieGets.k39_open hx; exact kR_mk _ _) h
theorem rd_toS {l : List Rg} {i : Nat} (h : i < l.length) : PTrieGets.rd_T39 (l.map toS) (i : Int) = toS (rgAt l i) := by
  unfold PTrieGets.rd_T39 rgAt
  rw [Int.toNat_natCast]
  simp [List.getD, h]
theorem up1 {i n : Nat} (h : i < n) (hn : n ≤ 9223372036854775807) : wrap64 ((i : Int) + 1) = ((i + 1 : Nat) : Int) := by unfold wrap64; omega
theorem valR_in {l : List Rg} {z c : Int} {i : Nat} (hO : OkL l) (hi : i < l.length) (h1 : (rgAt l i).lo ≤ c) (h2 : c ≤ (rgAt l i).hi) : valR l z c = (rgAt l i).va := by
  rw [← valR_end (m := i + 1) (fun j hj hl => by have := hO.2 i j (by omega) hl; omega), valR_take hi, if_pos ⟨h1, h2⟩]
theorem valR_out {l : List Rg} {z c : Int} (h : ∀ i, i < l.length → ¬ ((rgAt l i).lo ≤ c ∧ c ≤ (rgAt l i).hi)) : valR l z c = z := valR_none fun r hr => by
  obtain ⟨j, hj, e⟩ := List.mem_iff_getElem.1 hr
  have e2 : rgAt l j = r := by rw [← e]; simp [rgAt, List.getD, hj]
  rw [← e2]
  exact h j hj
theorem check_l {l : List Rg} (hn : l.length ≤ 9223372036854775807) : ∀ (k i : Nat) (last : Int), l.length + 1 ≤ k + i → i ≤ l.length → PTrieGets.naskhref06_Check.l0 k (l.map toS) last (i : Int) = some (chkL (l.drop i) last)
  | 0, i, last, h, h2 => by omega
  | k + 1, i, last, h, h2 => by
    unfold PTrieGets.naskhref06_Check.l0
    rw [List.length_map]
    by_cases hi : i < l.length
    · rw [if_pos (by omega), if_pos (by omega), rd_toS hi, chk_step hi, up1 hi hn]
      show (if (rgAt l i).lo ≤ last then some 10 else if (rgAt l i).lo > (rgAt l i).hi then some 10 else if (rgAt l i).hi > 1114111 then some 10 else PTrieGets.naskhref06_Check.l0 k (l.map toS) (rgAt l i).hi ((i + 1 : Nat) : Int)) = _
      rw [check_l hn k (i + 1) _ (by omega) (by omega)]
      by_cases h1 : (rgAt l i).lo ≤ last
      · rw [if_pos h1, if_pos (.inl h1)]
      · rw [if_neg h1]
        by_cases h2 : (rgAt l i).hi < (rgAt l i).lo
        · rw [if_pos h2, if_pos (.inr (.inl h2))]
        · rw [if_neg h2]
          by_cases h3 : (rgAt l i).hi > 1114111
          · rw [if_pos h3, if_pos (.inr (.inr h3))]
          · rw [if_neg h3, if_neg (by omega)]
    · rw [if_neg (by omega), chk_end hi]
theorem get_l {l : List Rg} {z c : Int} (hO : OkL l) (hn : l.length ≤ 9223372036854775807) : ∀ (k i : Nat), l.length + 1 ≤ k + i → i ≤ l.length → (∀ j, j < i → ¬ ((rgAt l j).lo ≤ c ∧ c ≤ (rgAt l j).hi)) → PTrieGets.naskhref06_Get.l0 k (l.map toS) z c (i : Int) = some (valR l z c)
  | 0, i, h, h2, _ => by omega
  | k + 1, i, h, h2, hb => by
    unfold PTrieGets.naskhref06_Get.l0
    rw [List.length_map]
    by_cases hi : i < l.length
    · rw [if_pos (by omega), if_pos (by omega), rd_toS hi, up1 hi hn]
      show (if c ≥ (rgAt l i).lo then (if c ≤ (rgAt l i).hi then some (rgAt l i).va else PTrieGets.naskhref06_Get.l0 k (l.map toS) z c ((i + 1 : Nat) : Int)) else PTrieGets.naskhref06_Get.l0 k (l.map toS) z c ((i + 1 : Nat) : Int)) = _
      by_cases h1 : c ≥ (rgAt l i).lo
      · rw [if_pos h1]
        by_cases h3 : c ≤ (rgAt l i).hi
        · rw [if_pos h3, valR_in hO hi h1 h3]
        · rw [if_neg h3, get_l hO hn k (i + 1) (by omega) (by omega) (fun j hj => by
            rcases Nat.lt_or_ge j i with h4 | h4
            · exact hb j h4
            · rw [show j = i by omega]; exact fun h5 => h3 h5.2)]
      · rw [if_neg h1, get_l hO hn k (i + 1) (by omega) (by omega) (fun j hj => by
          rcases Nat.lt_or_ge j i with h4 | h4
          · exact hb j h4
          · rw [show j = i by omega]; exact fun h5 => h1 h5.1)]
    · rw [if_neg (by omega), valR_out (fun j hj => hb j (by omega))]
theorem eq_l {l : List Rg} (hn : l.length ≤ 9223372036854775807) : ∀ (k i : Nat), l.length + 1 ≤ k + i → i ≤ l.length → PTrieGets.api_Range_27.l0 k (l.map toS) (l.map toS) (l.length : Int) (i : Int) = some true
  | 0, i, h, h2 => by omega
  | k + 1, i, h, h2 => by
    unfold PTrieGets.api_Range_27.l0
    rw [List.length_map]
    by_cases hi : i < l.length
    · rw [if_pos (by omega), if_pos (by omega), if_pos (by omega), if_pos (by omega), if_neg (by simp), up1 hi hn, eq_l hn k (i + 1) (by omega) (by omega)]
    · rw [if_neg (by omega)]
theorem drawn_below {w w' : World} (hd : Drawn0 w w') : Below w.heap.size w w' := by obtain ⟨n, e⟩ := hd; rw [e]; exact pw_below_drewN (Below.refl _ _) n
theorem p_rcheck {w : World} {A : Option Addr} {c : Nat} {l : List Rg} (h : Kd.C kR w A l.length l) (hc : l.length ≤ c) : Calls Try.prog 14 #[.slice A l.length c] w fun e w' => e = .returned (.int .i64 (chk l)) ∧ Below w.heap.size w w' := by
  have h1 := PTrieGets.naskhref06_Check.calls (l.length + 1) A c (l.map toS) (chk l) w (by rw [List.length_map]; exact c_toS h) (by rw [List.length_map]; exact hc) (by
    unfold PTrieGets.naskhref06_Check.f chk
    rw [List.length_map]
    by_cases h4 : 4096 < l.length
    · rw [if_pos (by omega), if_pos h4]
    · rw [if_neg (by omega), if_neg h4]
      exact check_l h.2.1 _ 0 _ (by omega) (by omega))
  rw [List.length_map] at h1
  exact h1.mono fun e w' ⟨a, b⟩ => ⟨a, drawn_below b⟩
theorem p_rget {w : World} {A : Option Addr} {c : Nat} {l : List Rg} (h : Kd.C kR w A l.length l) (hc : l.length ≤ c) (hO : OkL l) (z x : Int) : Calls Try.prog 29 #[.slice A l.length c, .int .i64 z, .int .i64 x] w fun e w' => e = .returned (.int .i64 (valR l z x)) ∧ Below w.heap.size w w' := by
  have h1 := PTrieGets.naskhref06_Get.calls (l.length + 1) A c (l.map toS) z x (valR l z x) w (by rw [List.length_map]; exact c_toS h) (by rw [List.length_map]; exact hc) (get_l hO h.2.1 _ 0 (by omega) (by omega) (fun j hj => by omega))
  rw [List.length_map] at h1
  exact h1.mono fun e w' ⟨a, b⟩ => ⟨a, drawn_below b⟩
theorem p_req {w : World} {A A1 : Option Addr} {c c1 : Nat} {l : List Rg} (h : Kd.C kR w A l.length l) (hc : l.length ≤ c) (h1 : Kd.C kR w A1 l.length l) (hc1 : l.length ≤ c1) : Calls Try.prog 27 #[.slice A l.length c, .slice A1 l.length c1] w fun e w' => e = .returned (.bool true) ∧ Below w.heap.size w w' := by
  have h2 := PTrieGets.api_Range_27.calls (l.length + 1) A c (l.map toS) A1 c1 (l.map toS) true w (by rw [List.length_map]; exact c_toS h) (by rw [List.length_map]; exact hc) (by rw [List.length_map]; exact c_toS h1) (by rw [List.length_map]; exact hc1) (by
    unfold PTrieGets.api_Range_27.f
    rw [List.length_map, if_pos rfl]
    exact eq_l h.2.1 _ 0 (by omega) (by omega))
  rw [List.length_map] at h2
  exact h2.mono fun e w' ⟨a, b⟩ => ⟨a, drawn_below b⟩
theorem built_get {l : List Rg} {z : Int} {fs : List Int} {bs : List (List Int)} (h : Built l z fs bs) (hO : OkL l) (c : Int) : (if 0 ≤ c ∧ c ≤ 1114111 then tabv fs bs c else z) = valR l z c := by
  by_cases hc : 0 ≤ c ∧ c ≤ 1114111
  · rw [if_pos hc]; exact built_at h c hc.1 hc.2
  · rw [if_neg hc, valR_out (fun i hi => by have := hO.1 i hi; omega)]
theorem p_got {w : World} {g : Nat} {l : List Rg} {z : Int} {fs : List Int} {bs : List (List Int)} (hT : TabR w g fs bs z true) (hB : Built l z fs bs) (hO : OkL l) (c v : Int) (hv : valR l z c = v) : Calls Try.prog 28 #[.pointer (some ⟨g, 0, none⟩), .int .i64 c] w fun e w' => e = .returned (.int .i64 v) ∧ Below w.heap.size w w' := by
  have h := p_get hT hB.1 c
  rw [built_get hB hO c, hv] at h
  exact h
theorem p_clone {w : World} {A : Option Addr} {c : Nat} {l : List Rg} (h : Kd.C kR w A l.length l) (hc : l.length ≤ c) (hl : l.length < 5864062014805) : Calls Try.prog 26 #[.slice A l.length c] w fun e w' => ∃ (A1 : Option Addr) (c1 : Nat), e = .returned (.slice A1 l.length c1) ∧ Kd.C kR w' A1 l.length l ∧ l.length ≤ c1 ∧ Below w.heap.size w w' := by
  have h1 := PTrieGets.api_Range_26.calls A c (l.map toS) (l.map toS) w (by rw [List.length_map]; exact c_toS h) (by rw [List.length_map]; exact hc) (by
    unfold PTrieGets.api_Range_26.f
    rw [Option.bind_some, if_pos (by simp; omega), List.nil_append])
  rw [List.length_map] at h1
  refine h1.mono fun e w' ⟨v0, he, hR, hb⟩ => ?_
  obtain ⟨A1, c1, e1, hc1, hC1⟩ := Kd.R_reads hR
  rw [List.length_map] at e1 hc1 hC1
  have h3 := c_toR hC1
  rw [toRS] at h3
  exact ⟨A1, c1, by rw [he, e1], h3, hc1, hb⟩
end Go.Proofs.Ytljcohjafcjgdaa.Stk
