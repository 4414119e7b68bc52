/- The trie: the reference's Blocks (over the print of TrieBlocks). -/
import Derived.Test.YtljcohjafcjgdaaTrG1
import Derived.Test.YtljcohjafcjgdaaPTrieBlocksx2
namespace Go.Proofs.Ytljcohjafcjgdaa.Stk
open Go.RowKit Go.Proofs.YtljcohjafcjgdaaW.PrintWords Go.Proofs.YtljcohjafcjgdaaW.PrintLast Go.Proofs.YtljcohjafcjgdaaW.PrintMore
attribute [local go_sem] max2_int min2_int max_two min_two max_three min_three max_four min_four   -- for this text's walks alone
set_option linter.unusedVariables false
set_option linter.unusedSimpArgs false
namespace B
open PTrieBlocks
def toS (r : Rg) : PTrieBlocks.S39 := ⟨r.lo, r.hi, r.va⟩
theorem c_toS {w : World} {A : Option Addr} {n : Nat} {l : List Rg} (h : Kd.C kR w A n l) : Kd.C PTrieBlocks.k39 w A n (l.map toS) := C_map toS rfl (fun x cs hx => by obtain rfl := kR_open hx; exact PTrieBlocks.k39_mk _ _) h
theorem rd_toS {l : List Rg} {i : Nat} (h : i < l.length) : PTrieBlocks.rd_T39 (l.map toS) (i : Int) = toS (rgAt l i) := by
  unfold PTrieBlocks.rd_T39 rgAt
  rw [Int.toNat_natCast]
  simp [List.getD, h]
theorem get_l {l : List Rg} {z c : Int} (hO : OkL l) (hn : l.length ≤ 9223372036854775807) : ∀ (k i : Nat), l.length + 1 ≤ k + i → i ≤ l.length → (∀ j, j < i → ¬ ((rgAt l j).lo ≤ c ∧ c ≤ (rgAt l j).hi)) → PTrieBlocks.naskhref06_Get.l0 k (l.map toS) z c (i : Int) = some (valR l z c)
  | 0, i, h, h2, _ => by omega
  | k + 1, i, h, h2, hb => by
    unfold PTrieBlocks.naskhref06_Get.l0
    rw [List.length_map]
    by_cases hi : i < l.length
    · rw [if_pos (by omega), if_pos (by omega), rd_toS hi, up1 hi hn]
      show (if c ≥ (rgAt l i).lo then (if c ≤ (rgAt l i).hi then some (rgAt l i).va else PTrieBlocks.naskhref06_Get.l0 k (l.map toS) z c ((i + 1 : Nat) : Int)) else PTrieBlocks.naskhref06_Get.l0 k (l.map toS) z c ((i + 1 : Nat) : Int)) = _
      by_cases h1 : c ≥ (rgAt l i).lo
      · rw [if_pos h1]
        by_cases h3 : c ≤ (rgAt l i).hi
        · rw [if_pos h3, valR_in hO hi h1 h3]
        · rw [if_neg h3, get_l hO hn k (i + 1) (by omega) (by omega) (fun j hj => by
            rcases Nat.lt_or_ge j i with h4 | h4
            · exact hb j h4
            · rw [show j = i by omega]; exact fun h5 => h3 h5.2)]
      · rw [if_neg h1, get_l hO hn k (i + 1) (by omega) (by omega) (fun j hj => by
          rcases Nat.lt_or_ge j i with h4 | h4
          · exact hb j h4
          · rw [show j = i by omega]; exact fun h5 => h1 h5.1)]
    · rw [if_neg (by omega), valR_out (fun j hj => hb j (by omega))]
/-- A part that no range reaches. -/
def PlainP (l : List Rg) (p : Nat) : Prop := ∀ i, i < l.length → ¬ ((rgAt l i).lo ≤ ((128 * p + 127 : Nat) : Int) ∧ (rgAt l i).hi ≥ ((128 * p : Nat) : Int))
theorem plain_blk {l : List Rg} {z : Int} {p q : Nat} (h : PlainP l p) (h2 : PlainP l q) : blkOf l z p = blkOf l z q := blk_eq fun k hk => by
  rw [valR_out (fun i hi => by have := h i hi; omega), valR_out (fun i hi => by have := h2 i hi; omega)]
theorem plain_l {l : List Rg} (hn : l.length ≤ 9223372036854775807) (p : Nat) (hp : p ≤ 8704) : ∀ (k i : Nat), l.length + 1 ≤ k + i → i ≤ l.length → (∀ j, j < i → ¬ ((rgAt l j).lo ≤ ((128 * p + 127 : Nat) : Int) ∧ (rgAt l j).hi ≥ ((128 * p : Nat) : Int))) → ∃ b, PTrieBlocks.naskhref06_plain.l0 k (l.map toS) (p : Int) (i : Int) = some b ∧ (b = true → PlainP l p)
  | 0, i, h, h2, _ => by omega
  | k + 1, i, h, h2, hb => by
    unfold PTrieBlocks.naskhref06_plain.l0
    rw [List.length_map, show wrap64 (128 * (p : Int)) = ((128 * p : Nat) : Int) by unfold wrap64; omega, show wrap64 (((128 * p : Nat) : Int) + 127) = ((128 * p + 127 : Nat) : Int) by unfold wrap64; omega]
    by_cases hi : i < l.length
    · rw [if_pos (by omega), if_pos (by omega), rd_toS hi, up1 hi hn]
      show ∃ b, (if (rgAt l i).lo ≤ ((128 * p + 127 : Nat) : Int) then (if (rgAt l i).hi ≥ ((128 * p : Nat) : Int) then some false else PTrieBlocks.naskhref06_plain.l0 k (l.map toS) (p : Int) ((i + 1 : Nat) : Int)) else PTrieBlocks.naskhref06_plain.l0 k (l.map toS) (p : Int) ((i + 1 : Nat) : Int)) = some b ∧ _
      by_cases h1 : (rgAt l i).lo ≤ ((128 * p + 127 : Nat) : Int)
      · rw [if_pos h1]
        by_cases h3 : (rgAt l i).hi ≥ ((128 * p : Nat) : Int)
        · rw [if_pos h3]; exact ⟨false, rfl, fun h => by simp at h⟩
        · rw [if_neg h3]
          exact plain_l hn p hp k (i + 1) (by omega) (by omega) (fun j hj => by
            rcases Nat.lt_or_ge j i with h4 | h4
            · exact hb j h4
            · rw [show j = i by omega]; exact fun h5 => h3 h5.2)
      · rw [if_neg h1]
        exact plain_l hn p hp k (i + 1) (by omega) (by omega) (fun j hj => by
          rcases Nat.lt_or_ge j i with h4 | h4
          · exact hb j h4
          · rw [show j = i by omega]; exact fun h5 => h1 h5.1)
    · rw [if_neg (by omega)]
      exact ⟨true, rfl, fun _ i hi => hb i (by omega)⟩
theorem alike_l {l : List Rg} {z : Int} (hO : OkL l) (hl : l.length ≤ 4096) (a b : Nat) (ha : a ≤ 8704) (hb : b ≤ 8704) : ∀ (k i : Nat), l.length + 131 ≤ k + i → i ≤ 128 → (∀ j, j < i → valR l z ((128 * a + j : Nat) : Int) = valR l z ((128 * b + j : Nat) : Int)) → PTrieBlocks.naskhref06_alike.l0 k (l.map toS) z (a : Int) (b : Int) (i : Int) = some (decide (blkOf l z a = blkOf l z b))
  | 0, i, h, h2, _ => by omega
  | k + 1, i, h, h2, hj => by
    unfold PTrieBlocks.naskhref06_alike.l0
    by_cases hi : i < 128
    · rw [if_pos (by omega), show wrap64 (128 * (a : Int)) = ((128 * a : Nat) : Int) by unfold wrap64; omega, show wrap64 (128 * (b : Int)) = ((128 * b : Nat) : Int) by unfold wrap64; omega, show wrap64 (((128 * a : Nat) : Int) + (i : Int)) = ((128 * a + i : Nat) : Int) by unfold wrap64; omega, show wrap64 (((128 * b : Nat) : Int) + (i : Int)) = ((128 * b + i : Nat) : Int) by unfold wrap64; omega, show wrap64 ((i : Int) + 1) = ((i + 1 : Nat) : Int) by unfold wrap64; omega]
      unfold PTrieBlocks.naskhref06_Get.f
      have g1 := fun c => get_l (l := l) (z := z) (c := c) hO (by omega) k 0 (by omega) (by omega) (fun j hj => by omega)
      rw [Int.natCast_zero] at g1
      rw [g1, g1, Option.bind_some, Option.bind_some]
      by_cases e : valR l z ((128 * a + i : Nat) : Int) = valR l z ((128 * b + i : Nat) : Int)
      · rw [if_pos e]
        exact alike_l hO hl a b ha hb k (i + 1) (by omega) (by omega) (fun j h4 => by
          rcases Nat.lt_or_ge j i with h5 | h5
          · exact hj j h5
          · rw [show j = i by omega]; exact e)
      · rw [if_neg e, decide_eq_false (blk_ne hi e)]
    · rw [if_neg (by omega), decide_eq_true (blk_eq fun k hk => hj k (by omega))]
/-- While the reference counts: the parts that it has seen. -/
def SI (l : List Rg) (z : Int) (qs : List Nat) (e : Bool) (p : Nat) : Prop := (qs.map (blkOf l z)).Nodup ∧ (∀ q, q ∈ qs → q < p) ∧ (∀ q, q < p → ∃ s, s ∈ qs ∧ blkOf l z s = blkOf l z q) ∧ (e = true → ∃ q, q < p ∧ PlainP l q) ∧ qs.length ≤ p
theorem si_old {l : List Rg} {z : Int} {qs : List Nat} {e e' : Bool} {p : Nat} (h : SI l z qs e p) (he : e' = true → ∃ q, q < p + 1 ∧ PlainP l q) (hs : ∃ s, s ∈ qs ∧ blkOf l z s = blkOf l z p) : SI l z qs e' (p + 1) :=
  ⟨h.1, fun q hq => by have := h.2.1 q hq; omega, fun q hq => by
    rcases Nat.lt_or_ge q p with h1 | h1
    · exact h.2.2.1 q h1
    · rw [show q = p by omega]; exact hs, he, by have := h.2.2.2.2; omega⟩
theorem si_new {l : List Rg} {z : Int} {qs : List Nat} {e e' : Bool} {p : Nat} (h : SI l z qs e p) (he : e' = true → ∃ q, q < p + 1 ∧ PlainP l q) (hs : ∀ s, s ∈ qs → blkOf l z s ≠ blkOf l z p) : SI l z (qs ++ [p]) e' (p + 1) := by
  refine ⟨?_, fun q hq => ?_, fun q hq => ?_, he, by have := h.2.2.2.2; simp; omega⟩
  · rw [List.map_append]
    refine List.nodup_append.2 ⟨h.1, by simp, fun a ha b hb => ?_⟩
    obtain ⟨s, h1, rfl⟩ := List.mem_map.1 ha
    simp at hb
    subst hb
    exact hs s h1
  · rcases List.mem_append.1 hq with h1 | h1
    · have := h.2.1 q h1; omega
    · simp at h1; omega
  · rcases Nat.lt_or_ge q p with h1 | h1
    · obtain ⟨s, h2, h3⟩ := h.2.2.1 q h1
      exact ⟨s, List.mem_append.2 (.inl h2), h3⟩
    · exact ⟨p, by simp, by rw [show q = p by omega]⟩
theorem l1_f {l : List Rg} {z : Int} (hO : OkL l) (hl : l.length ≤ 4096) {N : Int} {F p : Nat} (hp : p < 8704) (H : ∀ k qs e, F ≤ k → SI l z qs e (p + 1) → PTrieBlocks.naskhref06_Blocks.l0 k (l.map toS) z (qs.map Nat.cast) e ((p + 1 : Nat) : Int) = some N) {qs : List Nat} {e e0 : Bool} (h : SI l z qs e0 p) (he : e = true → ∃ q, q < p + 1 ∧ PlainP l q) :
    ∀ (k i : Nat) (f : Bool), F + qs.length + 5000 ≤ k + i → i ≤ qs.length → (f = true → ∃ s, s ∈ qs ∧ blkOf l z s = blkOf l z p) → (f = false → ∀ j, j < i → blkOf l z (qs.getD j 0) ≠ blkOf l z p) → PTrieBlocks.naskhref06_Blocks.l1 k (l.map toS) z (qs.map Nat.cast) e (p : Int) f (i : Int) = some N
  | 0, i, f, h1, h2, h3, h4 => by omega
  | k + 1, i, f, h1, h2, h3, h4 => by
    unfold PTrieBlocks.naskhref06_Blocks.l1
    rw [List.length_map, show wrap64 ((p : Int) + 1) = ((p + 1 : Nat) : Int) by unfold wrap64; omega]
    have hq := h.2.2.2.2
    cases f with
    | true =>
      rw [if_pos rfl]
      have h5 := H k qs e (by omega) (si_old h he (h3 rfl))
      split <;> first | exact h5 | (rw [if_pos rfl]; exact h5)
    | false =>
      by_cases hi : i < qs.length
      · rw [if_pos (by omega), if_neg (by simp), if_pos (by omega), show wrap64 ((i : Int) + 1) = ((i + 1 : Nat) : Int) by unfold wrap64; omega]
        have er : rd (qs.map Nat.cast) (i : Int) = ((qs.getD i 0 : Nat) : Int) := by simp [rd, List.getD, hi]
        have hm : qs.getD i 0 ∈ qs := by simp [List.getD, hi]
        have hlt := h.2.1 _ hm
        unfold PTrieBlocks.naskhref06_alike.f
        have g1 := alike_l (z := z) hO hl (qs.getD i 0) p (by omega) (by omega) k 0 (by omega) (by omega) (fun j hj => by omega)
        rw [Int.natCast_zero] at g1
        rw [er, g1, Option.bind_some]
        refine l1_f hO hl hp H h he k (i + 1) _ (by omega) (by omega) (fun hd => ⟨_, hm, of_decide_eq_true hd⟩) (fun hd j hj => ?_)
        rcases Nat.lt_or_ge j i with h5 | h5
        · exact h4 rfl j h5
        · rw [show j = i by omega]; exact of_decide_eq_false hd
      · rw [if_neg (by omega), if_neg (by simp), if_pos (by omega)]
        have h5 := H k (qs ++ [p]) e (by omega) (si_new h he (fun s hs => by
          obtain ⟨j, hj, ej⟩ := List.mem_iff_getElem.1 hs
          have := h4 rfl j (by omega)
          rw [List.getD_eq_getElem?_getD, List.getElem?_eq_getElem hj] at this
          rw [← ej]; exact this))
        rw [List.map_append] at h5
        exact h5
set_option maxRecDepth 100000 in
theorem l0_f {l : List Rg} {z : Int} (hO : OkL l) (hl : l.length ≤ 4096) {fs : List Int} {bs : List (List Int)} (hB : Built l z fs bs) : ∀ (n p k : Nat) (qs : List Nat) (e : Bool), p + n = 8704 → n * 20000 + 20000 ≤ k → SI l z qs e p → PTrieBlocks.naskhref06_Blocks.l0 k (l.map toS) z (qs.map Nat.cast) e (p : Int) = some (bs.length : Int) := by
  intro n
  induction n with
  | zero =>
    intro p k qs e h1 h2 h3
    obtain ⟨k, rfl⟩ : ∃ k', k = k' + 1 := ⟨k - 1, by omega⟩
    unfold PTrieBlocks.naskhref06_Blocks.l0
    rw [if_neg (by unfold wrap64; omega), List.length_map, built_len hB qs h3.1 (fun q hq => by have := h3.2.1 q hq; omega) (fun q hq => h3.2.2.1 q (by omega))]
  | succ n ih =>
    intro p k qs e h1 h2 h3
    obtain ⟨k, rfl⟩ : ∃ k', k = k' + 1 := ⟨k - 1, by omega⟩
    have hkk : n * 20000 + 20000 ≤ k := by omega
    have H : ∀ k qs e, n * 20000 + 20000 ≤ k → SI l z qs e (p + 1) → PTrieBlocks.naskhref06_Blocks.l0 k (l.map toS) z (qs.map Nat.cast) e ((p + 1 : Nat) : Int) = some (bs.length : Int) := fun k qs e hk hs => ih (p + 1) k qs e (by omega) hk hs
    have hq := h3.2.2.2.2
    unfold PTrieBlocks.naskhref06_Blocks.l0
    have hp0 := plain_l (l := l) (by omega) p (by omega) k 0 (by omega) (by omega) (fun j hj => by omega)
    rw [Int.natCast_zero] at hp0
    obtain ⟨b, hb, hpl⟩ := hp0
    rw [if_pos (by unfold wrap64; omega), show PTrieBlocks.naskhref06_plain.f k (l.map toS) (p : Int) = some b from hb, Option.bind_some]
    have J : ∀ e', (e' = true → ∃ q, q < p + 1 ∧ PlainP l q) → PTrieBlocks.naskhref06_Blocks.j1 k (l.map toS) z (qs.map Nat.cast) e' (p : Int) = some (bs.length : Int) := fun e' he' => by
      obtain ⟨k, rfl⟩ : ∃ k', k = k' + 1 := ⟨k - 1, by omega⟩
      unfold PTrieBlocks.naskhref06_Blocks.j1
      exact l1_f hO hl (by omega) H h3 he' k 0 false (by omega) (by omega) (fun h => by simp at h) (fun _ j hj => by omega)
    have hold : e = true → ∃ q, q < p + 1 ∧ PlainP l q := fun he => by obtain ⟨q, h4, h5⟩ := h3.2.2.2.1 he; exact ⟨q, by omega, h5⟩
    cases b with
    | false => rw [if_neg (by simp)]; exact J e hold
    | true =>
      rw [if_pos rfl]
      cases e with
      | false => rw [if_neg (by simp)]; exact J true (fun _ => ⟨p, by omega, hpl rfl⟩)
      | true =>
        rw [if_pos rfl, show wrap64 ((p : Int) + 1) = ((p + 1 : Nat) : Int) by unfold wrap64; omega]
        refine H k qs true hkk (si_old h3 hold ?_)
        obtain ⟨q, h4, h5⟩ := h3.2.2.2.1 rfl
        obtain ⟨s, h6, h7⟩ := h3.2.2.1 q h4
        exact ⟨s, h6, h7.trans (plain_blk h5 (hpl rfl))⟩
def fuelB : Nat := 174100000
theorem fuelB_is : 174100000 ≤ fuelB := Nat.le_refl _
theorem p_rblocks {w : World} {A : Option Addr} {c : Nat} {l : List Rg} (h : Kd.C kR w A l.length l) (hc : l.length ≤ c) (hO : OkL l) (hl : l.length ≤ 4096) {z : Int} {fs : List Int} {bs : List (List Int)} (hB : Built l z fs bs) : Calls Try.prog 16 #[.slice A l.length c, .int .i64 z] w fun e w' => e = .returned (.int .i64 (bs.length : Int)) ∧ Below w.heap.size w w' := by
  have hK := fuelB_is
  generalize fuelB = K at hK
  have h1 := PTrieBlocks.naskhref06_Blocks.calls K A c (l.map toS) z (bs.length : Int) w (by rw [List.length_map]; exact c_toS h) (by rw [List.length_map]; exact hc) (l0_f hO hl hB 8704 0 K [] false rfl hK ⟨List.nodup_nil, fun q hq => by simp at hq, fun q hq => by omega, fun h => by simp at h, Nat.le_refl _⟩)
  rw [List.length_map] at h1
  exact h1
end B
end Go.Proofs.Ytljcohjafcjgdaa.Stk
