/- The trie: a part's numbers. -/
import Derived.Test.YtmkgihmchkphaaaTrP4
namespace Go.Proofs.Ytmkgihmchkphaaa.Stk
open Go.RowKit Go.Proofs.YtmkgihmchkphaaaW.PrintWords Go.Proofs.YtmkgihmchkphaaaW.PrintLast Go.Proofs.YtmkgihmchkphaaaW.PrintMore
attribute [local go_sem] max2_int min2_int max_two min_two max_three min_three max_four min_four   -- for this text's walks alone
set_option linter.unusedVariables false
set_option linter.unusedSimpArgs false
theorem zero_rng : (Try.prog.info? 66).map (·.zero) = some (some (.agg #[.int .i64 0, .int .i64 0, .int .i64 0])) := by kernel_rfl
theorem size_rng : (Try.prog.info? 66).map (·.size) = some 3 := by kernel_rfl
theorem rep_at (z : Int) (j : Nat) (hj : j < 128) : (rep z).getD j 0 = z := by
  unfold rep
  rw [List.getD_eq_getElem?_getD, List.getElem?_replicate, if_pos hj]; rfl
theorem set_at (b : List Int) (k j : Nat) (v : Int) (hj : j < b.length) : (b.set k v).getD j 0 = if k = j then v else b.getD j 0 := by
  by_cases e : k = j
  · subst e; simp [List.getD, hj]
  · rw [if_neg e]; simp [List.getD, List.getElem?_set_ne e]
theorem blk_is {l : List Rg} {z : Int} {p : Nat} {b : List Int} (hl : b.length = 128) (h : ∀ k, k < 128 → b.getD k 0 = valR l z ((128 * p + k : Nat) : Int)) : b = blkOf l z p := by
  apply List.ext_getElem (by rw [hl, blkOf_len])
  intro k h1 h2
  have h3 := h k (by omega)
  have h4 := blkOf_at l z p k (by omega)
  rw [← h4] at h3
  simpa [List.getD, h1, h2] using h3
def FilR (w : World) (l : List Rg) (p : Nat) (z : Int) (e : Ending) (w' : World) : Prop :=
  ∃ m : Nat, e = .returned (.tuple #[.agg (arr (blkOf l z p)), .int .i64 (m : Int)]) ∧ m ≤ l.length ∧ (∀ j, j < m → (rgAt l j).hi < ((128 * (p + 1) : Nat) : Int)) ∧ Below w.heap.size w w'
/-- How far the first m ranges have filled a part. -/
def Fil (l : List Rg) (z : Int) (p m : Nat) (b : List Int) : Prop := m ≤ l.length ∧ b.length = 128 ∧ (∀ k, k < 128 → b.getD k 0 = valR (l.take m) z ((128 * p + k : Nat) : Int)) ∧ ∀ j, j < m → (rgAt l j).hi < ((128 * (p + 1) : Nat) : Int)
/-- Within a range: its codes from the first one on, ahead of c. -/
def FilIn (l : List Rg) (z : Int) (p m : Nat) (b : List Int) (mx mn c : Int) : Prop := b.length = 128 ∧ mx ≤ c ∧ (c ≤ mn + 1 ∨ c = mx) ∧ ∀ k, k < 128 → b.getD k 0 = if mx ≤ ((128 * p + k : Nat) : Int) ∧ ((128 * p + k : Nat) : Int) < c then (rgAt l m).va else valR (l.take m) z ((128 * p + k : Nat) : Int)
theorem fil_end {l : List Rg} {z : Int} {p m : Nat} {b : List Int} (hO : OkL l) (h : Fil l z p m b) (hm : m < l.length → ((128 * (p + 1) : Nat) : Int) ≤ (rgAt l m).lo) : b = blkOf l z p := by
  refine blk_is h.2.1 (fun k hk => (h.2.2.1 k hk).trans (valR_end fun j h1 h2 => ?_))
  have h3 := hm (by omega)
  rcases Nat.lt_or_ge m j with h4 | h4
  · have h5 := hO.2 m j h4 h2
    have h6 := (hO.1 m (by omega)).2.1
    omega
  · have e : m = j := by omega
    subst e
    omega
theorem fil_begin {l : List Rg} {z : Int} {p m : Nat} (hm : m ≤ l.length) (h : ∀ j, j < m → (rgAt l j).hi < ((128 * p : Nat) : Int)) : Fil l z p m (rep z) := by
  refine ⟨hm, rep_len, fun k hk => ?_, fun j hj => by have := h j hj; omega⟩
  rw [rep_at z k hk, valR_none]
  intro r hr
  obtain ⟨j, hj, e⟩ := List.mem_iff_getElem.1 hr
  rw [List.length_take] at hj
  have := h j (by omega)
  have e2 : rgAt l j = r := by rw [← e]; simp [rgAt, List.getD, show j < l.length by omega]
  rw [e2] at this
  omega
theorem filin_begin {l : List Rg} {z : Int} {p m : Nat} {b : List Int} {mx mn : Int} (h : Fil l z p m b) : FilIn l z p m b mx mn mx :=
  ⟨h.2.1, Int.le_refl _, .inr rfl, fun k hk => by rw [if_neg (by omega)]; exact h.2.2.1 k hk⟩
theorem filin_next {l : List Rg} {z : Int} {p m k0 : Nat} {b : List Int} {mx mn c : Int} (h : FilIn l z p m b mx mn c) (hc : c ≤ mn) (hk : c = ((128 * p + k0 : Nat) : Int)) (hk0 : k0 < 128) : FilIn l z p m (b.set k0 (rgAt l m).va) mx mn (c + 1) := by
  refine ⟨by rw [List.length_set]; exact h.1, by have := h.2.1; omega, .inl (by omega), fun k hk1 => ?_⟩
  rw [set_at _ _ _ _ (by rw [h.1]; exact hk1)]
  have h2 := h.2.1
  by_cases e : k0 = k
  · subst e; rw [if_pos rfl, if_pos (by omega)]
  · rw [if_neg e, h.2.2.2 k hk1]
    congr 1
    apply propext
    omega
/-- A range is done: it goes on behind the part, or the next one follows. -/
theorem filin_end {l : List Rg} {z : Int} {p m : Nat} {b : List Int} {mx mn c : Int} (h : FilIn l z p m b mx mn c) (hm : m < l.length) (hc : ¬ c ≤ mn) (hmx : mx = if (rgAt l m).lo < ((128 * p : Nat) : Int) then ((128 * p : Nat) : Int) else (rgAt l m).lo) (hmn : mn = if ((128 * p + 127 : Nat) : Int) < (rgAt l m).hi then ((128 * p + 127 : Nat) : Int) else (rgAt l m).hi) :
    b.length = 128 ∧ ∀ k, k < 128 → b.getD k 0 = valR (l.take (m + 1)) z ((128 * p + k : Nat) : Int) := by
  refine ⟨h.1, fun k hk => ?_⟩
  rw [valR_take hm, h.2.2.2 k hk]
  have h2 := h.2.1
  have h3 := h.2.2.1
  congr 1
  apply propext
  split at hmx <;> split at hmn <;> omega
theorem fil_next {l : List Rg} {z : Int} {p m : Nat} {b : List Int} (h0 : ∀ j, j < m → (rgAt l j).hi < ((128 * (p + 1) : Nat) : Int)) (h : b.length = 128 ∧ ∀ k, k < 128 → b.getD k 0 = valR (l.take (m + 1)) z ((128 * p + k : Nat) : Int)) (hm : m < l.length) (hh : (rgAt l m).hi < ((128 * (p + 1) : Nat) : Int)) : Fil l z p (m + 1) b := by
  refine ⟨hm, h.1, h.2, fun j hj => ?_⟩
  rcases Nat.lt_or_ge j m with h1 | h1
  · exact h0 j h1
  · rw [show j = m by omega]; exact hh
theorem fil_break {l : List Rg} {z : Int} {p m : Nat} {b : List Int} (hO : OkL l) (h : b.length = 128 ∧ ∀ k, k < 128 → b.getD k 0 = valR (l.take (m + 1)) z ((128 * p + k : Nat) : Int)) (hm : m < l.length) (hh : ¬ (rgAt l m).hi < ((128 * (p + 1) : Nat) : Int)) : b = blkOf l z p := by
  refine blk_is h.1 (fun k hk => (h.2 k hk).trans (valR_end fun j h1 h2 => ?_))
  have h3 := hO.2 m j (by omega) h2
  omega
set_option maxHeartbeats 8000000 in
set_option maxRecDepth 100000 in
theorem p_filled {w : World} {A : Option Addr} {cc : Nat} {l : List Rg} (hC : Kd.C kR w A l.length l) (hO : OkL l) (hlen : l.length ≤ 4096) (p : Nat) (hp : p < 8704) (m0 : Nat) (hm0 : m0 ≤ l.length) (hbef : ∀ j, j < m0 → (rgAt l j).hi < ((128 * p : Nat) : Int)) (z : Int) :
    Calls Try.prog 81 #[.slice A l.length cc, .int .i64 (p : Int), .int .i64 (m0 : Int), .int .i64 z] w (FilR w l p z) := by
  unfold FilR
  have HC := Aside0.mk hC
  have HO := Aside0.mk hO
  have HLEN := Aside0.mk hlen
  have HP := Aside0.mk hp
  have HF0 := Aside0.mk (fil_begin (z := z) hm0 hbef)
  obtain ⟨lo, hlo⟩ : ∃ lo : Int, lo = ((128 * p : Nat) : Int) := ⟨_, rfl⟩
  have HLO := Aside0.mk hlo
  have hw0 : IntKind.i64.wrap ((p : Int) * 128) = lo := (i64_w _).trans (by unfold wrap64; omega)
  obtain ⟨up, hup⟩ : ∃ up : Int, wrap64 (lo + 128) = up := ⟨_, rfl⟩
  have HUP := Aside0.mk (show up = lo + 128 by rw [← hup]; unfold wrap64; omega)
  replace hup : IntKind.i64.wrap (lo + 128) = up := (i64_w _).trans hup
  obtain ⟨um, hum⟩ : ∃ um : Int, wrap64 (up - 1) = um := ⟨_, rfl⟩
  have HUM := Aside0.mk (show um = lo + 127 by have := HUP.out; rw [← hum]; unfold wrap64; omega)
  replace hum : IntKind.i64.wrap (up - 1) = um := (i64_w _).trans hum
  have hk39 := Try.underlying66
  clear hC hO hlen hp hm0 hbef hlo
  go_enter Try.func81, Try.ntmps81
  go_wp2_with (first | ((with_reducible refine gate_dst (N := 8) rfl ?_); refine wp_alloc_arr rfl 107 rfl (rep 0) zero_blk ?_; intro g8 hg w1 hb hB; have H8 := Aside0.mk hb; have HB1 := Aside0.mk hB; have HG8 := Aside0.mk (show w.heap.size ≤ g8 by omega); clear hg hb hB) | (go_at_call 98; (with_reducible refine (p_even z _).mono ?_); rintro e w2 ⟨rfl, hb⟩; have H82 := Aside0.mk (blk_below H8.out hb); have HB2 := Aside0.mk (below_step HB1.out hb); clear hb) | ((with_reducible refine gate_dst (N := 10) rfl ?_); refine wp_alloc_arr rfl 107 rfl (rep 0) zero_blk ?_; intro g10 hg w3 hb hB; have H10 := Aside0.mk hb; have hl8 := blk_lt H82.out; have H83 := Aside0.mk (blk_below H82.out hB); have HB3 := Aside0.mk (below_step HB2.out hB); have HG10 := Aside0.mk (show w.heap.size ≤ g10 ∧ g8 ≠ g10 by have := HB2.out.size; omega); clear hg hb hB hl8) | ((with_reducible refine gate_store (t := 107) (p := 10) rfl ?_); refine wp_store_arr rfl 107 _ _ rfl rfl g10 (rep z) rfl rfl 107 _ H10.out 128 size_blk rep_len rep_len ?_; intro w4 h5 hw5; have H104 := Aside0.mk h5; have H84 := Aside0.mk (hw5.blk H83.out HG10.out.2); have HB4 := Aside0.mk (hw5.below HB3.out HG10.out.1); clear h5 hw5))
  go_loopg [2] (l.length + 1) (fun kq v2 w' => ∃ (m : Nat) (b : List Int), v2 = .int .i64 (m : Int) ∧ Aside0 (Fil l z p m b ∧ l.length + 1 - m ≤ kq) ∧ Aside0 (w'.heap[g10]? = some (.cells (arr b) 107 (0, 0))) ∧ Aside0 (w'.heap[g8]? = some (.cells (arr (rep 0)) 107 (0, 0))) ∧ Aside0 (Below w.heap.size w w'))
  case atStart => exact ⟨m0, _, rfl, ⟨HF0.out, Nat.sub_le _ _⟩, H104, H84, HB4⟩
  case round =>
    clear H104 H84 HB4 HF0
    obtain ⟨m, b, rfl, HF, HX10, HX8, HB⟩ := hrel
    have hm := HF.out.1.1
    have HBL := Aside0.mk HF.out.1.2.1
    by_cases hlt : m < l.length
    · have b0 : decide ((m : Int) < (l.length : Int)) = true := decide_eq_true (by omega)
      have b1 : decide (m < l.length) = true := decide_eq_true hlt
      have q0 := eq_true (show (m : Int) < (l.length : Int) by omega)
      have q1 := eq_true hlt
      have q2 := eq_true (show (0 : Int) ≤ (m : Int) by omega)
      obtain ⟨ad, e, x0_, x1_, x2_⟩ := at_Rg (Kd.C_below HC.out HB.out) m hlt
      cases e
      obtain ⟨x0, hx0⟩ : ∃ x, (rgAt l m).lo = x := ⟨_, rfl⟩
      obtain ⟨x1, hx1⟩ : ∃ x, (rgAt l m).hi = x := ⟨_, rfl⟩
      obtain ⟨x2, hx2⟩ : ∃ x, (rgAt l m).va = x := ⟨_, rfl⟩
      rw [hx0] at x0_
      rw [hx1] at x1_
      rw [hx2] at x2_
      have HX := Aside0.mk (And.intro hx0 (And.intro hx1 hx2))
      have HLT := Aside0.mk hlt
      have HOM := HO.out.1 m hlt
      rw [hx0, hx1] at HOM
      have HOM := Aside0.mk HOM
      clear hx0 hx1 hx2
      by_cases hin : x0 < up
      · have b2 : decide (x0 < up) = true := decide_eq_true hin
        obtain ⟨mx, hmx⟩ : ∃ mx, (if x0 < lo then lo else x0) = mx := ⟨_, rfl⟩
        obtain ⟨mn, hmn⟩ : ∃ mn, (if um < x1 then um else x1) = mn := ⟨_, rfl⟩
        have HMX := Aside0.mk hmx
        have HMN := Aside0.mk hmn
        have HIN_ := Aside0.mk hin
        clear hlt hm hin
        go_wp2_with (first | ((with_reducible refine gate_dst (N := 12) rfl ?_); refine wp_alloc_cells rfl 66 rfl _ zero_rng ?_; intro g12 hg w5 hb hB; have H12 := Aside0.mk hb; have HL10 := blk_lt HX10.out; have H105 := Aside0.mk (blk_below HX10.out hB); have H85 := Aside0.mk (blk_below HX8.out hB); have HB5 := Aside0.mk (below_step HB.out hB); have HG12 := Aside0.mk (show w.heap.size ≤ g12 ∧ g10 ≠ g12 ∧ g8 ≠ g12 by have := HB.out.size; have := blk_lt HX8.out; omega); have c0 := (blk_cell H12.out 0).trans rfl; have c1 := (blk_cell H12.out 1).trans rfl; have c2 := (blk_cell H12.out 2).trans rfl; have f0 := blk_frozen H12.out 0; have f1 := blk_frozen H12.out 1; have f2 := blk_frozen H12.out 2; clear hg hb hB HL10))
        clear x0_ x1_ x2_ q0 q1 q2 b0 b1 b2
        go_loopg [13] (mn + 1 - mx).toNat (fun kq v13 w' => ∃ (c : Int) (b : List Int), v13 = .int .i64 c ∧ Aside0 (FilIn l z p m b mx mn c ∧ (mn + 1 - c).toNat ≤ kq) ∧ Aside0 (w'.heap[g10]? = some (.cells (arr b) 107 (0, 0))) ∧ Aside0 (w'.heap[g12]? = some (.cells #[.int .i64 x0, .int .i64 x1, .int .i64 x2] 66 (0, 0))) ∧ Aside0 (w'.heap[g8]? = some (.cells (arr (rep 0)) 107 (0, 0))) ∧ Aside0 (Below w.heap.size w w'))
        case atStart =>
          have hw5 := ((Wrote.set w5 g12 0 (.int .i64 x0)).trans (Wrote.set _ g12 1 (.int .i64 x1))).trans (Wrote.set _ g12 2 (.int .i64 x2))
          exact ⟨mx, b, rfl, ⟨filin_begin HF.out.1, Nat.le_refl _⟩, ⟨hw5.blk H105.out HG12.out.2.1⟩, ⟨(blk_set (blk_set (blk_set H12.out 0 _) 1 _) 2 _).trans rfl⟩, ⟨hw5.blk H85.out HG12.out.2.2⟩, ⟨hw5.below HB5.out HG12.out.1⟩⟩
        case round =>
          clear HX10 HX8 HB H12 H105 H85 HB5 HBL c0 c1 c2 f0 f1 f2
          have HFJ := Aside0.mk HF.out.1.2.2.2
          have HFK := Aside0.mk HF.out.2
          clear HF
          obtain ⟨c, b, rfl, HIN, HX10, HX12, HX8, HB⟩ := hrel
          have HBL := Aside0.mk HIN.out.1.1
          have k1 := (blk_cell HX12.out 1).trans rfl
          have k2 := (blk_cell HX12.out 2).trans rfl
          have hcl := HIN.out.1.2.1
          have hmxl : lo ≤ mx := by rw [← hmx]; split <;> omega
          have hmnu : mn ≤ um := by rw [← hmn]; split <;> omega
          by_cases hc : c ≤ mn
          · have d0 : decide (c ≤ mn) = true := decide_eq_true hc
            obtain ⟨k, hk⟩ : ∃ k : Nat, c - lo = (k : Int) := ⟨(c - lo).toNat, by omega⟩
            have hlv := HLO.out
            have hpv := HP.out
            have huv := HUM.out
            have hwk : IntKind.i64.wrap (c - lo) = (k : Int) := (i64_w _).trans (by rw [hk]; unfold wrap64; omega)
            have hk0 : k < 128 := by omega
            have HK0 := Aside0.mk hk0
            have hwc : IntKind.i64.wrap (c + 1) = c + 1 := (i64_w _).trans (by unfold wrap64; omega)
            have e0 := eq_true (show (0 : Int) ≤ (k : Int) by omega)
            have e1 := eq_true (show (k : Int) < 128 by omega)
            have HNX := Aside0.mk (filin_next HIN.out.1 hc (k0 := k) (by omega) hk0)
            rw [HX.out.2.2] at HNX
            have HMC := Aside0.mk (show (mn + 1 - (c + 1)).toNat < (mn + 1 - c).toNat by omega)
            clear hk hk0 hc hcl hmxl hmnu hlv hpv huv
            obtain ⟨b0_, hb0_⟩ : ∃ v, (arr b)[k]? = some v := ⟨_, arr_get b k (by rw [HBL.out]; exact HK0.out)⟩
            have c0 := (blk_cell HX10.out k).trans hb0_
            have f0 := blk_frozen HX10.out k
            clear hb0_
            go_wp2
            have hw7 := Wrote.set wr g10 k (.int .i64 x2)
            go_roundg (mn + 1 - (c + 1)).toNat
            case measure => have h1_ := HIN.out.2; have h2_ := HMC.out; omega
            case rel => exact ⟨c + 1, _, by first | rfl | rw [hwc], ⟨HNX.out, Nat.le_refl _⟩, ⟨(blk_set HX10.out k _).trans (by rw [arr_set])⟩, ⟨hw7.blk HX12.out (Ne.symm HG12.out.2.1)⟩, ⟨hw7.blk HX8.out HG10.out.2⟩, ⟨hw7.below HB.out HG10.out.1⟩⟩
          · have d0 : decide (c ≤ mn) = false := decide_eq_false hc
            have HFE := Aside0.mk (filin_end HIN.out.1 HLT.out hc (by rw [HX.out.1, ← HLO.out]; exact hmx.symm) (by rw [HX.out.2.1, show ((128 * p + 127 : Nat) : Int) = um by have := HLO.out; have := HUM.out; omega]; exact hmn.symm))
            clear hc hcl hmxl hmnu
            by_cases hbr : up ≤ x1
            · have d1 : decide (x1 ≥ up) = true := decide_eq_true hbr
              have d2 : decide (up ≤ x1) = true := decide_eq_true hbr
              have HE := Aside0.mk (fil_break HO.out HFE.out HLT.out (by rw [HX.out.2.1]; have := HLO.out; have := HUP.out; omega))
              have HM := Aside0.mk (And.intro (Nat.le_of_lt HLT.out) HFJ.out)
              clear hbr
              go_wp2_with (first | ((with_reducible refine gate_dst (N := 63) rfl ?_); refine wp_load_arr rfl 107 _ rfl g10 rfl 107 b HX10.out 128 3 Try.underlying107 size_blk HBL.out ?_) | ((with_reducible refine gate_store (t := 107) (p := 8) rfl ?_); refine wp_store_arr rfl 107 _ _ rfl rfl g8 b rfl rfl 107 _ HX8.out 128 size_blk HBL.out rep_len ?_; intro w9 h5 hw5; have HX9 := Aside0.mk h5; have HB9 := Aside0.mk (hw5.below HB.out HG8.out); clear h5 hw5))
              (try simp only [Exit.inBlock, Exit.then])
              refine bodyPost_ret (results_list (rs := [.cell 8 107, .tmp 9]) rfl (by simp) (.cell g8 107 (arr b) (0, 0) _ rfl HX9.out Try.underlying107 rfl (by rw [size_blk, arr_size, HBL.out]) (.tmp .nil))) rfl ?_
              exact ⟨m, by rw [HE.out]; rfl, HM.out.1, HM.out.2, HB9.out⟩
            · have d1 : decide (x1 ≥ up) = false := decide_eq_false hbr
              have d2 : decide (up ≤ x1) = false := decide_eq_false hbr
              have HFN := Aside0.mk (fil_next HFJ.out HFE.out HLT.out (by rw [HX.out.2.1]; have := HLO.out; have := HUP.out; omega))
              have hwm := (show wrap64 ((m : Int) + 1) = ((m + 1 : Nat) : Int) by have := HLT.out; have := HLEN.out; unfold wrap64; omega)
              clear hbr
              go_wp2
              go_roundg (l.length + 1 - (m + 1))
              case measure => have h1_ := HFK.out; have h2_ := HLT.out; omega
              case rel => exact ⟨m + 1, b, by first | rfl | go_num | rw [hwm], ⟨HFN.out, Nat.le_refl _⟩, HX10, HX8, HB⟩
      · have b2 : decide (x0 < up) = false := decide_eq_false hin
        have HE := Aside0.mk (fil_end HO.out HF.out.1 (fun _ => by rw [HX.out.1]; have := HLO.out; have := HUP.out; omega))
        have HM := Aside0.mk (And.intro hm HF.out.1.2.2.2)
        clear hlt hm hin
        go_wp2_with (first | ((with_reducible refine gate_dst (N := 63) rfl ?_); refine wp_load_arr rfl 107 _ rfl g10 rfl 107 b HX10.out 128 3 Try.underlying107 size_blk HBL.out ?_) | ((with_reducible refine gate_store (t := 107) (p := 8) rfl ?_); refine wp_store_arr rfl 107 _ _ rfl rfl g8 b rfl rfl 107 _ HX8.out 128 size_blk HBL.out rep_len ?_; intro w9 h5 hw5; have HX9 := Aside0.mk h5; have HB9 := Aside0.mk (hw5.below HB.out HG8.out); clear h5 hw5))
        (try simp only [Exit.inBlock, Exit.then])
        refine bodyPost_ret (results_list (rs := [.cell 8 107, .tmp 9]) rfl (by simp) (.cell g8 107 (arr b) (0, 0) _ rfl HX9.out Try.underlying107 rfl (by rw [size_blk, arr_size, HBL.out]) (.tmp .nil))) rfl ?_
        exact ⟨m, by rw [HE.out]; rfl, HM.out.1, HM.out.2, HB9.out⟩
    · have b0 : decide ((m : Int) < (l.length : Int)) = false := decide_eq_false (by omega)
      have b1 : decide (m < l.length) = false := decide_eq_false hlt
      have HE := Aside0.mk (fil_end HO.out HF.out.1 (fun h => absurd h hlt))
      have HM := Aside0.mk (And.intro hm HF.out.1.2.2.2)
      clear hlt hm
      go_wp2_with (first | ((with_reducible refine gate_dst (N := 63) rfl ?_); refine wp_load_arr rfl 107 _ rfl g10 rfl 107 b HX10.out 128 3 Try.underlying107 size_blk HBL.out ?_) | ((with_reducible refine gate_store (t := 107) (p := 8) rfl ?_); refine wp_store_arr rfl 107 _ _ rfl rfl g8 b rfl rfl 107 _ HX8.out 128 size_blk HBL.out rep_len ?_; intro w9 h5 hw5; have HX9 := Aside0.mk h5; have HB9 := Aside0.mk (hw5.below HB.out HG8.out); clear h5 hw5))
      (try simp only [Exit.inBlock, Exit.then])
      refine bodyPost_ret (results_list (rs := [.cell 8 107, .tmp 9]) rfl (by simp) (.cell g8 107 (arr b) (0, 0) _ rfl HX9.out Try.underlying107 rfl (by rw [size_blk, arr_size, HBL.out]) (.tmp .nil))) rfl ?_
      exact ⟨m, by rw [HE.out]; rfl, HM.out.1, HM.out.2, HB9.out⟩
end Go.Proofs.Ytmkgihmchkphaaa.Stk
