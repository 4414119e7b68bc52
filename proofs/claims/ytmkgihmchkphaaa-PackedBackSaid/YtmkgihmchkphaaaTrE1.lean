/- The trie: each goes through the longest ranges of one value. -/
import Derived.Test.YtmkgihmchkphaaaTrP8
namespace Go.Proofs.Ytmkgihmchkphaaa.Stk
open Go.RowKit Go.Proofs.YtmkgihmchkphaaaW.PrintWords Go.Proofs.YtmkgihmchkphaaaW.PrintLast Go.Proofs.YtmkgihmchkphaaaW.PrintMore
attribute [local go_sem] max2_int min2_int max_two min_two max_three min_three max_four min_four   -- for this text's walks alone
set_option linter.unusedVariables false
set_option linter.unusedSimpArgs false
/-- The longest ranges of one value from a on, ahead of b. -/
def Seg (V : Int → Int) : List Rg → Int → Int → Prop
  | [], a, b => a = b
  | r :: rs, a, b => (r.lo = a ∧ a ≤ r.hi ∧ r.hi ≤ 1114111) ∧ (∀ x, a ≤ x → x ≤ r.hi → V x = r.va) ∧ (r.hi < 1114111 → V (r.hi + 1) ≠ r.va) ∧ Seg V rs (r.hi + 1) b
theorem seg_snoc {V : Int → Int} {lo hi va : Int} : ∀ {rs : List Rg} {a : Int}, Seg V rs a lo → lo ≤ hi → hi ≤ 1114111 → (∀ x, lo ≤ x → x ≤ hi → V x = va) → (hi < 1114111 → V (hi + 1) ≠ va) → Seg V (rs ++ [⟨lo, hi, va⟩]) a (hi + 1)
  | [], a, h, h1, h2, h3, h4 => by
    have e : a = lo := h
    subst e
    exact ⟨⟨rfl, h1, h2⟩, h3, h4, rfl⟩
  | r :: rs, a, h, h1, h2, h3, h4 => ⟨h.1, h.2.1, h.2.2.1, seg_snoc h.2.2.2 h1 h2 h3 h4⟩
theorem seg_len {V : Int → Int} {b : Int} : ∀ {rs : List Rg} {a : Int}, Seg V rs a b → (rs.length : Int) ≤ b - a
  | [], a, h => by have e : a = b := h; simp; omega
  | r :: rs, a, h => by have h1 := seg_len h.2.2.2; have h2 := h.1; simp only [List.length_cons]; omega
def EachI (V : Int → Int) (rs : List Rg) (lo va c : Int) : Prop := Seg V rs 0 lo ∧ 0 ≤ lo ∧ lo < c ∧ c ≤ 1114112 ∧ ∀ x, lo ≤ x → x < c → V x = va
theorem ei_skip {V : Int → Int} {rs : List Rg} {lo va c : Int} (n : Int) (h : EachI V rs lo va c) (hn : 0 ≤ n) (h1 : ∀ x, c ≤ x → x < c + n → V x = va) (h2 : c + n ≤ 1114112) : EachI V rs lo va (c + n) :=
  ⟨h.1, h.2.1, by have := h.2.2.1; omega, h2, fun x hx hy => by
    by_cases e : x < c
    · exact h.2.2.2.2 x hx e
    · exact h1 x (by omega) hy⟩
theorem ei_new {V : Int → Int} {rs : List Rg} {lo va c v : Int} (h : EachI V rs lo va c) (hv : V c = v) (hne : v ≠ va) (hc : c ≤ 1114111) : EachI V (rs ++ [⟨lo, c - 1, va⟩]) c v (c + 1) := by
  have h2 := h.2.2.1
  have h3 := seg_snoc (hi := c - 1) (va := va) h.1 (by omega) (by omega) (fun x hx hy => h.2.2.2.2 x hx (by omega)) (fun _ => by rw [show c - 1 + 1 = c by omega, hv]; exact hne)
  rw [show c - 1 + 1 = c by omega] at h3
  exact ⟨h3, by have := h.2.1; omega, by omega, by omega, fun x hx hy => by rw [show x = c by omega]; exact hv⟩
theorem ei_end {V : Int → Int} {rs : List Rg} {lo va : Int} (h : EachI V rs lo va 1114112) : Seg V (rs ++ [⟨lo, 1114111, va⟩]) 0 1114112 :=
  seg_snoc (hi := 1114111) h.1 (by have := h.2.2.1; omega) (by omega) (fun x hx hy => h.2.2.2.2 x hx (by omega)) (fun h => by omega)
theorem drawn_below0 {w w' : World} (hd : Drawn0 w w') : Below w.heap.size w w' := by obtain ⟨n, e⟩ := hd; rw [e]; exact pw_below_drewN (Below.refl _ _) n
theorem whole_is {fs : List Int} {bs : List (List Int)} {c va : Int} (h0 : 0 ≤ c) (hm : c % 128 = 0) (h : bs.getD (rd fs (c / 128)).toNat [] = rep va) : ∀ x, c ≤ x → x < c + 128 → tabv fs bs x = va := fun x hx hy => by
  unfold tabv
  rw [show x / 128 = c / 128 by omega]
  have h1 : bs.getD (fs.getD (c / 128).toNat 0).toNat [] = rep va := h
  rw [h1, rep_at _ _ (by omega)]
set_option maxHeartbeats 8000000 in
set_option maxRecDepth 100000 in
theorem p_each93 {w : World} {g : Nat} {fs : List Int} {bs : List (List Int)} {z : Int} (h : TabR w g fs bs z true) (hk : TabOk fs bs) (u1 u2 : Value) (Inv : Nat → World → List Rg → Prop)
    (hi0 : ∀ g4 w', w.heap.size ≤ g4 → g4 < w'.heap.size → Below w.heap.size w w' → Inv g4 w' [])
    (hst : ∀ g4 w' w'' rs, w.heap.size ≤ g4 → Inv g4 w' rs → Below w'.heap.size w' w'' → Inv g4 w'' rs)
    (hwr : ∀ g4 w' w'' rs, w.heap.size ≤ g4 → Inv g4 w' rs → Wrote w' w'' g4 → Inv g4 w'' rs)
    (hT : ∀ g4 w' rs, Inv g4 w' rs → TabR w' g fs bs z true)
    (hcl : ∀ g4 w' rs (r : Rg) cells t, w.heap.size ≤ g4 → w'.heap[g4]? = some (.cells cells t (0, 0)) → Inv g4 w' rs → rs.length ≤ 1114112 → Calls Try.prog 93 #[.agg #[.int .i64 r.lo, .int .i64 r.hi, .int .i64 r.va], u1, u2] w' fun e w'' => e = .returned (.tuple #[]) ∧ Inv g4 w'' (rs ++ [r]) ∧ w''.heap[g4]? = w'.heap[g4]?) :
    Calls Try.prog 92 #[.pointer (some ⟨g, 0, none⟩), .func (.func 93) #[] #[u1, u2]] w fun e w' => e = .returned (.tuple #[]) ∧ ∃ g4 rs, Inv g4 w' rs ∧ Seg (tabv fs bs) rs 0 1114112 := by
  have HT := Aside0.mk h
  have HK := Aside0.mk hk
  obtain ⟨A1, c1, A2, c2, hG, _, _⟩ := h
  have k2 := (blk_cell hG 2).trans rfl
  have k3 := (blk_cell hG 3).trans rfl
  obtain ⟨v0, hv0⟩ : ∃ v0, tabv fs bs 0 = v0 := ⟨_, rfl⟩
  have HV0 := Aside0.mk hv0
  clear hk hG hv0
  go_enter Try.func92, Try.ntmps92
  go_wp2_with (first | (go_at_call 84; (with_reducible refine (p_at HT.out HK.out 0 (by decide) (by decide)).mono ?_); rw [HV0.out]; rintro e w1 ⟨rfl, hd⟩; have HB1 := Aside0.mk (show Below w.heap.size w w1 from by obtain ⟨n, e⟩ := hd; rw [e]; exact pw_below_drewN (Below.refl _ _) n); clear hd) | ((with_reducible refine gate_dst (N := 4) rfl ?_); refine wp_alloc_cells rfl 66 rfl _ zero_rng ?_; intro g4 hg w2 hb hB; have H4 := Aside0.mk hb; have HB2 := Aside0.mk (below_step HB1.out hB); have HG4 := Aside0.mk (show w.heap.size ≤ g4 by have := HB1.out.size; omega); have c0 := (blk_cell H4.out 0).trans rfl; have c1_ := (blk_cell H4.out 1).trans rfl; have c2_ := (blk_cell H4.out 2).trans rfl; have f0 := blk_frozen H4.out 0; have f1 := blk_frozen H4.out 1; have f2 := blk_frozen H4.out 2; clear hg hb hB))
  clear k2 k3
  go_loopg [5] 1114112 (fun kq v5 w' => ∃ (c lo va : Int) (rs : List Rg), v5 = .int .i64 c ∧ Aside0 (EachI (tabv fs bs) rs lo va c ∧ (1114112 - c).toNat ≤ kq) ∧ Aside0 (w'.heap[g4]? = some (.cells #[.int .i64 lo, .int .i64 0, .int .i64 va] 66 (0, 0))) ∧ Aside0 (Inv g4 w' rs))
  case atStart =>
    have hw5 := ((Wrote.set w2 g4 0 (.int .i64 0)).trans (Wrote.set _ g4 1 (.int .i64 0))).trans (Wrote.set _ g4 2 (.int .i64 v0))
    exact ⟨1, 0, v0, [], rfl, ⟨⟨rfl, by decide, by decide, by decide, fun x hx hy => by rw [show x = 0 by omega]; exact HV0.out⟩, by decide⟩, ⟨(blk_set (blk_set (blk_set H4.out 0 _) 1 _) 2 _).trans rfl⟩, ⟨hwr _ _ _ _ HG4.out (hi0 _ _ HG4.out (blk_lt H4.out) HB2.out) hw5⟩⟩
  case round =>
    clear H4 HB2 HB1 HV0 c0 c1_ c2_ f0 f1 f2
    obtain ⟨c, lo, va, rs, rfl, HEM, Hr, HIr⟩ := hrel
    have HE := Aside0.mk HEM.out.1
    have HM := Aside0.mk HEM.out.2
    have HLS := Aside0.mk (show rs.length ≤ 1114112 by have h1 := seg_len HEM.out.1.1; have h2 := HEM.out.1.2.2.1; have h3 := HEM.out.1.2.2.2.1; omega)
    clear HEM
    have k2_r := (blk_cell Hr.out 2).trans rfl
    have hc0 : 0 ≤ c := by have := HE.out.2.1; have := HE.out.2.2.1; omega
    have HC0 := Aside0.mk hc0
    by_cases hc : c ≤ 1114111
    · have b0 : decide (c ≤ 1114111) = true := decide_eq_true hc
      have HC1 := Aside0.mk hc
      have hbit : Go.bits .and .i64 c 127 = c % 128 := i64_and127 c
      have hwc : IntKind.i64.wrap (c + 1) = c + 1 := (i64_w _).trans (by unfold wrap64; omega)
      have hwm : IntKind.i64.wrap (c - 1) = c - 1 := (i64_w _).trans (by unfold wrap64; omega)
      have hwk : IntKind.i64.wrap (c + 127) = c + 127 := (i64_w _).trans (by unfold wrap64; omega)
      have hwl : IntKind.i64.wrap (c + 127 + 1) = c + 128 := (i64_w _).trans (by unfold wrap64; omega)
      obtain ⟨v, hv⟩ : ∃ v, tabv fs bs c = v := ⟨_, rfl⟩
      have HV := Aside0.mk hv
      have hlo : 1 ≤ c := by have := HE.out.2.1; have := HE.out.2.2.1; omega
      clear hv
      by_cases hm : c % 128 = 0
      · have b2 : decide (c % 128 = 0) = true := decide_eq_true hm
        have b3 : (c % 128 == 0) = true := by simp [hm]
        have HQ0 := Aside0.mk (show 0 ≤ c / 128 - 1 by omega)
        have HQ1 := Aside0.mk (show c / 128 < 8704 by omega)
        obtain ⟨r, hr⟩ : ∃ r, (decide (rd fs (c / 128) = rd fs (c / 128 - 1)) && decide (bs.getD (rd fs (c / 128)).toNat [] = rep va)) = r := ⟨_, rfl⟩
        have HR := Aside0.mk hr
        cases r with
        | true =>
          have HW := Aside0.mk (ei_skip 128 HE.out (by decide) (whole_is hc0 hm (by simp at hr; exact hr.2)) (by omega))
          clear hr hm hc hc0 hlo
          go_wp2_with (first | (go_at_call 105; (with_reducible refine (p_whole (hT _ _ _ HIr.out) HK.out (c / 128) (c / 128 - 1) va (by omega) HQ0.out HQ1.out).mono ?_); rw [HR.out]; rintro e w5 ⟨rfl, hb⟩; have H5 := Aside0.mk (blk_below Hr.out hb); have HI5 := Aside0.mk (hst _ _ _ _ HG4.out HIr.out hb); have k0_5 := (blk_cell H5.out 0).trans rfl; have k2_5 := (blk_cell H5.out 2).trans rfl; clear hb))
          go_roundg (1114112 - (c + 128)).toNat
          case measure => have h1_ := HM.out; have h2_ := HC1.out; omega
          case rel => exact ⟨c + 128, lo, va, rs, by first | rfl | rw [hwl], ⟨HW.out, Nat.le_refl _⟩, H5, HI5⟩
        | false =>
          clear hr hm hc hc0 hlo
          by_cases hv : v = va
          · have b1_ : (v != va) = false := by simp [hv]
            have HX := Aside0.mk (ei_skip 1 HE.out (by decide) (fun x hx hy => by rw [show x = c by omega, HV.out]; exact hv) (by have := HC1.out; omega))
            clear hv
            go_wp2_with (first | (go_at_call 105; (with_reducible refine (p_whole (hT _ _ _ HIr.out) HK.out (c / 128) (c / 128 - 1) va (by omega) HQ0.out HQ1.out).mono ?_); rw [HR.out]; rintro e w5 ⟨rfl, hb⟩; have H5 := Aside0.mk (blk_below Hr.out hb); have HI5 := Aside0.mk (hst _ _ _ _ HG4.out HIr.out hb); have k0_5 := (blk_cell H5.out 0).trans rfl; have k2_5 := (blk_cell H5.out 2).trans rfl; clear hb) | (go_at_call 84; (with_reducible refine (p_at (hT _ _ _ HI5.out) HK.out c HC0.out HC1.out).mono ?_); rw [HV.out]; rintro e w6 ⟨rfl, hd⟩; have hb := drawn_below0 hd; have H6 := Aside0.mk (blk_below H5.out hb); have HI6 := Aside0.mk (hst _ _ _ _ HG4.out HI5.out hb); have k0_6 := (blk_cell H6.out 0).trans rfl; have k2_6 := (blk_cell H6.out 2).trans rfl; clear hb; have k1_ := (blk_cell H6.out 1).trans rfl; have f1_ := blk_frozen H6.out 1; clear hd))
            go_roundg (1114112 - (c + 1)).toNat
            case measure => have h1_ := HM.out; have h2_ := HC1.out; omega
            case rel => exact ⟨c + 1, lo, va, rs, by first | rfl | rw [hwc], ⟨HX.out, Nat.le_refl _⟩, H6, HI6⟩
          · have b1_ : (v != va) = true := by simp [hv]
            have HX := Aside0.mk (ei_new HE.out HV.out hv HC1.out)
            clear hv
            go_wp2_with (first | (go_at_call 105; (with_reducible refine (p_whole (hT _ _ _ HIr.out) HK.out (c / 128) (c / 128 - 1) va (by omega) HQ0.out HQ1.out).mono ?_); rw [HR.out]; rintro e w5 ⟨rfl, hb⟩; have H5 := Aside0.mk (blk_below Hr.out hb); have HI5 := Aside0.mk (hst _ _ _ _ HG4.out HIr.out hb); have k0_5 := (blk_cell H5.out 0).trans rfl; have k2_5 := (blk_cell H5.out 2).trans rfl; clear hb) | (go_at_call 84; (with_reducible refine (p_at (hT _ _ _ HI5.out) HK.out c HC0.out HC1.out).mono ?_); rw [HV.out]; rintro e w6 ⟨rfl, hd⟩; have hb := drawn_below0 hd; have H6 := Aside0.mk (blk_below H5.out hb); have HI6 := Aside0.mk (hst _ _ _ _ HG4.out HI5.out hb); have k0_6 := (blk_cell H6.out 0).trans rfl; have k2_6 := (blk_cell H6.out 2).trans rfl; clear hb; have k1_ := (blk_cell H6.out 1).trans rfl; have f1_ := blk_frozen H6.out 1; clear hd) | (go_at_call 93; have H7 := Aside0.mk (show (w6.setCell ⟨g4, 1, none⟩ (.int .i64 (c - 1))).heap[g4]? = some (.cells #[.int .i64 lo, .int .i64 (c - 1), .int .i64 va] 66 (0, 0)) from (blk_set H6.out 1 _).trans rfl); have HI7 := Aside0.mk (hwr _ _ _ _ HG4.out HI6.out (Wrote.set w6 g4 1 (.int .i64 (c - 1)))); (with_reducible refine (hcl g4 _ rs ⟨lo, c - 1, va⟩ _ _ HG4.out H7.out HI7.out HLS.out).mono ?_); rintro e w8 ⟨rfl, hi8, hk8⟩; have H8 := Aside0.mk (hk8.trans H7.out); have HI8 := Aside0.mk hi8; have d0_ := (blk_cell H8.out 0).trans rfl; have d1_ := (blk_cell H8.out 1).trans rfl; have d2_ := (blk_cell H8.out 2).trans rfl; have e0_ := blk_frozen H8.out 0; have e1_ := blk_frozen H8.out 1; have e2_ := blk_frozen H8.out 2; clear hi8 hk8))
            go_roundg (1114112 - (c + 1)).toNat
            case measure => have h1_ := HM.out; have h2_ := HC1.out; omega
            case rel =>
              have hw9 := ((Wrote.set w8 g4 0 (.int .i64 c)).trans (Wrote.set _ g4 1 (.int .i64 0))).trans (Wrote.set _ g4 2 (.int .i64 v))
              exact ⟨c + 1, c, v, rs ++ [⟨lo, c - 1, va⟩], by first | rfl | rw [hwc], ⟨HX.out, Nat.le_refl _⟩, ⟨(blk_set (blk_set (blk_set H8.out 0 _) 1 _) 2 _).trans rfl⟩, ⟨hwr _ _ _ _ HG4.out HI8.out hw9⟩⟩
      · have b2 : decide (c % 128 = 0) = false := decide_eq_false hm
        have b3 : (c % 128 == 0) = false := by simp [hm]
        clear hm hc hc0 hlo
        by_cases hv : v = va
        · have b1_ : (v != va) = false := by simp [hv]
          have HX := Aside0.mk (ei_skip 1 HE.out (by decide) (fun x hx hy => by rw [show x = c by omega, HV.out]; exact hv) (by have := HC1.out; omega))
          clear hv
          go_wp2_with (first | (go_at_call 84; (with_reducible refine (p_at (hT _ _ _ HIr.out) HK.out c HC0.out HC1.out).mono ?_); rw [HV.out]; rintro e w6 ⟨rfl, hd⟩; have hb := drawn_below0 hd; have H6 := Aside0.mk (blk_below Hr.out hb); have HI6 := Aside0.mk (hst _ _ _ _ HG4.out HIr.out hb); have k0_6 := (blk_cell H6.out 0).trans rfl; have k2_6 := (blk_cell H6.out 2).trans rfl; clear hb; have k1_ := (blk_cell H6.out 1).trans rfl; have f1_ := blk_frozen H6.out 1; clear hd))
          go_roundg (1114112 - (c + 1)).toNat
          case measure => have h1_ := HM.out; have h2_ := HC1.out; omega
          case rel => exact ⟨c + 1, lo, va, rs, by first | rfl | rw [hwc], ⟨HX.out, Nat.le_refl _⟩, H6, HI6⟩
        · have b1_ : (v != va) = true := by simp [hv]
          have HX := Aside0.mk (ei_new HE.out HV.out hv HC1.out)
          clear hv
          go_wp2_with (first | (go_at_call 84; (with_reducible refine (p_at (hT _ _ _ HIr.out) HK.out c HC0.out HC1.out).mono ?_); rw [HV.out]; rintro e w6 ⟨rfl, hd⟩; have hb := drawn_below0 hd; have H6 := Aside0.mk (blk_below Hr.out hb); have HI6 := Aside0.mk (hst _ _ _ _ HG4.out HIr.out hb); have k0_6 := (blk_cell H6.out 0).trans rfl; have k2_6 := (blk_cell H6.out 2).trans rfl; clear hb; have k1_ := (blk_cell H6.out 1).trans rfl; have f1_ := blk_frozen H6.out 1; clear hd) | (go_at_call 93; have H7 := Aside0.mk (show (w6.setCell ⟨g4, 1, none⟩ (.int .i64 (c - 1))).heap[g4]? = some (.cells #[.int .i64 lo, .int .i64 (c - 1), .int .i64 va] 66 (0, 0)) from (blk_set H6.out 1 _).trans rfl); have HI7 := Aside0.mk (hwr _ _ _ _ HG4.out HI6.out (Wrote.set w6 g4 1 (.int .i64 (c - 1)))); (with_reducible refine (hcl g4 _ rs ⟨lo, c - 1, va⟩ _ _ HG4.out H7.out HI7.out HLS.out).mono ?_); rintro e w8 ⟨rfl, hi8, hk8⟩; have H8 := Aside0.mk (hk8.trans H7.out); have HI8 := Aside0.mk hi8; have d0_ := (blk_cell H8.out 0).trans rfl; have d1_ := (blk_cell H8.out 1).trans rfl; have d2_ := (blk_cell H8.out 2).trans rfl; have e0_ := blk_frozen H8.out 0; have e1_ := blk_frozen H8.out 1; have e2_ := blk_frozen H8.out 2; clear hi8 hk8))
          go_roundg (1114112 - (c + 1)).toNat
          case measure => have h1_ := HM.out; have h2_ := HC1.out; omega
          case rel =>
            have hw9 := ((Wrote.set w8 g4 0 (.int .i64 c)).trans (Wrote.set _ g4 1 (.int .i64 0))).trans (Wrote.set _ g4 2 (.int .i64 v))
            exact ⟨c + 1, c, v, rs ++ [⟨lo, c - 1, va⟩], by first | rfl | rw [hwc], ⟨HX.out, Nat.le_refl _⟩, ⟨(blk_set (blk_set (blk_set H8.out 0 _) 1 _) 2 _).trans rfl⟩, ⟨hwr _ _ _ _ HG4.out HI8.out hw9⟩⟩
    · have b0 : decide (c ≤ 1114111) = false := decide_eq_false hc
      have HEE := Aside0.mk (show EachI (tabv fs bs) rs lo va 1114112 by have h := HE.out; have e : c = 1114112 := by have := h.2.2.2.1; omega
                                                                         rw [← e]; exact h)
      have k0_r := (blk_cell Hr.out 0).trans rfl
      have k1_r := (blk_cell Hr.out 1).trans rfl
      have f1_r := blk_frozen Hr.out 1
      clear hc hc0
      go_wp2_with (first | (go_at_call 93; have H7 := Aside0.mk (show (wr.setCell ⟨g4, 1, none⟩ (.int .i64 1114111)).heap[g4]? = some (.cells #[.int .i64 lo, .int .i64 1114111, .int .i64 va] 66 (0, 0)) from (blk_set Hr.out 1 _).trans rfl); have HI7 := Aside0.mk (hwr _ _ _ _ HG4.out HIr.out (Wrote.set wr g4 1 (.int .i64 1114111))); (with_reducible refine (hcl g4 _ rs ⟨lo, 1114111, va⟩ _ _ HG4.out H7.out HI7.out HLS.out).mono ?_); rintro e w8 ⟨rfl, hi8, hk8⟩; have H8 := Aside0.mk (hk8.trans H7.out); have HI8 := Aside0.mk hi8; have d0_ := (blk_cell H8.out 0).trans rfl; have d1_ := (blk_cell H8.out 1).trans rfl; have d2_ := (blk_cell H8.out 2).trans rfl; have e0_ := blk_frozen H8.out 0; have e1_ := blk_frozen H8.out 1; have e2_ := blk_frozen H8.out 2; clear hi8 hk8))
      first | go_end0 | ((try simp only [Exit.inBlock, Exit.then]); refine bodyPost_ret (results_none rfl _ _ _) rfl ?_)
      exact ⟨by first | rfl | (simp; done), g4, _, HI8.out, ei_end HEE.out⟩
end Go.Proofs.Ytmkgihmchkphaaa.Stk
