/- The trie: the law TrieAgain. -/
import Derived.Test.YtljcohjafcjgdaaTrR3
namespace Go.Proofs.Ytljcohjafcjgdaa.Stk
open Go.RowKit Go.Proofs.YtljcohjafcjgdaaW.PrintWords Go.Proofs.YtljcohjafcjgdaaW.PrintLast Go.Proofs.YtljcohjafcjgdaaW.PrintMore
attribute [local go_sem] max2_int min2_int max_two min_two max_three min_three max_four min_four   -- for this text's walks alone
set_option linter.unusedVariables false
set_option linter.unusedSimpArgs false
theorem outp_chk {V : Int → Int} {z b : Int} (hb : b ≤ 1114112) : ∀ {out : List Rg} {a last : Int}, OutP V z out a b → last < a → chkL out last = 0
  | [], a, last, h, hl => rfl
  | r :: out, a, last, h, hl => by
    have h1 := h.1
    unfold chkL
    rw [if_neg (by omega)]
    exact outp_chk hb h.2.2.2.2 (by omega)
theorem mrg_chk {l : List Rg} (z : Int) (hO : OkL l) (hl : l.length ≤ 4096) : chk (mrgF z l) = 0 := by
  unfold chk
  rw [if_neg (by have := mrg_len z l; omega)]
  exact outp_chk (by decide) (mrg_out z hO) (by decide)
theorem mrg_val {l : List Rg} (z : Int) (hO : OkL l) (hl : l.length ≤ 4096) (c : Int) : valR (mrgF z l) z c = valR l z c := by
  have hM := (chk_ok (mrg_chk z hO hl)).2
  have hP := mrg_out z hO
  by_cases h : ∃ i, i < (mrgF z l).length ∧ (rgAt (mrgF z l) i).lo ≤ c ∧ c ≤ (rgAt (mrgF z l) i).hi
  · obtain ⟨i, hi, h1, h2⟩ := h
    rw [valR_in hM hi h1 h2, (outp_in hP i hi).2.2.2 c h1 h2]
  · have hn : ∀ i, i < (mrgF z l).length → ¬ ((rgAt (mrgF z l) i).lo ≤ c ∧ c ≤ (rgAt (mrgF z l) i).hi) := fun i hi h1 => h ⟨i, hi, h1⟩
    rw [valR_out hn]
    by_cases h0 : 0 ≤ c ∧ c < 1114112
    · exact (outp_gap hP c h0.1 h0.2 hn).symm
    · exact (valR_out fun i hi => by have := hO.1 i hi; omega).symm
theorem built_two {l l' : List Rg} {z : Int} {fs fs' : List Int} {bs bs' : List (List Int)} (h : Built l z fs bs) (h' : Built l' z fs' bs') (hv : ∀ c, valR l z c = valR l' z c) : bs.length = bs'.length := by
  have hb : ∀ q, blkOf l z q = blkOf l' z q := fun q => by unfold blkOf; simp only [hv]
  have hs : ∀ {m m' : List Rg} {f : List Int} {b : List (List Int)}, Built m z f b → (∀ q, blkOf m z q = blkOf m' z q) → ∀ x, x ∈ b ↔ ∃ q, q < 8704 ∧ x = blkOf m' z q := fun {m m' f b} hB he x => by
    constructor
    · intro hx
      obtain ⟨q, hq, e⟩ := hB.2.2.1 x hx
      exact ⟨q, hq, e.trans (he q)⟩
    · rintro ⟨q, hq, e⟩
      have h3 := hB.2.2.2 q hq
      have h4 := hB.1.2 q hq
      rw [e, ← he q, ← h3, List.getD, List.getElem?_eq_getElem (by omega)]
      exact List.getElem_mem _
  exact ((List.perm_ext_iff_of_nodup h.2.1 h'.2.1).2 fun x => (hs h hb x).trans (hs h' (fun q => rfl) x).symm).length_eq
set_option maxHeartbeats 8000000 in
set_option maxRecDepth 100000 in
theorem p_tagain (A : Option Addr) (c : Nat) (l : List Rg) (a1 : Int) (A2 : Option Addr) (c2 : Nat) (l2 : List Int) (w : World) (hC : Kd.C kR w A l.length l) (hc : l.length ≤ c) (hln : l.length < 5864062014805) (hC2 : Kd.C (Kd.int .i64) w A2 l2.length l2) (hc2 : l2.length ≤ c2) :
    Calls Try.prog 9 #[.slice A l.length c, .int .i64 a1, .slice A2 l2.length c2] w fun e w' => e = .returned (.bool true) ∧ Below w.heap.size w w' := by
  have HC := Aside0.mk hC
  have HCC := Aside0.mk hc
  have HD := Aside0.mk hC2
  have HB0 := Aside0.mk (Below.refl w.heap.size w)
  have HL2 := Aside0.mk hC2.2.1
  clear hC hc hln hC2 hc2
  by_cases h1 : 300 < l.length
  · have p0 : decide ((l.length : Int) > 300) = true := decide_eq_true (by omega)
    have p1 : decide (300 < (l.length : Int)) = true := decide_eq_true (by omega)
    have p2 : decide (300 < l.length) = true := decide_eq_true h1
    clear h1
    go_enter Try.func9, Try.ntmps9
    go_wp2_with (first | (go_at_call 12; (with_reducible refine (p_awake _).mono ?_); rintro e wA ⟨rfl, hb⟩; have HBA := Aside0.mk (below_step HB0.out hb); clear hb))
    go_ret
    exact ⟨by first | rfl | (simp; done), HBA.out⟩
  · have p0 : decide ((l.length : Int) > 300) = false := decide_eq_false (by omega)
    have p1 : decide (300 < (l.length : Int)) = false := decide_eq_false (by omega)
    have p2 : decide (300 < l.length) = false := decide_eq_false h1
    by_cases h3 : 500 < l2.length
    · have r0 : decide ((l2.length : Int) > 500) = true := decide_eq_true (by omega)
      have r1 : decide (500 < (l2.length : Int)) = true := decide_eq_true (by omega)
      have r2 : decide (500 < l2.length) = true := decide_eq_true h3
      clear h1 h3
      go_enter Try.func9, Try.ntmps9
      go_wp2_with (first | (go_at_call 12; (with_reducible refine (p_awake _).mono ?_); rintro e wA ⟨rfl, hb⟩; have HBA := Aside0.mk (below_step HB0.out hb); clear hb))
      go_ret
      exact ⟨by first | rfl | (simp; done), HBA.out⟩
    · have r0 : decide ((l2.length : Int) > 500) = false := decide_eq_false (by omega)
      have r1 : decide (500 < (l2.length : Int)) = false := decide_eq_false (by omega)
      have r2 : decide (500 < l2.length) = false := decide_eq_false h3
      by_cases hx0 : chk l = 0
      · have HX := Aside0.mk hx0
        have HO := Aside0.mk (chk_ok hx0).2
        have HL := Aside0.mk (chk_ok hx0).1
        obtain ⟨M, hM⟩ : ∃ M, mrgF a1 l = M := ⟨_, rfl⟩
        have HM := Aside0.mk hM
        have HMX := Aside0.mk (show chk M = 0 by rw [← hM]; exact mrg_chk a1 HO.out HL.out)
        have HOM := Aside0.mk (chk_ok HMX.out).2
        have HMV := Aside0.mk (show ∀ c, valR M a1 c = valR l a1 c by rw [← hM]; exact mrg_val a1 HO.out HL.out)
        clear h1 h3 hx0 hM
        go_enter Try.func9, Try.ntmps9
        go_wp2_with (first | (go_at_call 13; (with_reducible refine (p_build HC.out HX.out a1).mono ?_); rintro e w2 ⟨g, fs, bs, rfl, hb, hT, _, hBt⟩; have HB2 := Aside0.mk hb; have HT2 := Aside0.mk hT; have HBT := Aside0.mk hBt; clear hb hT hBt) | (go_at_call 37; (with_reducible refine (p_rng HT2.out HBT.out HO.out HM.out).mono ?_); rintro e w3 ⟨A3, rfl, h1, hb⟩; have HB3 := Aside0.mk (below_step HB2.out hb); have HC3 := Aside0.mk h1; have HT3 := Aside0.mk (tab_below HT2.out hb); clear h1 hb) | (go_at_call 13; (with_reducible refine (p_build HC3.out HMX.out a1).mono ?_); rintro e w4 ⟨g2, fs2, bs2, rfl, hb, hT, _, hBt⟩; have HB4 := Aside0.mk (below_step HB3.out hb); have HT4 := Aside0.mk (tab_below HT3.out hb); have HU4 := Aside0.mk hT; have HBU := Aside0.mk hBt; obtain ⟨N, hN⟩ : ∃ N : Int, (bs.length : Int) = N := ⟨_, rfl⟩; have HN := Aside0.mk hN; have HN2 := Aside0.mk (show (bs2.length : Int) = N from (by rw [← hN, built_two hBt HBT.out HMV.out])); have e1 : (N != N) = false := (by simp); clear hb hT hBt hN) | (go_at_call 15; (with_reducible refine (p_blocks HU4.out).mono ?_); rw [HN2.out]; rintro e w5 ⟨rfl, hd⟩; have hb := drawn_below0 hd; have HB5 := Aside0.mk (below_step HB4.out hb); have HT5 := Aside0.mk (tab_below HT4.out hb); have HU5 := Aside0.mk (tab_below HU4.out hb); clear hd hb) | (go_at_call 15; (with_reducible refine (p_blocks HT5.out).mono ?_); rw [HN.out]; rintro e w6 ⟨rfl, hd⟩; have hb := drawn_below0 hd; have HB6 := Aside0.mk (below_step HB5.out hb); have HT6 := Aside0.mk (tab_below HT5.out hb); have HU6 := Aside0.mk (tab_below HU5.out hb); clear hd hb))
        go_loopg [49] (l2.length + 1) (fun kq v49 w' => ∃ (i : Nat), v49 = .int .i64 (i : Int) ∧ Aside0 (l2.length + 1 - i ≤ kq) ∧ Aside0 (TabR w' g fs bs a1 true) ∧ Aside0 (TabR w' g2 fs2 bs2 a1 true) ∧ Aside0 (Below w.heap.size w w'))
        case atStart => exact ⟨0, rfl, ⟨Nat.sub_le _ _⟩, HT6, HU6, HB6⟩
        case round =>
          clear HT6 HU6 HB6
          obtain ⟨i, rfl, HQ, HT, HU, HB⟩ := hrel
          by_cases hlt : i < l2.length
          · have q0 := decide_eq_true (show (i : Int) < (l2.length : Int) by omega)
            have q1 := decide_eq_true hlt
            have r0 := eq_true (show (i : Int) < (l2.length : Int) by omega)
            have r1 := eq_true hlt
            have r2 := eq_true (show (0 : Int) ≤ (i : Int) by omega)
            obtain ⟨ad, e, x0_⟩ := Kd.at_int (Kd.C_below HD.out HB.out) (i : Int) (by omega) (by omega)
            cases e
            rw [Int.toNat_natCast] at x0_
            generalize rd l2 (i : Int) = x at x0_
            obtain ⟨y, hy⟩ : ∃ y, valR l a1 x = y := ⟨_, rfl⟩
            have HY := Aside0.mk hy
            have HYM := Aside0.mk ((HMV.out x).trans hy)
            have ey : (y != y) = false := by simp
            have HLT := Aside0.mk hlt
            have hwi : IntKind.i64.wrap ((i : Int) + 1) = ((i + 1 : Nat) : Int) := (i64_w _).trans (up1 hlt HL2.out)
            clear hlt hy
            go_wp2_with (first | (go_at_call 28; (with_reducible refine (p_got HT.out HBT.out HO.out x y HY.out).mono ?_); rintro e w7 ⟨rfl, hb⟩; have HT7 := Aside0.mk (tab_below HT.out hb); have HU7 := Aside0.mk (tab_below HU.out hb); have HB7 := Aside0.mk (below_step HB.out hb); clear hb) | (go_at_call 28; (with_reducible refine (p_got HU7.out HBU.out HOM.out x y HYM.out).mono ?_); rintro e w8 ⟨rfl, hb⟩; have HT8 := Aside0.mk (tab_below HT7.out hb); have HU8 := Aside0.mk (tab_below HU7.out hb); have HB8 := Aside0.mk (below_step HB7.out hb); clear hb))
            go_roundg (l2.length + 1 - (i + 1))
            case measure => have h1_ := HQ.out; have h2_ := HLT.out; omega
            case rel => exact ⟨i + 1, by first | rfl | go_num | rw [hwi], ⟨Nat.le_refl _⟩, HT8, HU8, HB8⟩
          · have q0 := decide_eq_false (show ¬ (i : Int) < (l2.length : Int) by omega)
            have q1 := decide_eq_false hlt
            clear hlt
            go_wp2_with (first | (go_at_call 12; (with_reducible refine (p_awake _).mono ?_); rintro e wA ⟨rfl, hb⟩; have HBA := Aside0.mk (below_step HB.out hb); clear hb))
            go_ret
            exact ⟨by first | rfl | (simp; done), HBA.out⟩
      · obtain ⟨x, hx, hne⟩ : ∃ x, chk l = x ∧ x ≠ 0 := ⟨_, rfl, hx0⟩
        have HX := Aside0.mk hx
        have HCHK := Aside0.mk hx0
        have e0 : (x != 0) = true := by simp [hne]
        have e1 : decide (x = 0) = false := decide_eq_false hne
        clear h1 h3 hx0 hx hne
        go_enter Try.func9, Try.ntmps9
        go_wp2_with (first | (go_at_call 13; (with_reducible refine (p_build_no HC.out HCHK.out a1).mono ?_); rw [HX.out]; rintro e w2 ⟨rfl, hb⟩; have HB2 := Aside0.mk hb; clear hb) | (go_at_call 12; (with_reducible refine (p_awake _).mono ?_); rintro e wA ⟨rfl, hb⟩; have HBA := Aside0.mk (below_step HB2.out hb); clear hb))
        go_ret
        exact ⟨by first | rfl | (simp; done), HBA.out⟩
end Go.Proofs.Ytljcohjafcjgdaa.Stk
