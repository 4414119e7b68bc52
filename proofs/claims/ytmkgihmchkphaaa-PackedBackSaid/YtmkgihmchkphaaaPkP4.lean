/- Packed: Take. -/
import Derived.Test.YtmkgihmchkphaaaPkP4a
namespace Go.Proofs.Ytmkgihmchkphaaa.Stk
open Go.RowKit Go.Proofs.YtmkgihmchkphaaaW.PrintWords Go.Proofs.YtmkgihmchkphaaaW.PrintLast Go.Proofs.YtmkgihmchkphaaaW.PrintMore
attribute [local go_sem] max2_int min2_int max_two min_two max_three min_three max_four min_four   -- for this text's walks alone
set_option linter.unusedVariables false
set_option linter.unusedSimpArgs false
set_option maxHeartbeats 8000000 in
set_option maxRecDepth 100000 in
theorem p_take {w : World} {A : Option Addr} {c : Nat} {l : List Int} (h : Kd.C (Kd.int .u8) w A l.length l) (hc : l.length ≤ c) (hb : Bytes l) :
    Calls Try.prog 25 #[.slice A l.length c] w fun e w' => e = .returned (.tuple #[.int .i64 (takB l).1, .int .i64 (takB l).2.1, .bool (takB l).2.2]) ∧ Below w.heap.size w w' := by
  have HC := Aside0.mk h
  have HBY := Aside0.mk hb
  have HB0 := Aside0.mk (Below.refl w.heap.size w)
  obtain ⟨m, hm⟩ : ∃ m : Nat, (if 5 < (l.length : Int) then 5 else (l.length : Int)) = (m : Int) := ⟨if 5 < l.length then 5 else l.length, by split <;> split <;> omega⟩
  have hm2 : mn (l.length : Int) 5 = (m : Int) := by rw [← hm]; unfold mn; first | rfl | (split <;> rfl) | (split <;> split <;> omega)
  have HM := Aside0.mk (show m ≤ l.length ∧ m ≤ 5 ∧ (m < l.length → m = 5) by split at hm <;> omega)
  have g0 := eq_true (show (0 : Int) ≤ (m : Int) by omega)
  have g1 := eq_true (show (m : Int) ≤ (c : Int) by have := HM.out; omega)
  have g2 := eq_true (show m ≤ c by have := HM.out; omega)
  clear h hc hb
  go_enter Try.func25, Try.ntmps25
  go_wp2
  go_loopg [5, 14] 6 (fun kq v5 v14 w' => ∃ (i : Nat) (n : Int), v5 = .int .i64 n ∧ v14 = .int .i64 (i : Int) ∧ Aside0 ((i ≤ m ∧ 6 - i ≤ kq) ∧ takF ((l.take 5).drop i) i n (pw i) = takB l ∧ 0 ≤ n ∧ n < pw i ∧ True) ∧ Aside0 (Below w.heap.size w w'))
  case atStart => exact ⟨0, 0, rfl, rfl, ⟨⟨Nat.zero_le _, Nat.sub_le _ _⟩, rfl, by decide, by decide, trivial⟩, ⟨by first | exact HB0.out | exact HB0.out.drew⟩⟩
  case round =>
    obtain ⟨i, n, rfl, rfl, HI, HB⟩ := hrel
    by_cases hlt : i < m
    · have hlt := hlt
      have q0 := decide_eq_true (show (i : Int) < (m : Int) by omega)
      have q1 := decide_eq_true hlt
      have r0 := eq_true (show (i : Int) < (m : Int) by omega)
      have r1 := eq_true hlt
      have r2 := eq_true (show (0 : Int) ≤ (i : Int) by omega)
      have hml := HM.out
      have hi4 : i ≤ 4 := by omega
      have hil : i < l.length := by omega
      obtain ⟨ad, e, x0_⟩ := Kd.at_int (Kd.C_below HC.out HB.out) (i : Int) (by omega) (by omega)
      cases e
      rw [Int.toNat_natCast] at x0_
      have er : rd l (i : Int) = l.getD i 0 := by unfold rd; rw [Int.toNat_natCast]
      have hx := bytes_at HBY.out hil
      have HT1 := Aside0.mk (take_at hil (by omega))
      rw [er] at x0_
      generalize l.getD i 0 = x at x0_ hx HT1
      obtain ⟨y, hy⟩ : ∃ y, x % 128 = y := ⟨_, rfl⟩
      have hu := pw_up hi4 HI.out.2.2.1 HI.out.2.2.2.1 (y := y) (by omega) (by omega)
      have hb1 : Go.bits .andNot .u8 x 128 = y := by rw [← hy]; exact (u8_is hx.1 hx.2).1
      have hb2 := (u8_is hx.1 hx.2).2
      have hw1 : IntKind.i64.wrap y = y := (i64_w _).trans (by unfold wrap64; omega)
      have hw2 : IntKind.i64.wrap (7 * (i : Int)) = 7 * (i : Int) := (i64_w _).trans (by unfold wrap64; omega)
      have s1 := eq_true (show (0 : Int) ≤ 7 * (i : Int) by omega)
      have s2 := eq_true (show 7 * (i : Int) ≤ 64 by omega)
      have hw3 : IntKind.i64.wrap (y * 2 ^ (7 * (i : Int)).toNat) = y * pw i := (i64_w _).trans (by rw [(pw_ok hi4).2.2]; unfold wrap64; omega)
      have hb3 : Go.bits .or .i64 n (y * pw i) = n + y * pw i := or_join hi4 HI.out.2.2.1 HI.out.2.2.2.1 (by omega) (by omega)
      have hwi : IntKind.i64.wrap ((i : Int) + 1) = ((i + 1 : Nat) : Int) := (i64_w _).trans (by unfold wrap64; omega)
      have HLT := Aside0.mk hlt
      have HU := Aside0.mk hu
      have HY := Aside0.mk hy
      have HXB := Aside0.mk hx
      have HTT := Aside0.mk HI.out.2.1
      rw [HT1.out] at HTT
      clear er hu hml hil
      by_cases h3 : x < 128
      · rw [if_pos h3] at hb2
        have hyx : y = x := by omega
        obtain ⟨r, hr⟩ : ∃ r, fitP (n + y * pw i) = r := ⟨_, rfl⟩
        have HF := Aside0.mk hr
        have HFI := Aside0.mk (fitP_iff (n + y * pw i))
        have HX3 := Aside0.mk (show x < 128 from h3)
        cases r with
        | false =>
          have HE := Aside0.mk (show takB l = (0, 0, false) by
            rw [← HTT.out]
            unfold takF
            have h7 := HFI.out
            rw [HF.out] at h7
            have h8 := HU.out
            rw [if_pos HX3.out, if_neg (fun h9 => by rw [← hyx] at h9; exact absurd (h7.2 ⟨h8.2.2.1, h9.1⟩) (by simp))])
          clear h3 hr hi4 hyx hy hx hlt
          go_wp2_with (first | (go_at_call 60; (with_reducible refine (p_fits (n + y * pw i) _).mono ?_); rw [HF.out]; rintro e w5 ⟨rfl, hb⟩; have HB5 := Aside0.mk (below_step HB.out hb); clear hb))
          go_ret3
          exact ⟨by rw [HE.out]; first | rfl | (simp; done), HB5.out⟩
        | true =>
          by_cases h5 : x = 0 ∧ 0 < i
          · have e5 : (x == 0) = true := by simp [h5.1]
            have e6 : decide (x = 0) = true := decide_eq_true h5.1
            have e7 : decide ((i : Int) > 0) = true := decide_eq_true (by omega)
            have e8 : decide (0 < i) = true := decide_eq_true h5.2
            have e9 : decide ((0 : Int) < (i : Int)) = true := decide_eq_true (by omega)
            have HE := Aside0.mk (show takB l = (0, 0, false) by
              rw [← HTT.out]
              unfold takF
              rw [if_pos HX3.out, if_neg (fun h9 => h9.2 h5)])
            clear h3 hr hi4 hyx hy hx h5 hlt
            go_wp2_with (first | (go_at_call 60; (with_reducible refine (p_fits (n + y * pw i) _).mono ?_); rw [HF.out]; rintro e w5 ⟨rfl, hb⟩; have HB5 := Aside0.mk (below_step HB.out hb); clear hb))
            go_ret3
            exact ⟨by rw [HE.out]; first | rfl | (simp; done), HB5.out⟩
          · have HE := Aside0.mk (show takB l = (n + y * pw i, (i : Int) + 1, true) by
              rw [← HTT.out]
              unfold takF
              have h7 := HFI.out.1 HF.out
              rw [if_pos HX3.out, if_pos ⟨by rw [← hyx]; exact h7.2, h5⟩, hyx])
            by_cases h6 : x = 0
            · have e5 : (x == 0) = true := by simp [h6]
              have e6 : decide (x = 0) = true := decide_eq_true h6
              have e7 : decide ((i : Int) > 0) = false := decide_eq_false (by omega)
              have e8 : decide (0 < i) = false := decide_eq_false (by omega)
              have e9 : decide ((0 : Int) < (i : Int)) = false := decide_eq_false (by omega)
              clear h3 hr hi4 hyx hy hx h5 h6 hlt
              go_wp2_with (first | (go_at_call 60; (with_reducible refine (p_fits (n + y * pw i) _).mono ?_); rw [HF.out]; rintro e w5 ⟨rfl, hb⟩; have HB5 := Aside0.mk (below_step HB.out hb); clear hb))
              go_ret3
              exact ⟨by rw [HE.out]; first | rfl | (simp; done) | (simp [hwi]; done), HB5.out⟩
            · have e5 : (x == 0) = false := by simp [h6]
              have e6 : decide (x = 0) = false := decide_eq_false h6
              clear h3 hr hi4 hyx hy hx h5 h6 hlt
              go_wp2_with (first | (go_at_call 60; (with_reducible refine (p_fits (n + y * pw i) _).mono ?_); rw [HF.out]; rintro e w5 ⟨rfl, hb⟩; have HB5 := Aside0.mk (below_step HB.out hb); clear hb))
              go_ret3
              exact ⟨by rw [HE.out]; first | rfl | (simp; done) | (simp [hwi]; done), HB5.out⟩
      · rw [if_neg h3] at hb2
        have HN := Aside0.mk (show takF ((l.take 5).drop (i + 1)) (i + 1) (n + y * pw i) (pw (i + 1)) = takB l by
          rw [← HTT.out, show takF (x :: (l.take 5).drop (i + 1)) i n (pw i) = takF ((l.take 5).drop (i + 1)) (i + 1) (n + (x - 128) * pw i) (pw i * 128) from if_neg h3, show x - 128 = y by omega]
          rfl)
        clear h3 hi4 hy hx hlt
        go_wp2
        go_roundg (6 - (i + 1))
        case measure => have h1_ := HI.out.1; have h2_ := HLT.out; have h3_ := HM.out; omega
        case rel => exact ⟨i + 1, n + y * pw i, by first | rfl | rw [hb3], by first | rfl | rw [hwi], ⟨⟨HLT.out, Nat.le_refl _⟩, HN.out, HU.out.2.2.1, HU.out.2.2.2.1, trivial⟩, ⟨by first | exact HB.out | exact HB.out.drew⟩⟩
    · have q0 := decide_eq_false (show ¬ (i : Int) < (m : Int) by omega)
      have q1 := decide_eq_false hlt
      have HE := Aside0.mk (show takB l = (0, 0, false) by
        have h1 := HI.out.2.1
        have h2 := HM.out
        have h3 := HI.out.1.1
        rw [List.drop_eq_nil_of_le (by rw [List.length_take]; omega)] at h1
        exact h1.symm)
      clear hlt
      go_wp2
      go_ret3
      exact ⟨by rw [HE.out]; first | rfl | (simp; done), HB.out⟩
end Go.Proofs.Ytmkgihmchkphaaa.Stk
