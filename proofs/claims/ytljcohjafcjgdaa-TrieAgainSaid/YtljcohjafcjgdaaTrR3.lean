/- The trie: the law TrieRanges. -/
import Derived.Test.YtljcohjafcjgdaaTrR2
namespace Go.Proofs.Ytljcohjafcjgdaa.Stk
open Go.RowKit Go.Proofs.YtljcohjafcjgdaaW.PrintWords Go.Proofs.YtljcohjafcjgdaaW.PrintLast Go.Proofs.YtljcohjafcjgdaaW.PrintMore
attribute [local go_sem] max2_int min2_int max_two min_two max_three min_three max_four min_four   -- for this text's walks alone
set_option linter.unusedVariables false
set_option linter.unusedSimpArgs false
theorem p_rng {w : World} {g : Nat} {l M : List Rg} {z : Int} {fs : List Int} {bs : List (List Int)} (hT : TabR w g fs bs z true) (hB : Built l z fs bs) (hO : OkL l) (hM : mrgF z l = M) : Calls Try.prog 37 #[.pointer (some ⟨g, 0, none⟩)] w fun e w' => ∃ A, e = .returned (.slice A M.length M.length) ∧ Kd.C kR w' A M.length M ∧ Below w.heap.size w w' := by
  refine (p_ranges hT hB.1).mono fun e w' ⟨rs, A, he, hC, hs, hb⟩ => ?_
  have h1 := ranges_same hO (fun x h0 h1 => built_at hB x h0 h1) hs
  rw [h1, hM] at he hC
  exact ⟨A, he, hC, hb⟩
theorem p_cnt {w : World} {g : Nat} {l : List Rg} {z : Int} {fs : List Int} {bs : List (List Int)} (hT : TabR w g fs bs z true) (hB : Built l z fs bs) (v y : Int) (hy : cF (valR l z) v 0 1114112 = y) : Calls Try.prog 38 #[.pointer (some ⟨g, 0, none⟩), .int .i64 v] w fun e w' => e = .returned (.int .i64 y) ∧ Below w.heap.size w w' := by
  refine (p_count hT hB.1 v).mono fun e w' ⟨rs, he, hs, hb⟩ => ?_
  rw [count_same (fun x h0 h1 => built_at hB x h0 h1) hs, hy] at he
  exact ⟨he, hb⟩
set_option maxHeartbeats 8000000 in
set_option maxRecDepth 100000 in
theorem p_tranges (A : Option Addr) (c : Nat) (l : List Rg) (a1 a2 : Int) (w : World) (hC : Kd.C kR w A l.length l) (hc : l.length ≤ c) (hln : l.length < 5864062014805) :
    Calls Try.prog 11 #[.slice A l.length c, .int .i64 a1, .int .i64 a2] w fun e w' => e = .returned (.bool true) ∧ Below w.heap.size w w' := by
  have HC := Aside0.mk hC
  have HCC := Aside0.mk hc
  have HB0 := Aside0.mk (Below.refl w.heap.size w)
  clear hC hc hln
  by_cases h1 : 300 < l.length
  · have p0 : decide ((l.length : Int) > 300) = true := decide_eq_true (by omega)
    have p1 : decide (300 < (l.length : Int)) = true := decide_eq_true (by omega)
    have p2 : decide (300 < l.length) = true := decide_eq_true h1
    clear h1
    go_enter Try.func11, Try.ntmps11
    go_wp2_with (first | (go_at_call 12; (with_reducible refine (p_awake _).mono ?_); rintro e wA ⟨rfl, hb⟩; have HBA := Aside0.mk (below_step HB0.out hb); clear hb))
    go_ret
    exact ⟨by first | rfl | (simp; done), HBA.out⟩
  · have p0 : decide ((l.length : Int) > 300) = false := decide_eq_false (by omega)
    have p1 : decide (300 < (l.length : Int)) = false := decide_eq_false (by omega)
    have p2 : decide (300 < l.length) = false := decide_eq_false h1
    by_cases hx0 : chk l = 0
    · have HX := Aside0.mk hx0
      have HO := Aside0.mk (chk_ok hx0).2
      have HL := Aside0.mk (chk_ok hx0).1
      obtain ⟨M, hM⟩ : ∃ M, mrgF a1 l = M := ⟨_, rfl⟩
      have HM := Aside0.mk hM
      obtain ⟨y, hy⟩ : ∃ y, cF (valR l a1) a2 0 1114112 = y := ⟨_, rfl⟩
      have HY := Aside0.mk hy
      have e1 : (y == y) = true := by simp
      clear h1 hx0 hM hy
      go_enter Try.func11, Try.ntmps11
      go_wp2_with (first | (go_at_call 13; (with_reducible refine (p_build HC.out HX.out a1).mono ?_); rintro e w2 ⟨g, fs, bs, rfl, hb, hT, _, hBt⟩; have HB2 := Aside0.mk hb; have HT2 := Aside0.mk hT; have HBT := Aside0.mk hBt; clear hb hT hBt) | (go_at_call 37; (with_reducible refine (p_rng HT2.out HBT.out HO.out HM.out).mono ?_); rintro e w3 ⟨A3, rfl, h1, hb⟩; have HB3 := Aside0.mk (below_step HB2.out hb); have HC3 := Aside0.mk h1; have HT3 := Aside0.mk (tab_below HT2.out hb); clear h1 hb) | (go_at_call 39; (with_reducible refine (C.p_rranges (Kd.C_below HC.out HB3.out) HCC.out HO.out HL.out a1).mono ?_); rw [HM.out]; rintro e w4 ⟨A4, c4, rfl, h1, h2, hb⟩; have HB4 := Aside0.mk (below_step HB3.out hb); have HC34 := Aside0.mk (Kd.C_below HC3.out hb); have HC4 := Aside0.mk h1; have HCC4 := Aside0.mk h2; have HT4 := Aside0.mk (tab_below HT3.out hb); clear h1 h2 hb) | (go_at_call 27; (with_reducible refine (p_req HC34.out (Nat.le_refl _) HC4.out HCC4.out).mono ?_); rintro e w5 ⟨rfl, hb⟩; have HB5 := Aside0.mk (below_step HB4.out hb); have HT5 := Aside0.mk (tab_below HT4.out hb); clear hb) | (go_at_call 38; (with_reducible refine (p_cnt HT5.out HBT.out a2 y HY.out).mono ?_); rintro e w6 ⟨rfl, hb⟩; have HB6 := Aside0.mk (below_step HB5.out hb); clear hb) | (go_at_call 40; (with_reducible refine (C.p_rcount (Kd.C_below HC.out HB6.out) HCC.out HO.out HL.out a1 a2).mono ?_); rw [HY.out]; rintro e w7 ⟨rfl, hb⟩; have HB7 := Aside0.mk (below_step HB6.out hb); clear hb) | (go_at_call 12; (with_reducible refine (p_awake _).mono ?_); rintro e wA ⟨rfl, hb⟩; have HBA := Aside0.mk (below_step HB7.out hb); clear hb))
      go_ret
      exact ⟨by first | rfl | (simp; done), HBA.out⟩
    · obtain ⟨x, hx, hne⟩ : ∃ x, chk l = x ∧ x ≠ 0 := ⟨_, rfl, hx0⟩
      have HX := Aside0.mk hx
      have HCHK := Aside0.mk hx0
      have e0 : (x != 0) = true := by simp [hne]
      have e1 : decide (x = 0) = false := decide_eq_false hne
      have e2 : (x == x) = true := by simp
      clear h1 hx0 hx hne
      go_enter Try.func11, Try.ntmps11
      go_wp2_with (first | (go_at_call 13; (with_reducible refine (p_build_no HC.out HCHK.out a1).mono ?_); rw [HX.out]; rintro e w2 ⟨rfl, hb⟩; have HB2 := Aside0.mk hb; clear hb) | (go_at_call 14; (with_reducible refine (p_rcheck (Kd.C_below HC.out HB2.out) HCC.out).mono ?_); rw [HX.out]; rintro e w3 ⟨rfl, hb⟩; have HB3 := Aside0.mk (below_step HB2.out hb); clear hb) | (go_at_call 12; (with_reducible refine (p_awake _).mono ?_); rintro e wA ⟨rfl, hb⟩; have HBA := Aside0.mk (below_step HB3.out hb); clear hb))
      go_ret
      exact ⟨by first | rfl | (simp; done), HBA.out⟩
end Go.Proofs.Ytljcohjafcjgdaa.Stk
