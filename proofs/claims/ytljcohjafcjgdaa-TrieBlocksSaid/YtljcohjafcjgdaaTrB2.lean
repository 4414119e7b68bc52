/- The trie: the law TrieBlocks. -/
import Derived.Test.YtljcohjafcjgdaaTrB1
namespace Go.Proofs.Ytljcohjafcjgdaa.Stk
open Go.RowKit Go.Proofs.YtljcohjafcjgdaaW.PrintWords Go.Proofs.YtljcohjafcjgdaaW.PrintLast Go.Proofs.YtljcohjafcjgdaaW.PrintMore
attribute [local go_sem] max2_int min2_int max_two min_two max_three min_three max_four min_four   -- for this text's walks alone
set_option linter.unusedVariables false
set_option linter.unusedSimpArgs false
set_option maxHeartbeats 8000000 in
set_option maxRecDepth 100000 in
theorem p_tblocks (A : Option Addr) (c : Nat) (l : List Rg) (a1 : Int) (w : World) (hC : Kd.C kR w A l.length l) (hc : l.length ≤ c) (hln : l.length < 5864062014805) :
    Calls Try.prog 3 #[.slice A l.length c, .int .i64 a1] w fun e w' => e = .returned (.bool true) ∧ Below w.heap.size w w' := by
  have HC := Aside0.mk hC
  have HCC := Aside0.mk hc
  have HB0 := Aside0.mk (Below.refl w.heap.size w)
  clear hC hc hln
  by_cases h1 : 6 < l.length
  · have p0 : decide ((l.length : Int) > 6) = true := decide_eq_true (by omega)
    have p1 : decide (6 < (l.length : Int)) = true := decide_eq_true (by omega)
    have p2 : decide (6 < l.length) = true := decide_eq_true h1
    clear h1
    go_enter Try.func3, Try.ntmps3
    go_wp2_with (first | (go_at_call 12; (with_reducible refine (p_awake _).mono ?_); rintro e wA ⟨rfl, hb⟩; have HBA := Aside0.mk (below_step HB0.out hb); clear hb))
    go_ret
    exact ⟨by first | rfl | (simp; done), HBA.out⟩
  · have p0 : decide ((l.length : Int) > 6) = false := decide_eq_false (by omega)
    have p1 : decide (6 < (l.length : Int)) = false := decide_eq_false (by omega)
    have p2 : decide (6 < l.length) = false := decide_eq_false h1
    by_cases hx0 : chk l = 0
    · have HX := Aside0.mk hx0
      have HO := Aside0.mk (chk_ok hx0).2
      have HL := Aside0.mk (chk_ok hx0).1
      clear h1 hx0
      go_enter Try.func3, Try.ntmps3
      go_wp2_with (first | (go_at_call 13; (with_reducible refine (p_build HC.out HX.out a1).mono ?_); rintro e w2 ⟨g, fs, bs, rfl, hb, hT, _, hBt⟩; have HB2 := Aside0.mk hb; have HT2 := Aside0.mk hT; have HBT := Aside0.mk hBt; obtain ⟨N, hN⟩ : ∃ N : Int, (bs.length : Int) = N := ⟨_, rfl⟩; have HN := Aside0.mk hN; have e1 : (N == N) = true := (by simp); clear hb hT hBt hN) | (go_at_call 15; (with_reducible refine (p_blocks HT2.out).mono ?_); rw [HN.out]; rintro e w3 ⟨rfl, hd⟩; have HB3 := Aside0.mk (below_step HB2.out (drawn_below hd)); clear hd) | (go_at_call 16; (with_reducible refine (B.p_rblocks (Kd.C_below HC.out HB3.out) HCC.out HO.out HL.out HBT.out).mono ?_); rw [HN.out]; rintro e w4 ⟨rfl, hb⟩; have HB4 := Aside0.mk (below_step HB3.out hb); clear hb) | (go_at_call 12; (with_reducible refine (p_awake _).mono ?_); rintro e wA ⟨rfl, hb⟩; have HBA := Aside0.mk (below_step HB4.out hb); clear hb))
      go_ret
      exact ⟨by first | rfl | (simp; done), HBA.out⟩
    · obtain ⟨x, hx, hne⟩ : ∃ x, chk l = x ∧ x ≠ 0 := ⟨_, rfl, hx0⟩
      have HX := Aside0.mk hx
      have HCHK := Aside0.mk hx0
      have e0 : (x != 0) = true := by simp [hne]
      have e1 : decide (x = 0) = false := decide_eq_false hne
      have e2 : (x == x) = true := by simp
      clear h1 hx0 hx hne
      go_enter Try.func3, Try.ntmps3
      go_wp2_with (first | (go_at_call 13; (with_reducible refine (p_build_no HC.out HCHK.out a1).mono ?_); rw [HX.out]; rintro e w2 ⟨rfl, hb⟩; have HB2 := Aside0.mk hb; clear hb) | (go_at_call 14; (with_reducible refine (p_rcheck (Kd.C_below HC.out HB2.out) HCC.out).mono ?_); rw [HX.out]; rintro e w3 ⟨rfl, hb⟩; have HB3 := Aside0.mk (below_step HB2.out hb); clear hb) | (go_at_call 12; (with_reducible refine (p_awake _).mono ?_); rintro e wA ⟨rfl, hb⟩; have HBA := Aside0.mk (below_step HB3.out hb); clear hb))
      go_ret
      exact ⟨by first | rfl | (simp; done), HBA.out⟩
end Go.Proofs.Ytljcohjafcjgdaa.Stk
