/- Packed: the law PackedNumbers. -/
import Derived.Test.YtmkgihmchkphaaaPkP6
namespace Go.Proofs.Ytmkgihmchkphaaa.Stk
open Go.RowKit Go.Proofs.YtmkgihmchkphaaaW.PrintWords Go.Proofs.YtmkgihmchkphaaaW.PrintLast Go.Proofs.YtmkgihmchkphaaaW.PrintMore
attribute [local go_sem] max2_int min2_int max_two min_two max_three min_three max_four min_four   -- for this text's walks alone
set_option linter.unusedVariables false
set_option linter.unusedSimpArgs false
set_option maxHeartbeats 8000000 in
set_option maxRecDepth 100000 in
theorem p_pnumbers (A : Option Addr) (c : Nat) (l : List Int) (n : Int) (w : World) (hC : Kd.C (Kd.int .u8) w A l.length l) (hc : l.length ≤ c) (hb : Bytes l) :
    Calls Try.prog 6 #[.slice A l.length c, .int .i64 n] w fun e w' => e = .returned (.bool true) ∧ Below w.heap.size w w' := by
  have HC := Aside0.mk hC
  have HCC := Aside0.mk hc
  have HBY := Aside0.mk hb
  have HB0 := Aside0.mk (Below.refl w.heap.size w)
  clear hC hc hb
  by_cases h1 : 200 < l.length
  · have p0 : decide ((l.length : Int) > 200) = true := decide_eq_true (by omega)
    have p1 : decide (200 < (l.length : Int)) = true := decide_eq_true (by omega)
    have p2 : decide (200 < l.length) = true := decide_eq_true h1
    clear h1
    go_enter Try.func6, Try.ntmps6
    go_wp2_with (first | (go_at_call 24; (with_reducible refine (p_awakeP _).mono ?_); rintro e wA ⟨rfl, hb⟩; have HBA := Aside0.mk (below_step HB0.out hb); clear hb))
    go_ret
    exact ⟨by first | rfl | (simp; done), HBA.out⟩
  · have p0 : decide ((l.length : Int) > 200) = false := decide_eq_false (by omega)
    have p1 : decide (200 < (l.length : Int)) = false := decide_eq_false (by omega)
    have p2 : decide (200 < l.length) = false := decide_eq_false h1
    have HLN := Aside0.mk (show l.length < 140737488355000 by omega)
    obtain ⟨⟨t1, t2, t3⟩, ht⟩ : ∃ t, takB l = t := ⟨_, rfl⟩
    have HT := Aside0.mk ht
    obtain ⟨Y, hy⟩ : ∃ Y, l ++ numB n = Y := ⟨_, rfl⟩
    have HY := Aside0.mk hy
    have e1 : (t1 == t1) = true := by simp
    have e2 : (t2 == t2) = true := by simp
    have e3 : (t3 == t3) = true := by simp
    clear h1 ht hy
    go_enter Try.func6, Try.ntmps6
    go_wp2_with (first | (go_at_call 25; (with_reducible refine (p_take HC.out HCC.out HBY.out).mono ?_); rw [HT.out]; rintro e w1 ⟨rfl, hb⟩; have HB1 := Aside0.mk hb; clear hb) | (go_at_call 26; (with_reducible refine (p_rtake (Kd.C_below HC.out HB1.out) HCC.out HBY.out).mono ?_); rw [HT.out]; rintro e w2 ⟨rfl, hb⟩; have HB2 := Aside0.mk (below_step HB1.out hb); clear hb) | (go_at_call 28; (with_reducible refine (p_number (Kd.C_below HC.out HB2.out) HCC.out HLN.out n).mono ?_); rw [HY.out]; rintro e w3 ⟨A3, c3, rfl, h1, h2, hb⟩; have HB3 := Aside0.mk (below_step HB2.out hb); have HC3 := Aside0.mk h1; have HCC3 := Aside0.mk h2; clear h1 h2 hb) | (go_at_call 29; (with_reducible refine (p_rnumber (Kd.C_below HC.out HB3.out) HCC.out HLN.out n).mono ?_); rw [HY.out]; rintro e w4 ⟨A4, c4, rfl, h1, h2, hb⟩; have HB4 := Aside0.mk (below_step HB3.out hb); have HC34 := Aside0.mk (Kd.C_below HC3.out hb); have HC4 := Aside0.mk h1; have HCC4 := Aside0.mk h2; clear h1 h2 hb) | (go_at_call 27; (with_reducible refine (p_eqb HC34.out HCC3.out HC4.out HCC4.out).mono ?_); rintro e w5 ⟨rfl, hb⟩; have HBX := Aside0.mk (below_step HB4.out hb); clear hb) | (go_at_call 24; (with_reducible refine (p_awakeP _).mono ?_); rintro e wA ⟨rfl, hb⟩; have HBA := Aside0.mk (below_step HBX.out hb); clear hb))
    go_ret
    exact ⟨by first | rfl | (simp; done), HBA.out⟩
end Go.Proofs.Ytmkgihmchkphaaa.Stk
