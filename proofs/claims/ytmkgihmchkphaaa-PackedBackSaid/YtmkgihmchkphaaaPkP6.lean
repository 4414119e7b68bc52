/- Packed: awake. -/
import Derived.Test.YtmkgihmchkphaaaPkP5
namespace Go.Proofs.Ytmkgihmchkphaaa.Stk
open Go.RowKit Go.Proofs.YtmkgihmchkphaaaW.PrintWords Go.Proofs.YtmkgihmchkphaaaW.PrintLast Go.Proofs.YtmkgihmchkphaaaW.PrintMore
attribute [local go_sem] max2_int min2_int max_two min_two max_three min_three max_four min_four   -- for this text's walks alone
set_option linter.unusedVariables false
set_option linter.unusedSimpArgs false
theorem aw_enc : encB 1 (mrgF 1 aw) = [1, 1, 5, 1, 9] := by decide
theorem n300 : [] ++ numB 300 = [172, 2] := by decide
theorem p_encode_aw (w : World) : Calls Try.prog 39 #[.slice (some ⟨w.heap.size, 0, none⟩) 1 1, .int .i64 1] (w.alloc (.cells #[.int .i64 5, .int .i64 6, .int .i64 9] 66 (0, 0))) fun e w' => ∃ (A2 : Option Addr) (c2 : Nat), e = .returned (.tuple #[.slice A2 5 c2, .int .i64 0]) ∧ Kd.C (Kd.int .u8) w' A2 5 [1, 1, 5, 1, 9] ∧ 5 ≤ c2 ∧ Below w.heap.size w w' := by
  have h := p_encode (l := aw) (cc := 1) (aw_row w) aw_chk 1 (by decide) (by decide)
  rw [aw_enc] at h
  exact h.mono fun e w' ⟨A2, c2, h1, h2, h3, h4⟩ => ⟨A2, c2, h1, h2, h3, (below_alloc (Below.refl _ _) _).trans (h4.mono (below_alloc (Below.refl w.heap.size w) (.cells #[.int .i64 5, .int .i64 6, .int .i64 9] 66 (0, 0))).size)⟩
theorem p_number_300 (w : World) : Calls Try.prog 28 #[.slice none 0 0, .int .i64 300] w fun e w' => ∃ (A2 : Option Addr) (c2 : Nat), e = .returned (.slice A2 2 c2) ∧ Kd.C (Kd.int .u8) w' A2 2 [172, 2] ∧ 2 ≤ c2 ∧ Below w.heap.size w w' := by
  have h := p_number (l := []) (A := none) (c := 0) (w := w) ⟨rfl, by decide, fun h => by simp at h⟩ (Nat.le_refl _) (by simp) 300
  rw [n300] at h
  exact h
theorem p_eq5 {w : World} {A : Option Addr} {c : Nat} (h : Kd.C (Kd.int .u8) w A 5 [1, 1, 5, 1, 9]) (hc : 5 ≤ c) (t : TypeId) : Calls Try.prog 27 #[.slice A 5 c, .slice (some ⟨w.heap.size, 0, none⟩) 5 5] (w.alloc (.cells #[.int .u8 1, .int .u8 1, .int .u8 5, .int .u8 1, .int .u8 9] t (0, 0))) fun e w' => e = .returned (.bool true) ∧ Below w.heap.size w w' :=
  (p_eqb (l := [1, 1, 5, 1, 9]) (Kd.C_below h (below_alloc (Below.refl _ _) _)) hc (row_lit w t .u8 [1, 1, 5, 1, 9] (by simp)) (Nat.le_refl _)).mono fun e w' ⟨h1, h4⟩ => ⟨h1, (below_alloc (Below.refl _ _) _).trans (h4.mono (below_alloc (Below.refl w.heap.size w) (.cells #[.int .u8 1, .int .u8 1, .int .u8 5, .int .u8 1, .int .u8 9] t (0, 0))).size)⟩
theorem p_eq2 {w : World} {A : Option Addr} {c : Nat} (h : Kd.C (Kd.int .u8) w A 2 [172, 2]) (hc : 2 ≤ c) (t : TypeId) : Calls Try.prog 27 #[.slice A 2 c, .slice (some ⟨w.heap.size, 0, none⟩) 2 2] (w.alloc (.cells #[.int .u8 172, .int .u8 2] t (0, 0))) fun e w' => e = .returned (.bool true) ∧ Below w.heap.size w w' :=
  (p_eqb (l := [172, 2]) (Kd.C_below h (below_alloc (Below.refl _ _) _)) hc (row_lit w t .u8 [172, 2] (by simp)) (Nat.le_refl _)).mono fun e w' ⟨h1, h4⟩ => ⟨h1, (below_alloc (Below.refl _ _) _).trans (h4.mono (below_alloc (Below.refl w.heap.size w) (.cells #[.int .u8 172, .int .u8 2] t (0, 0))).size)⟩
set_option maxHeartbeats 8000000 in
set_option maxRecDepth 100000 in
theorem p_awakeP (w : World) : Calls Try.prog 24 #[] w fun e w' => e = .returned (.bool true) ∧ Below w.heap.size w w' := by
  go_enter Try.func24, Try.ntmps24
  go_wp2_with (first | (go_at_call 39; (with_reducible refine (p_encode_aw w).mono ?_); rintro e w1 ⟨A1, c1, rfl, h1, h2, hb⟩; have HC1 := Aside0.mk h1; have HCC1 := Aside0.mk h2; have HB1 := Aside0.mk hb; clear h1 h2 hb) | (go_at_call 27; (with_reducible refine (p_eq5 HC1.out HCC1.out _).mono ?_); rintro e w2 ⟨rfl, hb⟩; have HB2 := Aside0.mk (below_step HB1.out hb); clear hb) | (go_at_call 28; (with_reducible refine (p_number_300 w2).mono ?_); rintro e w3 ⟨A3, c3, rfl, h1, h2, hb⟩; have HC3 := Aside0.mk h1; have HCC3 := Aside0.mk h2; have HB3 := Aside0.mk (below_step HB2.out hb); clear h1 h2 hb) | (go_at_call 27; (with_reducible refine (p_eq2 HC3.out HCC3.out _).mono ?_); rintro e w4 ⟨rfl, hb⟩; have HB4 := Aside0.mk (below_step HB3.out hb); clear hb))
  go_ret
  exact ⟨by first | rfl | (simp; done), HB4.out⟩
end Go.Proofs.Ytmkgihmchkphaaa.Stk
