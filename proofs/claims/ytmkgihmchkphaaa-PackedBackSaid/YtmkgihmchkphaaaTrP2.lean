/- The trie: a table, read. -/
import Derived.Test.YtmkgihmchkphaaaTrP1
import Derived.Laws.Bits128
import Derived.Deep.Slices
namespace Go.Proofs.Ytmkgihmchkphaaa.Stk
open Go.RowKit Go.Proofs.YtmkgihmchkphaaaW.PrintWords Go.Proofs.YtmkgihmchkphaaaW.PrintLast Go.Proofs.YtmkgihmchkphaaaW.PrintMore
attribute [local go_sem] max2_int min2_int max_two min_two max_three min_three max_four min_four   -- for this text's walks alone
set_option linter.unusedVariables false
set_option linter.unusedSimpArgs false
/-- A table at block g: which block each part has, and the blocks. -/
def TabR (w : World) (g : Nat) (fs : List Int) (bs : List (List Int)) (z : Int) (made : Bool) : Prop :=
  ∃ (A1 : Option Addr) (c1 : Nat) (A2 : Option Addr) (c2 : Nat), w.heap[g]? = some (.cells #[.slice A1 fs.length c1, .slice A2 bs.length c2, .int .i64 z, .bool made] 105 (0, 0)) ∧ (fs.length ≤ c1 ∧ Kd.C (Kd.int .i64) w A1 fs.length fs) ∧ (bs.length ≤ c2 ∧ Kd.C kB w A2 bs.length bs)
section
variable {w w' : World} {g : Nat} {fs : List Int} {bs : List (List Int)} {z : Int} {made : Bool}
theorem tab_below (h : TabR w g fs bs z made) (hb : Below w.heap.size w w') : TabR w' g fs bs z made := by
  obtain ⟨A1, c1, A2, c2, hG, h1, h2⟩ := h
  exact ⟨A1, c1, A2, c2, blk_below hG hb, ⟨h1.1, Kd.C_below h1.2 hb⟩, ⟨h2.1, Kd.C_below h2.2 hb⟩⟩
theorem tab_lt (h : TabR w g fs bs z made) : g < w.heap.size := by
  obtain ⟨A1, c1, A2, c2, hG, _⟩ := h
  exact blk_lt hG
end
theorem map_get (l : List Int) (j : Nat) (hj : j < l.length) : (l.map (Value.int .i64))[j]? = some (.int .i64 (l.getD j 0)) := by simp [List.getElem?_eq_getElem hj, List.getD]
theorem at_B {w : World} {A : Option Addr} {n : Nat} {xs : List (List Int)} (h : Kd.C kB w A n xs) (i : Nat) (h1 : i < n) : (xs.getD i []).length = 128 ∧ ∃ ad, A = some ad ∧ ∀ j v, ((xs.getD i []).map (Value.int .i64))[j]? = some v → w.cell? (ad.add (i * 128 + j)) = some v := by
  obtain ⟨ad, c, e, _, hK, hc0⟩ := Kd.C_get h [] (i : Int) (by omega) (by omega)
  rw [Int.toNat_natCast] at hK hc0
  obtain ⟨hl, rfl⟩ := hK
  exact ⟨hl, ad, e, hc0⟩
/-- What a table has at a code. -/
def tabv (fs : List Int) (bs : List (List Int)) (c : Int) : Int := (bs.getD (fs.getD (c / 128).toNat 0).toNat []).getD (c % 128).toNat 0
/-- A table's parts are there. -/
def TabOk (fs : List Int) (bs : List (List Int)) : Prop := fs.length = 8704 ∧ ∀ p, p < 8704 → 0 ≤ fs.getD p 0 ∧ fs.getD p 0 < (bs.length : Int)
set_option maxHeartbeats 8000000 in
set_option maxRecDepth 100000 in
theorem p_at {w : World} {g : Nat} {fs : List Int} {bs : List (List Int)} {z : Int} (h : TabR w g fs bs z true) (hk : TabOk fs bs) (c : Int) (h0 : 0 ≤ c) (h1 : c ≤ 1114111) :
    Calls Try.prog 84 #[.pointer (some ⟨g, 0, none⟩), .int .i64 c] w fun e w' => e = .returned (.int .i64 (tabv fs bs c)) ∧ Drawn0 w w' := by
  obtain ⟨A1, c1, A2, c2, hG, ⟨hc1, hC1⟩, ⟨hc2, hC2⟩⟩ := h
  have k0 := (blk_cell hG 0).trans rfl
  have k1 := (blk_cell hG 1).trans rfl
  have hp0 : 0 ≤ c / 128 := by omega
  have hp1 : c / 128 < (fs.length : Int) := by have := hk.1; omega
  obtain ⟨a1, e, x1⟩ := Kd.at_int hC1 (c / 128) hp0 (by exact_mod_cast hp1)
  cases e
  obtain ⟨b0, b1⟩ := hk.2 (c / 128).toNat (by have := hk.1; omega)
  have e1 : rd fs (c / 128) = fs.getD (c / 128).toNat 0 := rfl
  obtain ⟨b, hb⟩ : ∃ b : Nat, fs.getD (c / 128).toNat 0 = (b : Int) := ⟨(fs.getD (c / 128).toNat 0).toNat, by omega⟩
  have hb1 : b < bs.length := by omega
  obtain ⟨hl, a2, e, x2⟩ := at_B hC2 b hb1
  cases e
  have ev : tabv fs bs c = (bs.getD b []).getD (c % 128).toNat 0 := by unfold tabv; rw [hb, Int.toNat_natCast]
  rw [ev]
  rw [e1, hb] at x1
  have x3 : w.cell? ((a2.add (b * 128)).add (c % 128).toNat) = some (.int .i64 ((bs.getD b []).getD (c % 128).toNat 0)) := by
    rw [Go.Deep.add_add]
    exact x2 _ _ (map_get _ _ (by rw [hl]; omega))
  generalize (bs.getD b []).getD (c % 128).toNat 0 = v at x3 ⊢
  have hbit : Go.bits .and .i64 c 127 = c % 128 := i64_and127 c
  have q0 : (0 ≤ c % 128) = True := eq_true (by omega)
  have q1 : (c % 128 < 128) = True := eq_true (by omega)
  have r0 : (0 ≤ c / 128) = True := eq_true hp0
  have r1 : (c / 128 < (fs.length : Int)) = True := eq_true hp1
  have s1 : ((b : Int) < (bs.length : Int)) = True := eq_true (by omega)
  have s2 : (b < bs.length) = True := eq_true hb1
  clear hp0 hp1 hb1
  clear x2 ev b0 b1 e1 hb hl
  go_enter Try.func84, Try.ntmps84
  go_wp2
  go_quiet (first | done)
  go_wp2
  go_ret
  exact ⟨rfl, by repeat (first | exact Drawn0.refl _ | apply Drawn0.step)⟩
theorem b_at {w : World} {g : Nat} {fs : List Int} {bs : List (List Int)} {z : Int} (h : TabR w g fs bs z true) (hk : TabOk fs bs) (c : Int) (h0 : 0 ≤ c) (h1 : c ≤ 1114111) :
    Calls Try.prog 84 #[.pointer (some ⟨g, 0, none⟩), .int .i64 c] w fun e w' => e = .returned (.int .i64 (tabv fs bs c)) ∧ Below w.heap.size w w' := (p_at h hk c h0 h1).mono fun _ _ ⟨a, n, e⟩ => ⟨a, by rw [e]; exact pw_below_drewN (Below.refl _ _) n⟩
set_option maxHeartbeats 8000000 in
set_option maxRecDepth 100000 in
theorem p_has {w : World} {g : Nat} {fs : List Int} {bs : List (List Int)} {z : Int} {made : Bool} (h : TabR w g fs bs z made) (c : Int) (r : Bool) (hr : r = (made && decide (0 ≤ c) && decide (c ≤ 1114111))) :
    Calls Try.prog 83 #[.pointer (some ⟨g, 0, none⟩), .int .i64 c] w fun e w' => e = .returned (.bool r) ∧ Drawn0 w w' := by
  obtain ⟨A1, c1, A2, c2, hG, ⟨hc1, hC1⟩, ⟨hc2, hC2⟩⟩ := h
  have k2 := (blk_cell hG 2).trans rfl
  have k3 := (blk_cell hG 3).trans rfl
  subst hr
  cases made with
  | false =>
    go_enter Try.func83, Try.ntmps83
    go_wp2
    go_ret
    exact ⟨by first | rfl | (simp; done) | (simp [*]; done), by repeat (first | exact Drawn0.refl _ | apply Drawn0.step)⟩
  | true =>
    by_cases c1 : 0 ≤ c
    · have b1 : decide (0 ≤ c) = true := decide_eq_true c1
      have b2 : (c ≥ 0) = True := eq_true c1
      by_cases c2 : c ≤ 1114111
      · have b3 : decide (c ≤ 1114111) = true := decide_eq_true c2
        rw [b1, b3]
        clear c1 c2
        go_enter Try.func83, Try.ntmps83
        go_wp2
        go_ret
        exact ⟨by first | rfl | (simp; done) | (simp [*]; done), by repeat (first | exact Drawn0.refl _ | apply Drawn0.step)⟩
      · have b3 : decide (c ≤ 1114111) = false := decide_eq_false c2
        rw [b1, b3]
        clear c1 c2
        go_enter Try.func83, Try.ntmps83
        go_wp2
        go_ret
        exact ⟨by first | rfl | (simp; done) | (simp [*]; done), by repeat (first | exact Drawn0.refl _ | apply Drawn0.step)⟩
    · have b1 : decide (0 ≤ c) = false := decide_eq_false c1
      rw [b1]
      clear c1
      go_enter Try.func83, Try.ntmps83
      go_wp2
      go_ret
      exact ⟨by first | rfl | (simp; done) | (simp [*]; done), by repeat (first | exact Drawn0.refl _ | apply Drawn0.step)⟩
theorem p_has_nil (c : Int) (w : World) : Calls Try.prog 83 #[.pointer none, .int .i64 c] w fun e w' => e = .returned (.bool false) ∧ Drawn0 w w' := by
  go_enter Try.func83, Try.ntmps83
  go_wp2
  go_ret
  exact ⟨by first | rfl | (simp; done) | (simp [*]; done), by repeat (first | exact Drawn0.refl _ | apply Drawn0.step)⟩
set_option maxHeartbeats 8000000 in
set_option maxRecDepth 100000 in
theorem p_get {w : World} {g : Nat} {fs : List Int} {bs : List (List Int)} {z : Int} (h : TabR w g fs bs z true) (hk : TabOk fs bs) (c : Int) :
    Calls Try.prog 46 #[.pointer (some ⟨g, 0, none⟩), .int .i64 c] w fun e w' => e = .returned (.int .i64 (if 0 ≤ c ∧ c ≤ 1114111 then tabv fs bs c else z)) ∧ Below w.heap.size w w' := by
  have HT := Aside0.mk h
  have HK := Aside0.mk hk
  obtain ⟨A1, c1, A2, c2, hG, ⟨hc1, hC1⟩, ⟨hc2, hC2⟩⟩ := h
  have HK2 := Aside0.mk ((blk_cell hG 2).trans rfl)
  clear hG hC1 hC2
  by_cases hc : 0 ≤ c ∧ c ≤ 1114111
  · rw [if_pos hc]
    have HC := Aside0.mk hc
    clear hc hk
    go_enter Try.func46, Try.ntmps46
    go_wp2_with (first | (go_at_call 83; (with_reducible refine (p_has HT.out c true (by simp [HC.out.1, HC.out.2])).mono ?_); rintro e w1 ⟨rfl, hd⟩; have HB := Aside0.mk (show Below w.heap.size w w1 from by obtain ⟨n, e⟩ := hd; rw [e]; exact pw_below_drewN (Below.refl _ _) n); have k2 := pw_cell_below HB.out HK2.out; clear hd) | (go_at_call 84; (with_reducible refine (b_at (tab_below HT.out HB.out) HK.out c HC.out.1 HC.out.2).mono ?_); rintro e w2 ⟨rfl, hb⟩; have HB2 := Aside0.mk (below_step HB.out hb); clear hb))
    go_ret
    exact ⟨by first | rfl | (simp; done), HB2.out⟩
  · rw [if_neg hc]
    have HC := Aside0.mk hc
    clear hc hk
    go_enter Try.func46, Try.ntmps46
    go_wp2_with (first | (go_at_call 83; (with_reducible refine (p_has HT.out c false (by have := HC.out; simp; omega)).mono ?_); rintro e w1 ⟨rfl, hd⟩; have HB := Aside0.mk (show Below w.heap.size w w1 from by obtain ⟨n, e⟩ := hd; rw [e]; exact pw_below_drewN (Below.refl _ _) n); have k2 := pw_cell_below HB.out HK2.out; clear hd))
    go_ret
    exact ⟨by first | rfl | (simp; done), by first | exact HB.out | exact HB.out.drew⟩
end Go.Proofs.Ytmkgihmchkphaaa.Stk
