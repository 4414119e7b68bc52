/- Packed: put; Take. -/
import Derived.Test.YtmkgihmchkphaaaPkP2
import Derived.Laws.BitsAllLaws
namespace Go.Proofs.Ytmkgihmchkphaaa.Stk
open Go.RowKit Go.Proofs.YtmkgihmchkphaaaW.PrintWords Go.Proofs.YtmkgihmchkphaaaW.PrintLast Go.Proofs.YtmkgihmchkphaaaW.PrintMore
attribute [local go_sem] max2_int min2_int max_two min_two max_three min_three max_four min_four   -- for this text's walks alone
set_option linter.unusedVariables false
set_option linter.unusedSimpArgs false
theorem numB_len (n : Int) : (numB n).length ≤ 5 := by
  have h : ∀ (k : Nat) (n : Int), (digF k n).length ≤ k := fun k => by
    induction k with
    | zero => intro n; exact Nat.le_refl _
    | succ k ih => intro n; unfold digF; split; exact Nat.succ_le_succ (ih _); simp
  exact h 5 _
def putB (ns : List Int) : List Int := ns.flatMap numB
theorem putB_len (ns : List Int) : (putB ns).length ≤ 5 * ns.length := by
  induction ns with
  | nil => exact Nat.le_refl _
  | cons n ns ih =>
    have h1 := numB_len n
    unfold putB at ih ⊢
    rw [List.flatMap_cons, List.length_append, List.length_cons]
    omega
theorem putB_snoc {ns : List Int} {i : Nat} (hi : i < ns.length) : putB (ns.take (i + 1)) = putB (ns.take i) ++ numB (ns.getD i 0) := by
  unfold putB
  rw [List.take_add_one, List.flatMap_append]
  simp [List.getD, hi]
set_option maxHeartbeats 8000000 in
set_option maxRecDepth 100000 in
theorem p_put {w : World} {A A1 : Option Addr} {c c1 : Nat} {l ns : List Int} (h : Kd.C (Kd.int .u8) w A l.length l) (hc : l.length ≤ c) (h1 : Kd.C (Kd.int .i64) w A1 ns.length ns) (hl : l.length + 5 * ns.length < 140737488355000) :
    Calls Try.prog 76 #[.slice A l.length c, .slice A1 ns.length c1] w fun e w' => ∃ (A2 : Option Addr) (c2 : Nat), e = .returned (.slice A2 (l ++ putB ns).length c2) ∧ Kd.C (Kd.int .u8) w' A2 (l ++ putB ns).length (l ++ putB ns) ∧ (l ++ putB ns).length ≤ c2 ∧ Below w.heap.size w w' := by
  have H0 := Aside0.mk h
  have HC0 := Aside0.mk hc
  have H1 := Aside0.mk h1
  have HL := Aside0.mk hl
  have HB0 := Aside0.mk (Below.refl w.heap.size w)
  clear h hc h1 hl
  go_enter Try.func76, Try.ntmps76
  go_wp2
  go_loopg [0, 9] (ns.length + 1) (fun kq v0 v9 w' => ∃ (i : Nat) (A2 : Option Addr) (c2 : Nat) (b : List Int), v0 = .slice A2 b.length c2 ∧ v9 = .int .i64 (i : Int) ∧ Aside0 (b = l ++ putB (ns.take i) ∧ i ≤ ns.length ∧ ns.length + 1 - i ≤ kq) ∧ Aside0 (Kd.C (Kd.int .u8) w' A2 b.length b) ∧ Aside0 (b.length ≤ c2) ∧ Aside0 (Below w.heap.size w w'))
  case atStart => exact ⟨0, A, c, l, rfl, rfl, ⟨by simp [putB], Nat.zero_le _, Nat.sub_le _ _⟩, H0, HC0, HB0⟩
  case round =>
    obtain ⟨i, A2, c2, b, rfl, rfl, HI, HX, HCX, HB⟩ := hrel
    by_cases hlt : i < ns.length
    · have q0 := decide_eq_true (show (i : Int) < (ns.length : Int) by omega)
      have q1 := decide_eq_true hlt
      have r0 := eq_true (show (i : Int) < (ns.length : Int) by omega)
      have r1 := eq_true hlt
      have r2 := eq_true (show (0 : Int) ≤ (i : Int) by omega)
      obtain ⟨ad, e, x0_⟩ := Kd.at_int (Kd.C_below H1.out HB.out) (i : Int) (by omega) (by omega)
      cases e
      rw [Int.toNat_natCast] at x0_
      have HS := Aside0.mk (putB_snoc hlt)
      have er : rd ns (i : Int) = ns.getD i 0 := by unfold rd; rw [Int.toNat_natCast]
      rw [er] at x0_
      generalize ns.getD i 0 = x at x0_ HS
      have HLX := Aside0.mk (show b.length < 140737488355000 by
        have h1 := putB_len (ns.take i)
        have h2 := HL.out
        rw [HI.out.1, List.length_append]
        rw [List.length_take] at h1
        omega)
      have HLT := Aside0.mk hlt
      have hwi : IntKind.i64.wrap ((i : Int) + 1) = ((i + 1 : Nat) : Int) := (i64_w _).trans (up1 hlt H1.out.2.1)
      clear hlt er
      go_wp2_with (first | (go_at_call 28; (with_reducible refine (p_number HX.out HCX.out HLX.out x).mono ?_); rintro e w5 ⟨A5, c5, rfl, h5, h6, hb⟩; have HX5 := Aside0.mk h5; have HCX5 := Aside0.mk h6; have HB5 := Aside0.mk (below_step HB.out hb); clear h5 h6 hb))
      go_roundg (ns.length + 1 - (i + 1))
      case measure => have h1_ := HI.out.2.2; have h2_ := HLT.out; omega
      case rel => exact ⟨i + 1, A5, c5, b ++ numB x, by first | rfl | rw [List.length_append], by first | rfl | go_num | rw [hwi], ⟨by rw [HS.out, HI.out.1, List.append_assoc], HLT.out, Nat.le_refl _⟩, HX5, HCX5, HB5⟩
    · have q0 := decide_eq_false (show ¬ (i : Int) < (ns.length : Int) by omega)
      have q1 := decide_eq_false hlt
      have HE := Aside0.mk (show b = l ++ putB ns by rw [HI.out.1, List.take_of_length_le (by omega)])
      clear hlt
      go_wp2
      go_ret
      exact ⟨A2, c2, by rw [← HE.out]; first | rfl | (simp; done), by rw [← HE.out]; exact HX.out, by rw [← HE.out]; exact HCX.out, HB.out⟩
def pw : Nat → Int
  | 0 => 1
  | i + 1 => pw i * 128
/-- The number with which bytes begin. -/
def takF : List Int → Nat → Int → Int → Int × Int × Bool
  | [], _, _, _ => (0, 0, false)
  | x :: xs, i, n, t => if x < 128 then (if n + x * t ≤ 2147483648 ∧ ¬ (x = 0 ∧ 0 < i) then (n + x * t, (i : Int) + 1, true) else (0, 0, false)) else takF xs (i + 1) (n + (x - 128) * t) (t * 128)
def takB (l : List Int) : Int × Int × Bool := takF (l.take 5) 0 0 1
theorem le4 {i : Nat} (h : i ≤ 4) : i = 0 ∨ i = 1 ∨ i = 2 ∨ i = 3 ∨ i = 4 := by omega
theorem pw_ok {i : Nat} (h : i ≤ 4) : 1 ≤ pw i ∧ pw i ≤ 268435456 ∧ (2 : Int) ^ (7 * (i : Int)).toNat = pw i := by
  rcases le4 h with rfl | rfl | rfl | rfl | rfl <;> decide
theorem wraps_i64 (n : Int) (h0 : 0 ≤ n) (h1 : n < 2 ^ 63) : IntKind.i64.wrap n = n := by rw [IntKind.wrap_i64]; omega
theorem or_join {i : Nat} (hi : i ≤ 4) {n y : Int} (hn0 : 0 ≤ n) (hn : n < pw i) (hy0 : 0 ≤ y) (hy : y < 128) : Go.bits .or .i64 n (y * pw i) = n + y * pw i := by
  have hc : Go.bits .or .i64 n (y * pw i) = Go.bits .or .i64 (y * pw i) n := by simp only [Go.bits, BitVec.or_comm]
  rw [hc]
  rcases le4 hi with rfl | rfl | rfl | rfl | rfl
  · rw [bits_join .i64 63 (by decide) wraps_i64 0 (y * pw 0) n (by first | (simp [pw]; done) | (simp [pw]; omega)) (by first | (simp [pw]; done) | (simp [pw]; omega)) (by first | (simp [pw]; done) | (simp [pw]; omega)) hn0 (by simp [pw] at hn ⊢; omega) (by simp [pw] at hn; omega)]; omega
  · rw [bits_join .i64 63 (by decide) wraps_i64 7 (y * pw 1) n (by first | (simp [pw]; done) | (simp [pw]; omega)) (by first | (simp [pw]; done) | (simp [pw]; omega)) (by first | (simp [pw]; done) | (simp [pw]; omega)) hn0 (by simp [pw] at hn ⊢; omega) (by simp [pw] at hn; omega)]; omega
  · rw [bits_join .i64 63 (by decide) wraps_i64 14 (y * pw 2) n (by first | (simp [pw]; done) | (simp [pw]; omega)) (by first | (simp [pw]; done) | (simp [pw]; omega)) (by first | (simp [pw]; done) | (simp [pw]; omega)) hn0 (by simp [pw] at hn ⊢; omega) (by simp [pw] at hn; omega)]; omega
  · rw [bits_join .i64 63 (by decide) wraps_i64 21 (y * pw 3) n (by first | (simp [pw]; done) | (simp [pw]; omega)) (by first | (simp [pw]; done) | (simp [pw]; omega)) (by first | (simp [pw]; done) | (simp [pw]; omega)) hn0 (by simp [pw] at hn ⊢; omega) (by simp [pw] at hn; omega)]; omega
  · rw [bits_join .i64 63 (by decide) wraps_i64 28 (y * pw 4) n (by first | (simp [pw]; done) | (simp [pw]; omega)) (by first | (simp [pw]; done) | (simp [pw]; omega)) (by first | (simp [pw]; done) | (simp [pw]; omega)) hn0 (by simp [pw] at hn ⊢; omega) (by simp [pw] at hn; omega)]; omega
theorem u8f : ∀ x : Fin 256, Go.bits .andNot .u8 ((x.val : Nat) : Int) 128 = ((x.val : Nat) : Int) % 128 ∧ Go.bits .and .u8 ((x.val : Nat) : Int) 128 = if ((x.val : Nat) : Int) < 128 then 0 else 128 := by decide +kernel
theorem u8_is {x : Int} (h0 : 0 ≤ x) (h1 : x < 256) : Go.bits .andNot .u8 x 128 = x % 128 ∧ Go.bits .and .u8 x 128 = if x < 128 then 0 else 128 := by
  have h := u8f ⟨x.toNat, by omega⟩
  simp only [show ((x.toNat : Nat) : Int) = x by omega] at h
  exact h
theorem take_at {l : List Int} {i : Nat} (hi : i < l.length) (h5 : i < 5) : (l.take 5).drop i = l.getD i 0 :: (l.take 5).drop (i + 1) := by
  have h : i < (l.take 5).length := by rw [List.length_take]; omega
  rw [List.drop_eq_getElem_cons h]
  simp [List.getD, hi]
theorem pw_up {i : Nat} {n y : Int} (hi : i ≤ 4) (hn0 : 0 ≤ n) (hn : n < pw i) (hy0 : 0 ≤ y) (hy : y < 128) : 0 ≤ y * pw i ∧ y * pw i < 34359738368 ∧ 0 ≤ n + y * pw i ∧ n + y * pw i < pw (i + 1) ∧ n + y * pw i < 34359738368 := by
  rcases le4 hi with rfl | rfl | rfl | rfl | rfl <;> (simp [pw] at hn ⊢; omega)
end Go.Proofs.Ytmkgihmchkphaaa.Stk
