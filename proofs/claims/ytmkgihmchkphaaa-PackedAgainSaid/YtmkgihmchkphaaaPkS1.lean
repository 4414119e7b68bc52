/- Packed: the law PackedBack. -/
import Derived.Test.YtmkgihmchkphaaaTrS3
import Derived.Test.YtmkgihmchkphaaaPPackedNumbersx2
import Derived.Laws.BitsAllLaws
namespace Go.Proofs.Ytmkgihmchkphaaa.Stk
open Go.RowKit Go.Proofs.YtmkgihmchkphaaaW.PrintWords Go.Proofs.YtmkgihmchkphaaaW.PrintLast Go.Proofs.YtmkgihmchkphaaaW.PrintMore
attribute [local go_sem] max2_int min2_int max_two min_two max_three min_three max_four min_four   -- for this text's walks alone
set_option linter.unusedVariables false
set_option linter.unusedSimpArgs false
def fitP (n : Int) : Bool := decide (0 ≤ n) && decide (n ≤ 2147483648)
theorem p_fits (n : Int) (w : World) : Calls Try.prog 60 #[.int .i64 n] w fun e w' => e = .returned (.bool (fitP n)) ∧ Below w.heap.size w w' := by
  refine (PPackedNumbers.packed_fits.calls n (fitP n) w ?_).mono fun e w' ⟨a, b⟩ => ⟨a, drawn_below0 b⟩
  unfold PPackedNumbers.packed_fits.f fitP
  by_cases h : n ≥ 0
  · rw [if_pos h, decide_eq_true (show 0 ≤ n from h)]; rfl
  · rw [if_neg h, decide_eq_false (show ¬ 0 ≤ n from h)]; rfl
theorem p_enc1 (r : Rg) (w : World) : Calls Try.prog 73 #[.agg #[.int .i64 r.lo, .int .i64 r.hi, .int .i64 r.va]] w fun e w' => e = .returned (.bool (!fitP r.va)) ∧ Below w.heap.size w w' := by
  go_enter Try.func73, Try.ntmps73
  go_wp2_with (first | ((with_reducible refine gate_dst (N := 1) rfl ?_); refine box_event ?hg (N := 1) ?hd (cs := #[.int .i64 r.lo, .int .i64 r.hi, .int .i64 r.va]) (t := 66) ?hr ?_; (case hd => rfl); (case hg => rfl); (case hr => first | (go_simp; done) | (go_simp; rfl)); intro g3 hg w1 hbox hb; have HB1 := Aside0.mk hb; have k3_2 := (blk_cell hbox 2).trans rfl; clear hg hbox hb) | (go_at_call 60; (with_reducible refine (p_fits r.va w1).mono ?_); rintro e w2 ⟨rfl, hb⟩; have HB2 := Aside0.mk (below_step HB1.out hb); clear hb))
  go_ret
  exact ⟨by first | rfl | (simp; done), HB2.out⟩
/-- Whether one of the ranges has a value that does not fit. -/
def badR (l : List Rg) : Bool := l.any fun r => !fitP r.va
theorem bad_at {l : List Rg} {i : Nat} (hi : i < l.length) : badR (l.drop i) = (!fitP (rgAt l i).va || badR (l.drop (i + 1))) := by
  rw [List.drop_eq_getElem_cons hi, show l[i] = rgAt l i by simp [rgAt, List.getD, hi]]
  rfl
set_option maxHeartbeats 8000000 in
set_option maxRecDepth 100000 in
theorem p_indexf {w : World} {A : Option Addr} {c : Nat} {l : List Rg} (hC : Kd.C kR w A l.length l) :
    Calls Try.prog 91 #[.slice A l.length c, .func (.func 73) #[] #[]] w fun e w' => ∃ v : Int, e = .returned (.int .i64 v) ∧ decide (v ≥ 0) = badR l ∧ Below w.heap.size w w' := by
  have HC := Aside0.mk hC
  have HL := Aside0.mk hC.2.1
  have hk39 := Try.underlying66
  have HB0 := Aside0.mk (Below.refl w.heap.size w)
  clear hC
  go_enter Try.func91, Try.ntmps91
  go_wp2
  go_loopg [8] (l.length + 1) (fun kq v8 w' => ∃ (i : Nat), v8 = .int .i64 (i : Int) ∧ Aside0 (l.length + 1 - i ≤ kq ∧ badR l = badR (l.drop i)) ∧ Aside0 (Below w.heap.size w w'))
  case atStart => exact ⟨0, rfl, ⟨Nat.sub_le _ _, rfl⟩, ⟨by first | exact HB0.out | exact HB0.out.drew⟩⟩
  case round =>
    obtain ⟨i, rfl, HI, HB⟩ := hrel
    by_cases hlt : i < l.length
    · have q0 := decide_eq_true (show (i : Int) < (l.length : Int) by omega)
      have q1 := decide_eq_true hlt
      have r0 := eq_true (show (i : Int) < (l.length : Int) by omega)
      have r1 := eq_true hlt
      have r2 := eq_true (show (0 : Int) ≤ (i : Int) by omega)
      obtain ⟨ad, e, x0_, x1_, x2_⟩ := at_Rg (Kd.C_below HC.out HB.out) i hlt
      cases e
      have HST := Aside0.mk (HI.out.2.trans (bad_at hlt))
      obtain ⟨v, hv⟩ : ∃ v, (!fitP (rgAt l i).va) = v := ⟨_, rfl⟩
      rw [hv] at HST
      have HV := Aside0.mk hv
      generalize (rgAt l i).lo = x0 at x0_ HV
      generalize (rgAt l i).hi = x1 at x1_ HV
      generalize (rgAt l i).va = x2 at x2_ HV
      have HLT := Aside0.mk hlt
      have hwi : IntKind.i64.wrap ((i : Int) + 1) = ((i + 1 : Nat) : Int) := (i64_w _).trans (by have := HL.out; unfold wrap64; omega)
      clear hlt hv
      cases v with
      | true =>
        go_wp2_with (first | (go_at_call 73; (with_reducible refine (p_enc1 ⟨x0, x1, x2⟩ wr).mono ?_); rw [HV.out]; rintro e w5 ⟨rfl, hb⟩; have HB5 := Aside0.mk (below_step HB.out hb); clear hb))
        go_ret
        exact ⟨(i : Int), by first | rfl | (simp; done), by rw [HST.out, decide_eq_true (by omega)]; rfl, HB5.out⟩
      | false =>
        go_wp2_with (first | (go_at_call 73; (with_reducible refine (p_enc1 ⟨x0, x1, x2⟩ wr).mono ?_); rw [HV.out]; rintro e w5 ⟨rfl, hb⟩; have HB5 := Aside0.mk (below_step HB.out hb); clear hb))
        go_roundg (l.length + 1 - (i + 1))
        case measure => have h1_ := HI.out.1; have h2_ := HLT.out; omega
        case rel => exact ⟨i + 1, by first | rfl | go_num | rw [hwi], ⟨Nat.le_refl _, HST.out⟩, HB5⟩
    · have q0 := decide_eq_false (show ¬ (i : Int) < (l.length : Int) by omega)
      have q1 := decide_eq_false hlt
      have HE := Aside0.mk (show badR l = false by rw [HI.out.2, List.drop_eq_nil_of_le (by omega)]; rfl)
      clear hlt
      go_wp2
      go_ret
      exact ⟨-1, by first | rfl | (simp; done), by rw [HE.out]; rfl, HB.out⟩
theorem p_cont {w : World} {A : Option Addr} {c : Nat} {l : List Rg} (hC : Kd.C kR w A l.length l) :
    Calls Try.prog 74 #[.slice A l.length c, .func (.func 73) #[] #[]] w fun e w' => e = .returned (.bool (badR l)) ∧ Below w.heap.size w w' := by
  have HC := Aside0.mk hC
  clear hC
  go_enter Try.func74, Try.ntmps74
  go_wp2_with (first | (go_at_call 91; (with_reducible refine (p_indexf HC.out).mono ?_); rintro e w1 ⟨v, rfl, hv, hb⟩; have HB1 := Aside0.mk hb; have HV := Aside0.mk hv; clear hv hb))
  go_ret
  exact ⟨by rw [← HV.out]; first | rfl | (simp; done), HB1.out⟩
open PPackedNumbers
def lim : Nat → Int
  | 0 => 128
  | j + 1 => 128 * lim j
/-- A number's bytes. -/
def digF : Nat → Int → List Int
  | 0, _ => []
  | k + 1, n => if 128 ≤ n then (128 + n % 128) :: digF k (n / 128) else [n]
def fitN (n : Int) : Int := if fitP n = true then n else 0
def numB (n : Int) : List Int := digF 5 (fitN n)
theorem fitP_iff (n : Int) : fitP n = true ↔ 0 ≤ n ∧ n ≤ 2147483648 := by unfold fitP; simp
theorem fitN_ok (n : Int) : 0 ≤ fitN n ∧ fitN n ≤ 2147483648 := by
  unfold fitN
  split
  · rename_i h; exact (fitP_iff n).1 h
  · omega
theorem lim4 : lim 4 = 34359738368 := by decide
theorem or128f : ∀ x : Fin 256, Go.bits .or .u8 ((x.val : Nat) : Int) 128 = 128 + ((x.val : Nat) : Int) % 128 := by decide +kernel
theorem or128 {x : Int} (h0 : 0 ≤ x) (h1 : x < 256) : Go.bits .or .u8 x 128 = 128 + x % 128 := by
  have h := or128f ⟨x.toNat, by omega⟩
  simp only [show ((x.toNat : Nat) : Int) = x by omega] at h
  exact h
theorem number_l : ∀ (j k : Nat) (n : Int) (x : List Int), 0 ≤ n → n < lim j → j + 1 ≤ k → x.length + j < 140737488355328 → PPackedNumbers.packed_Number.l0 k n x = some (x ++ digF (j + 1) n)
  | 0, k, n, x, h0, h1, h2, h3 => by
    obtain ⟨k, rfl⟩ : ∃ k', k = k' + 1 := ⟨k - 1, by omega⟩
    have h4 : n < 128 := h1
    unfold PPackedNumbers.packed_Number.l0
    rw [if_neg (by omega), if_pos (by omega), show n % 256 = n by omega]
    unfold digF
    rw [if_neg (by omega)]
  | j + 1, k, n, x, h0, h1, h2, h3 => by
    obtain ⟨k, rfl⟩ : ∃ k', k = k' + 1 := ⟨k - 1, by omega⟩
    have h4 : n < 128 * lim j := h1
    unfold PPackedNumbers.packed_Number.l0
    unfold digF
    by_cases h : n ≥ 128
    · rw [if_pos h, if_pos (by omega), if_pos (show 128 ≤ n from h), or128 (by omega) (by omega), show 128 + n % 256 % 128 = 128 + n % 128 by omega, number_l j k (n / 128) _ (by omega) (by omega) (by omega) (by simp; omega), List.append_assoc]
      rfl
    · rw [if_neg h, if_pos (by omega), if_neg (by omega), show n % 256 = n by omega]
theorem rnumber_l : ∀ (j k : Nat) (n : Int) (x : List Int), 0 ≤ n → n < lim j → n ≤ 2147483648 → j + 1 ≤ k → x.length + j < 140737488355328 → PPackedNumbers.naskhref40_Number.l0 k n x = some (x ++ digF (j + 1) n)
  | 0, k, n, x, h0, h1, h5, h2, h3 => by
    obtain ⟨k, rfl⟩ : ∃ k', k = k' + 1 := ⟨k - 1, by omega⟩
    have h4 : n < 128 := h1
    unfold PPackedNumbers.naskhref40_Number.l0
    rw [if_neg (by omega), if_pos (by omega), show n % 256 = n by omega]
    unfold digF
    rw [if_neg (by omega)]
  | j + 1, k, n, x, h0, h1, h5, h2, h3 => by
    obtain ⟨k, rfl⟩ : ∃ k', k = k' + 1 := ⟨k - 1, by omega⟩
    have h4 : n < 128 * lim j := h1
    unfold PPackedNumbers.naskhref40_Number.l0
    unfold digF
    by_cases h : n ≥ 128
    · rw [if_pos h, if_pos (by omega), if_pos (show 128 ≤ n from h), Int.tmod_eq_emod_of_nonneg h0, Int.tdiv_eq_ediv_of_nonneg h0, show wrap64 (128 + n % 128) % 256 = 128 + n % 128 by unfold wrap64; omega, show wrap64 (n / 128) = n / 128 by unfold wrap64; omega, rnumber_l j k (n / 128) _ (by omega) (by omega) (by omega) (by omega) (by simp; omega), List.append_assoc]
      rfl
    · rw [if_neg h, if_pos (by omega), if_neg (by omega), show n % 256 = n by omega]
theorem fits_f (n : Int) : PPackedNumbers.packed_fits.f n = some (fitP n) := by
  unfold PPackedNumbers.packed_fits.f fitP
  by_cases h : n ≥ 0
  · rw [if_pos h, decide_eq_true (show 0 ≤ n from h)]; rfl
  · rw [if_neg h, decide_eq_false (show ¬ 0 ≤ n from h)]; rfl
theorem number_f {l : List Int} (hl : l.length < 140737488355000) (n : Int) : PPackedNumbers.packed_Number.f 9 l n = some (l ++ numB n) := by
  unfold PPackedNumbers.packed_Number.f PPackedNumbers.slices_Clone_byte_byte.f
  rw [Option.bind_some, if_pos (by simp; omega), List.nil_append, Option.bind_some, fits_f, Option.bind_some]
  have h1 := fitN_ok n
  have h2 := number_l 4 8 (fitN n) l h1.1 (by rw [lim4]; omega) (by omega) (by omega)
  unfold numB
  rw [← h2]
  unfold fitN
  by_cases h : fitP n = true
  · rw [if_pos h, if_pos h]; unfold PPackedNumbers.packed_Number.j0; rfl
  · rw [if_neg h, if_neg h]; unfold PPackedNumbers.packed_Number.j0; rfl
theorem p_number {w : World} {A : Option Addr} {c : Nat} {l : List Int} (h : Kd.C (Kd.int .u8) w A l.length l) (hc : l.length ≤ c) (hl : l.length < 140737488355000) (n : Int) : Calls Try.prog 28 #[.slice A l.length c, .int .i64 n] w fun e w' => ∃ (A1 : Option Addr) (c1 : Nat), e = .returned (.slice A1 (l ++ numB n).length c1) ∧ Kd.C (Kd.int .u8) w' A1 (l ++ numB n).length (l ++ numB n) ∧ (l ++ numB n).length ≤ c1 ∧ Below w.heap.size w w' := by
  refine (PPackedNumbers.packed_Number.calls 9 A c l n (l ++ numB n) w h hc (number_f hl n)).mono fun e w' ⟨v0, he, hR, hb⟩ => ?_
  obtain ⟨A1, c1, e1, hc1, hC1⟩ := Kd.R_reads hR
  exact ⟨A1, c1, by rw [he, e1], hC1, hc1, hb⟩
theorem rj0t (k : Nat) (x : Int) (y : List Int) : PPackedNumbers.naskhref40_Number.j0 (k + 1) x y true = PPackedNumbers.naskhref40_Number.j1 k 0 y := by unfold PPackedNumbers.naskhref40_Number.j0; exact if_pos rfl
theorem rj0f (k : Nat) (x : Int) (y : List Int) : PPackedNumbers.naskhref40_Number.j0 (k + 1) x y false = PPackedNumbers.naskhref40_Number.j1 k x y := by unfold PPackedNumbers.naskhref40_Number.j0; exact if_neg (by decide)
theorem rj1 (k : Nat) (x : Int) (y : List Int) : PPackedNumbers.naskhref40_Number.j1 (k + 1) x y = PPackedNumbers.naskhref40_Number.l0 k x y := by unfold PPackedNumbers.naskhref40_Number.j1; rfl
theorem rnumber_f {l : List Int} (hl : l.length < 140737488355000) (n : Int) : PPackedNumbers.naskhref40_Number.f 9 l n = some (l ++ numB n) := by
  have h1 := fitN_ok n
  have h2 := rnumber_l 4 7 (fitN n) l h1.1 (by rw [lim4]; omega) (by omega) (by omega) (by omega)
  unfold PPackedNumbers.naskhref40_Number.f
  rw [if_pos (by simp; omega), Option.bind_some, List.nil_append]
  unfold numB
  rw [← h2]
  unfold fitN
  by_cases h : fitP n = true
  · have h3 := (fitP_iff n).1 h
    rw [if_neg (by omega), if_pos h, decide_eq_false (by omega)]
    rw [rj0f, rj1]
  · rw [if_neg h]
    have h3 : ¬ (0 ≤ n ∧ n ≤ 2147483648) := fun h4 => h ((fitP_iff n).2 h4)
    by_cases h4 : n < 0
    · rw [if_pos h4]
      rw [rj0t, rj1]
    · rw [if_neg h4, decide_eq_true (by omega)]
      rw [rj0t, rj1]
theorem p_rnumber {w : World} {A : Option Addr} {c : Nat} {l : List Int} (h : Kd.C (Kd.int .u8) w A l.length l) (hc : l.length ≤ c) (hl : l.length < 140737488355000) (n : Int) : Calls Try.prog 29 #[.slice A l.length c, .int .i64 n] w fun e w' => ∃ (A1 : Option Addr) (c1 : Nat), e = .returned (.slice A1 (l ++ numB n).length c1) ∧ Kd.C (Kd.int .u8) w' A1 (l ++ numB n).length (l ++ numB n) ∧ (l ++ numB n).length ≤ c1 ∧ Below w.heap.size w w' := by
  refine (PPackedNumbers.naskhref40_Number.calls 9 A c l n (l ++ numB n) w h hc (rnumber_f hl n)).mono fun e w' ⟨v0, he, hR, hb⟩ => ?_
  obtain ⟨A1, c1, e1, hc1, hC1⟩ := Kd.R_reads hR
  exact ⟨A1, c1, by rw [he, e1], hC1, hc1, hb⟩
theorem eqb_l {l : List Int} (hn : l.length ≤ 9223372036854775807) : ∀ (k i : Nat), l.length + 1 ≤ k + i → i ≤ l.length → PPackedNumbers.slices_Equal_byte_byte.l0 k l l (l.length : Int) (i : Int) = some true
  | 0, i, h, h2 => by omega
  | k + 1, i, h, h2 => by
    unfold PPackedNumbers.slices_Equal_byte_byte.l0
    by_cases hi : i < l.length
    · rw [if_pos (by omega), if_pos (by omega), if_pos (by omega), if_pos (by omega), if_pos rfl, up1 hi hn, eqb_l hn k (i + 1) (by omega) (by omega)]
    · rw [if_neg (by omega)]
theorem p_eqb {w : World} {A A1 : Option Addr} {c c1 : Nat} {l : List Int} (h : Kd.C (Kd.int .u8) w A l.length l) (hc : l.length ≤ c) (h1 : Kd.C (Kd.int .u8) w A1 l.length l) (hc1 : l.length ≤ c1) : Calls Try.prog 27 #[.slice A l.length c, .slice A1 l.length c1] w fun e w' => e = .returned (.bool true) ∧ Below w.heap.size w w' := by
  refine (PPackedNumbers.slices_Equal_byte_byte.calls (l.length + 1) A c l A1 c1 l true w h hc h1 hc1 ?_).mono fun e w' ⟨a, b⟩ => ⟨a, drawn_below0 b⟩
  unfold PPackedNumbers.slices_Equal_byte_byte.f
  rw [if_pos rfl]
  exact eqb_l h.2.1 _ 0 (by omega) (by omega)
theorem numB_len (n : Int) : (numB n).length ≤ 5 := by
  have h : ∀ (k : Nat) (n : Int), (digF k n).length ≤ k := fun k => by
    induction k with
    | zero => intro n; exact Nat.le_refl _
    | succ k ih => intro n; unfold digF; split; exact Nat.succ_le_succ (ih _); simp
  exact h 5 _
def putB (ns : List Int) : List Int := ns.flatMap numB
theorem putB_len (ns : List Int) : (putB ns).length ≤ 5 * ns.length := by
  induction ns with
  | nil => exact Nat.le_refl _
  | cons n ns ih =>
    have h1 := numB_len n
    unfold putB at ih ⊢
    rw [List.flatMap_cons, List.length_append, List.length_cons]
    omega
theorem putB_snoc {ns : List Int} {i : Nat} (hi : i < ns.length) : putB (ns.take (i + 1)) = putB (ns.take i) ++ numB (ns.getD i 0) := by
  unfold putB
  rw [List.take_add_one, List.flatMap_append]
  simp [List.getD, hi]
set_option maxHeartbeats 8000000 in
set_option maxRecDepth 100000 in
theorem p_put {w : World} {A A1 : Option Addr} {c c1 : Nat} {l ns : List Int} (h : Kd.C (Kd.int .u8) w A l.length l) (hc : l.length ≤ c) (h1 : Kd.C (Kd.int .i64) w A1 ns.length ns) (hl : l.length + 5 * ns.length < 140737488355000) :
    Calls Try.prog 76 #[.slice A l.length c, .slice A1 ns.length c1] w fun e w' => ∃ (A2 : Option Addr) (c2 : Nat), e = .returned (.slice A2 (l ++ putB ns).length c2) ∧ Kd.C (Kd.int .u8) w' A2 (l ++ putB ns).length (l ++ putB ns) ∧ (l ++ putB ns).length ≤ c2 ∧ Below w.heap.size w w' := by
  have H0 := Aside0.mk h
  have HC0 := Aside0.mk hc
  have H1 := Aside0.mk h1
  have HL := Aside0.mk hl
  have HB0 := Aside0.mk (Below.refl w.heap.size w)
  clear h hc h1 hl
  go_enter Try.func76, Try.ntmps76
  go_wp2
  go_loopg [0, 9] (ns.length + 1) (fun kq v0 v9 w' => ∃ (i : Nat) (A2 : Option Addr) (c2 : Nat) (b : List Int), v0 = .slice A2 b.length c2 ∧ v9 = .int .i64 (i : Int) ∧ Aside0 (b = l ++ putB (ns.take i) ∧ i ≤ ns.length ∧ ns.length + 1 - i ≤ kq) ∧ Aside0 (Kd.C (Kd.int .u8) w' A2 b.length b) ∧ Aside0 (b.length ≤ c2) ∧ Aside0 (Below w.heap.size w w'))
  case atStart => exact ⟨0, A, c, l, rfl, rfl, ⟨by simp [putB], Nat.zero_le _, Nat.sub_le _ _⟩, H0, HC0, HB0⟩
  case round =>
    obtain ⟨i, A2, c2, b, rfl, rfl, HI, HX, HCX, HB⟩ := hrel
    by_cases hlt : i < ns.length
    · have q0 := decide_eq_true (show (i : Int) < (ns.length : Int) by omega)
      have q1 := decide_eq_true hlt
      have r0 := eq_true (show (i : Int) < (ns.length : Int) by omega)
      have r1 := eq_true hlt
      have r2 := eq_true (show (0 : Int) ≤ (i : Int) by omega)
      obtain ⟨ad, e, x0_⟩ := Kd.at_int (Kd.C_below H1.out HB.out) (i : Int) (by omega) (by omega)
      cases e
      rw [Int.toNat_natCast] at x0_
      have HS := Aside0.mk (putB_snoc hlt)
      have er : rd ns (i : Int) = ns.getD i 0 := by unfold rd; rw [Int.toNat_natCast]
      rw [er] at x0_
      generalize ns.getD i 0 = x at x0_ HS
      have HLX := Aside0.mk (show b.length < 140737488355000 by
        have h1 := putB_len (ns.take i)
        have h2 := HL.out
        rw [HI.out.1, List.length_append]
        rw [List.length_take] at h1
        omega)
      have HLT := Aside0.mk hlt
      have hwi : IntKind.i64.wrap ((i : Int) + 1) = ((i + 1 : Nat) : Int) := (i64_w _).trans (up1 hlt H1.out.2.1)
      clear hlt er
      go_wp2_with (first | (go_at_call 28; (with_reducible refine (p_number HX.out HCX.out HLX.out x).mono ?_); rintro e w5 ⟨A5, c5, rfl, h5, h6, hb⟩; have HX5 := Aside0.mk h5; have HCX5 := Aside0.mk h6; have HB5 := Aside0.mk (below_step HB.out hb); clear h5 h6 hb))
      go_roundg (ns.length + 1 - (i + 1))
      case measure => have h1_ := HI.out.2.2; have h2_ := HLT.out; omega
      case rel => exact ⟨i + 1, A5, c5, b ++ numB x, by first | rfl | rw [List.length_append], by first | rfl | go_num | rw [hwi], ⟨by rw [HS.out, HI.out.1, List.append_assoc], HLT.out, Nat.le_refl _⟩, HX5, HCX5, HB5⟩
    · have q0 := decide_eq_false (show ¬ (i : Int) < (ns.length : Int) by omega)
      have q1 := decide_eq_false hlt
      have HE := Aside0.mk (show b = l ++ putB ns by rw [HI.out.1, List.take_of_length_le (by omega)])
      clear hlt
      go_wp2
      go_ret
      exact ⟨A2, c2, by rw [← HE.out]; first | rfl | (simp; done), by rw [← HE.out]; exact HX.out, by rw [← HE.out]; exact HCX.out, HB.out⟩
def pw : Nat → Int
  | 0 => 1
  | i + 1 => pw i * 128
/-- The number with which bytes begin. -/
def takF : List Int → Nat → Int → Int → Int × Int × Bool
  | [], _, _, _ => (0, 0, false)
  | x :: xs, i, n, t => if x < 128 then (if n + x * t ≤ 2147483648 ∧ ¬ (x = 0 ∧ 0 < i) then (n + x * t, (i : Int) + 1, true) else (0, 0, false)) else takF xs (i + 1) (n + (x - 128) * t) (t * 128)
def takB (l : List Int) : Int × Int × Bool := takF (l.take 5) 0 0 1
theorem le4 {i : Nat} (h : i ≤ 4) : i = 0 ∨ i = 1 ∨ i = 2 ∨ i = 3 ∨ i = 4 := by omega
theorem pw_ok {i : Nat} (h : i ≤ 4) : 1 ≤ pw i ∧ pw i ≤ 268435456 ∧ (2 : Int) ^ (7 * (i : Int)).toNat = pw i := by
  rcases le4 h with rfl | rfl | rfl | rfl | rfl <;> decide
theorem wraps_i64 (n : Int) (h0 : 0 ≤ n) (h1 : n < 2 ^ 63) : IntKind.i64.wrap n = n := by rw [IntKind.wrap_i64]; omega
theorem or_join {i : Nat} (hi : i ≤ 4) {n y : Int} (hn0 : 0 ≤ n) (hn : n < pw i) (hy0 : 0 ≤ y) (hy : y < 128) : Go.bits .or .i64 n (y * pw i) = n + y * pw i := by
  have hc : Go.bits .or .i64 n (y * pw i) = Go.bits .or .i64 (y * pw i) n := by simp only [Go.bits, BitVec.or_comm]
  rw [hc]
  rcases le4 hi with rfl | rfl | rfl | rfl | rfl
  · rw [bits_join .i64 63 (by decide) wraps_i64 0 (y * pw 0) n (by first | (simp [pw]; done) | (simp [pw]; omega)) (by first | (simp [pw]; done) | (simp [pw]; omega)) (by first | (simp [pw]; done) | (simp [pw]; omega)) hn0 (by simp [pw] at hn ⊢; omega) (by simp [pw] at hn; omega)]; omega
  · rw [bits_join .i64 63 (by decide) wraps_i64 7 (y * pw 1) n (by first | (simp [pw]; done) | (simp [pw]; omega)) (by first | (simp [pw]; done) | (simp [pw]; omega)) (by first | (simp [pw]; done) | (simp [pw]; omega)) hn0 (by simp [pw] at hn ⊢; omega) (by simp [pw] at hn; omega)]; omega
  · rw [bits_join .i64 63 (by decide) wraps_i64 14 (y * pw 2) n (by first | (simp [pw]; done) | (simp [pw]; omega)) (by first | (simp [pw]; done) | (simp [pw]; omega)) (by first | (simp [pw]; done) | (simp [pw]; omega)) hn0 (by simp [pw] at hn ⊢; omega) (by simp [pw] at hn; omega)]; omega
  · rw [bits_join .i64 63 (by decide) wraps_i64 21 (y * pw 3) n (by first | (simp [pw]; done) | (simp [pw]; omega)) (by first | (simp [pw]; done) | (simp [pw]; omega)) (by first | (simp [pw]; done) | (simp [pw]; omega)) hn0 (by simp [pw] at hn ⊢; omega) (by simp [pw] at hn; omega)]; omega
  · rw [bits_join .i64 63 (by decide) wraps_i64 28 (y * pw 4) n (by first | (simp [pw]; done) | (simp [pw]; omega)) (by first | (simp [pw]; done) | (simp [pw]; omega)) (by first | (simp [pw]; done) | (simp [pw]; omega)) hn0 (by simp [pw] at hn ⊢; omega) (by simp [pw] at hn; omega)]; omega
theorem u8f : ∀ x : Fin 256, Go.bits .andNot .u8 ((x.val : Nat) : Int) 128 = ((x.val : Nat) : Int) % 128 ∧ Go.bits .and .u8 ((x.val : Nat) : Int) 128 = if ((x.val : Nat) : Int) < 128 then 0 else 128 := by decide +kernel
theorem u8_is {x : Int} (h0 : 0 ≤ x) (h1 : x < 256) : Go.bits .andNot .u8 x 128 = x % 128 ∧ Go.bits .and .u8 x 128 = if x < 128 then 0 else 128 := by
  have h := u8f ⟨x.toNat, by omega⟩
  simp only [show ((x.toNat : Nat) : Int) = x by omega] at h
  exact h
theorem take_at {l : List Int} {i : Nat} (hi : i < l.length) (h5 : i < 5) : (l.take 5).drop i = l.getD i 0 :: (l.take 5).drop (i + 1) := by
  have h : i < (l.take 5).length := by rw [List.length_take]; omega
  rw [List.drop_eq_getElem_cons h]
  simp [List.getD, hi]
theorem pw_up {i : Nat} {n y : Int} (hi : i ≤ 4) (hn0 : 0 ≤ n) (hn : n < pw i) (hy0 : 0 ≤ y) (hy : y < 128) : 0 ≤ y * pw i ∧ y * pw i < 34359738368 ∧ 0 ≤ n + y * pw i ∧ n + y * pw i < pw (i + 1) ∧ n + y * pw i < 34359738368 := by
  rcases le4 hi with rfl | rfl | rfl | rfl | rfl <;> (simp [pw] at hn ⊢; omega)
def Bytes (l : List Int) : Prop := ∀ x, x ∈ l → 0 ≤ x ∧ x < 256
theorem bytes_at {l : List Int} (h : Bytes l) {i : Nat} (hi : i < l.length) : 0 ≤ l.getD i 0 ∧ l.getD i 0 < 256 := h _ (by simp [List.getD, hi])
theorem takF_cons (x : Int) (xs : List Int) (i : Nat) (n t : Int) : takF (x :: xs) i n t = if x < 128 then (if n + x * t ≤ 2147483648 ∧ ¬ (x = 0 ∧ 0 < i) then (n + x * t, (i : Int) + 1, true) else (0, 0, false)) else takF xs (i + 1) (n + (x - 128) * t) (t * 128) := rfl
set_option maxHeartbeats 4000000 in
theorem rtake_l {l : List Int} (hb : Bytes l) : ∀ (j k i : Nat) (n : Int), i + j = 5 → 2 * j + 2 ≤ k → 0 ≤ n → n < pw i → PPackedNumbers.naskhref40_Take.l0 k l n (pw i) (i : Int) = some (takF ((l.take 5).drop i) i n (pw i)) := by
  intro j
  induction j with
  | zero =>
    intro k i n h h2 hn hn2
    obtain ⟨k, rfl⟩ : ∃ k', k = k' + 2 := ⟨k - 2, by omega⟩
    rw [List.drop_eq_nil_of_le (by rw [List.length_take]; omega)]
    unfold PPackedNumbers.naskhref40_Take.l0 PPackedNumbers.naskhref40_Take.j1
    rw [decide_eq_false (show ¬ (i : Int) < 5 by omega)]
    split <;> rfl
  | succ j ih =>
    intro k i n h h2 hn hn2
    obtain ⟨k, rfl⟩ : ∃ k', k = k' + 2 := ⟨k - 2, by omega⟩
    by_cases hi : i < l.length
    · have hx := bytes_at hb hi
      obtain ⟨hp1, hp2, _⟩ := pw_ok (show i ≤ 4 by omega)
      rw [take_at hi (by omega)]
      have er : rd l (i : Int) = l.getD i 0 := by unfold rd; rw [Int.toNat_natCast]
      unfold PPackedNumbers.naskhref40_Take.l0 PPackedNumbers.naskhref40_Take.j1
      rw [if_pos (by omega), decide_eq_true (show (i : Int) < 5 by omega), if_pos rfl, if_pos (by omega), if_pos (by omega), er]
      generalize l.getD i 0 = x at hx
      have hu := pw_up (show i ≤ 4 by omega) hn hn2 (y := x % 128) (by omega) (by omega)
      have e1 : wrap64 (n + wrap64 (wrap64 (Int.tmod x 128) * pw i)) = n + x % 128 * pw i := by
        rw [Int.tmod_eq_emod_of_nonneg hx.1, show wrap64 (x % 128) = x % 128 by unfold wrap64; omega, show wrap64 (x % 128 * pw i) = x % 128 * pw i by unfold wrap64; omega]
        unfold wrap64; omega
      have e2 : wrap64 ((i : Int) + 1) = ((i + 1 : Nat) : Int) := by unfold wrap64; omega
      have e3 : wrap64 (pw i * 128) = pw (i + 1) := by show wrap64 (pw i * 128) = pw i * 128; unfold wrap64; omega
      have e4 : pw (i + 1) = pw i * 128 := rfl
      rw [e1, e2, e3, takF_cons]
      have e5 : ((i + 1 : Nat) : Int) = (i : Int) + 1 := by omega
      obtain ⟨t, ht⟩ : ∃ t, pw i = t := ⟨_, rfl⟩
      obtain ⟨t2, ht2⟩ : ∃ t2, pw (i + 1) = t2 := ⟨_, rfl⟩
      rw [ht, ht2] at e4
      have ih2 := fun k n h2 hn hn2 => ih k (i + 1) n (by omega) h2 hn hn2
      rw [ht2] at ih2
      rw [ht] at hu ⊢
      rw [ht2] at hu ⊢
      clear e1 e2 e3 ih hp1 hp2 hn2 ht ht2 er
      by_cases h3 : x < 128
      · have e6 : x % 128 = x := by omega
        rw [e6] at hu ⊢
        rw [if_pos h3, if_pos h3, e5]
        generalize n + x * t = y at hu ⊢
        by_cases h4 : y > 2147483648
        · have hc : ¬ (y ≤ 2147483648 ∧ ¬ (x = 0 ∧ 0 < i)) := fun h5 => by omega
          rw [if_pos h4, if_neg hc]
        · rw [if_neg h4]
          by_cases h5 : (i : Int) > 0
          · rw [if_pos h5]
            by_cases h6 : x = 0
            · have hc : ¬ (y ≤ 2147483648 ∧ ¬ (x = 0 ∧ 0 < i)) := fun h7 => h7.2 ⟨h6, by omega⟩
              rw [if_pos h6, if_neg hc]
            · have hc : y ≤ 2147483648 ∧ ¬ (x = 0 ∧ 0 < i) := ⟨by omega, fun h7 => h6 h7.1⟩
              rw [if_neg h6, if_pos hc]
          · have hc : y ≤ 2147483648 ∧ ¬ (x = 0 ∧ 0 < i) := ⟨by omega, fun h7 => by omega⟩
            rw [if_neg h5, if_pos hc]
      · have e6 : x - 128 = x % 128 := by omega
        rw [if_neg h3, if_neg h3, ih2 k _ (by omega) hu.2.2.1 hu.2.2.2.1, e6, e4]
    · rw [List.drop_eq_nil_of_le (by rw [List.length_take]; omega)]
      unfold PPackedNumbers.naskhref40_Take.l0 PPackedNumbers.naskhref40_Take.j1
      rw [if_neg (by omega)]
      rfl
theorem p_rtake {w : World} {A : Option Addr} {c : Nat} {l : List Int} (h : Kd.C (Kd.int .u8) w A l.length l) (hc : l.length ≤ c) (hb : Bytes l) : Calls Try.prog 26 #[.slice A l.length c] w fun e w' => e = .returned (.tuple #[.int .i64 (takB l).1, .int .i64 (takB l).2.1, .bool (takB l).2.2]) ∧ Below w.heap.size w w' :=
  (PPackedNumbers.naskhref40_Take.calls 12 A c l _ _ _ w h hc (rtake_l hb 5 12 0 0 rfl (by decide) (by decide) (by decide))).mono fun e w' ⟨a, b⟩ => ⟨a, drawn_below0 b⟩
set_option maxHeartbeats 8000000 in
set_option maxRecDepth 100000 in
theorem p_take {w : World} {A : Option Addr} {c : Nat} {l : List Int} (h : Kd.C (Kd.int .u8) w A l.length l) (hc : l.length ≤ c) (hb : Bytes l) :
    Calls Try.prog 25 #[.slice A l.length c] w fun e w' => e = .returned (.tuple #[.int .i64 (takB l).1, .int .i64 (takB l).2.1, .bool (takB l).2.2]) ∧ Below w.heap.size w w' := by
  have HC := Aside0.mk h
  have HBY := Aside0.mk hb
  have HB0 := Aside0.mk (Below.refl w.heap.size w)
  obtain ⟨m, hm⟩ : ∃ m : Nat, (if 5 < (l.length : Int) then 5 else (l.length : Int)) = (m : Int) := ⟨if 5 < l.length then 5 else l.length, by split <;> split <;> omega⟩
  have hm2 : mn (l.length : Int) 5 = (m : Int) := by rw [← hm]; unfold mn; first | rfl | (split <;> rfl) | (split <;> split <;> omega)
  have HM := Aside0.mk (show m ≤ l.length ∧ m ≤ 5 ∧ (m < l.length → m = 5) by split at hm <;> omega)
  have g0 := eq_true (show (0 : Int) ≤ (m : Int) by omega)
  have g1 := eq_true (show (m : Int) ≤ (c : Int) by have := HM.out; omega)
  have g2 := eq_true (show m ≤ c by have := HM.out; omega)
  clear h hc hb
  go_enter Try.func25, Try.ntmps25
  go_wp2
  go_loopg [5, 14] 6 (fun kq v5 v14 w' => ∃ (i : Nat) (n : Int), v5 = .int .i64 n ∧ v14 = .int .i64 (i : Int) ∧ Aside0 ((i ≤ m ∧ 6 - i ≤ kq) ∧ takF ((l.take 5).drop i) i n (pw i) = takB l ∧ 0 ≤ n ∧ n < pw i ∧ True) ∧ Aside0 (Below w.heap.size w w'))
  case atStart => exact ⟨0, 0, rfl, rfl, ⟨⟨Nat.zero_le _, Nat.sub_le _ _⟩, rfl, by decide, by decide, trivial⟩, ⟨by first | exact HB0.out | exact HB0.out.drew⟩⟩
  case round =>
    obtain ⟨i, n, rfl, rfl, HI, HB⟩ := hrel
    by_cases hlt : i < m
    · have hlt := hlt
      have q0 := decide_eq_true (show (i : Int) < (m : Int) by omega)
      have q1 := decide_eq_true hlt
      have r0 := eq_true (show (i : Int) < (m : Int) by omega)
      have r1 := eq_true hlt
      have r2 := eq_true (show (0 : Int) ≤ (i : Int) by omega)
      have hml := HM.out
      have hi4 : i ≤ 4 := by omega
      have hil : i < l.length := by omega
      obtain ⟨ad, e, x0_⟩ := Kd.at_int (Kd.C_below HC.out HB.out) (i : Int) (by omega) (by omega)
      cases e
      rw [Int.toNat_natCast] at x0_
      have er : rd l (i : Int) = l.getD i 0 := by unfold rd; rw [Int.toNat_natCast]
      have hx := bytes_at HBY.out hil
      have HT1 := Aside0.mk (take_at hil (by omega))
      rw [er] at x0_
      generalize l.getD i 0 = x at x0_ hx HT1
      obtain ⟨y, hy⟩ : ∃ y, x % 128 = y := ⟨_, rfl⟩
      have hu := pw_up hi4 HI.out.2.2.1 HI.out.2.2.2.1 (y := y) (by omega) (by omega)
      have hb1 : Go.bits .andNot .u8 x 128 = y := by rw [← hy]; exact (u8_is hx.1 hx.2).1
      have hb2 := (u8_is hx.1 hx.2).2
      have hw1 : IntKind.i64.wrap y = y := (i64_w _).trans (by unfold wrap64; omega)
      have hw2 : IntKind.i64.wrap (7 * (i : Int)) = 7 * (i : Int) := (i64_w _).trans (by unfold wrap64; omega)
      have s1 := eq_true (show (0 : Int) ≤ 7 * (i : Int) by omega)
      have s2 := eq_true (show 7 * (i : Int) ≤ 64 by omega)
      have hw3 : IntKind.i64.wrap (y * 2 ^ (7 * (i : Int)).toNat) = y * pw i := (i64_w _).trans (by rw [(pw_ok hi4).2.2]; unfold wrap64; omega)
      have hb3 : Go.bits .or .i64 n (y * pw i) = n + y * pw i := or_join hi4 HI.out.2.2.1 HI.out.2.2.2.1 (by omega) (by omega)
      have hwi : IntKind.i64.wrap ((i : Int) + 1) = ((i + 1 : Nat) : Int) := (i64_w _).trans (by unfold wrap64; omega)
      have HLT := Aside0.mk hlt
      have HU := Aside0.mk hu
      have HY := Aside0.mk hy
      have HXB := Aside0.mk hx
      have HTT := Aside0.mk HI.out.2.1
      rw [HT1.out] at HTT
      clear er hu hml hil
      by_cases h3 : x < 128
      · rw [if_pos h3] at hb2
        have hyx : y = x := by omega
        obtain ⟨r, hr⟩ : ∃ r, fitP (n + y * pw i) = r := ⟨_, rfl⟩
        have HF := Aside0.mk hr
        have HFI := Aside0.mk (fitP_iff (n + y * pw i))
        have HX3 := Aside0.mk (show x < 128 from h3)
        cases r with
        | false =>
          have HE := Aside0.mk (show takB l = (0, 0, false) by
            rw [← HTT.out]
            unfold takF
            have h7 := HFI.out
            rw [HF.out] at h7
            have h8 := HU.out
            rw [if_pos HX3.out, if_neg (fun h9 => by rw [← hyx] at h9; exact absurd (h7.2 ⟨h8.2.2.1, h9.1⟩) (by simp))])
          clear h3 hr hi4 hyx hy hx hlt
          go_wp2_with (first | (go_at_call 60; (with_reducible refine (p_fits (n + y * pw i) _).mono ?_); rw [HF.out]; rintro e w5 ⟨rfl, hb⟩; have HB5 := Aside0.mk (below_step HB.out hb); clear hb))
          go_ret3
          exact ⟨by rw [HE.out]; first | rfl | (simp; done), HB5.out⟩
        | true =>
          by_cases h5 : x = 0 ∧ 0 < i
          · have e5 : (x == 0) = true := by simp [h5.1]
            have e6 : decide (x = 0) = true := decide_eq_true h5.1
            have e7 : decide ((i : Int) > 0) = true := decide_eq_true (by omega)
            have e8 : decide (0 < i) = true := decide_eq_true h5.2
            have e9 : decide ((0 : Int) < (i : Int)) = true := decide_eq_true (by omega)
            have HE := Aside0.mk (show takB l = (0, 0, false) by
              rw [← HTT.out]
              unfold takF
              rw [if_pos HX3.out, if_neg (fun h9 => h9.2 h5)])
            clear h3 hr hi4 hyx hy hx h5 hlt
            go_wp2_with (first | (go_at_call 60; (with_reducible refine (p_fits (n + y * pw i) _).mono ?_); rw [HF.out]; rintro e w5 ⟨rfl, hb⟩; have HB5 := Aside0.mk (below_step HB.out hb); clear hb))
            go_ret3
            exact ⟨by rw [HE.out]; first | rfl | (simp; done), HB5.out⟩
          · have HE := Aside0.mk (show takB l = (n + y * pw i, (i : Int) + 1, true) by
              rw [← HTT.out]
              unfold takF
              have h7 := HFI.out.1 HF.out
              rw [if_pos HX3.out, if_pos ⟨by rw [← hyx]; exact h7.2, h5⟩, hyx])
            by_cases h6 : x = 0
            · have e5 : (x == 0) = true := by simp [h6]
              have e6 : decide (x = 0) = true := decide_eq_true h6
              have e7 : decide ((i : Int) > 0) = false := decide_eq_false (by omega)
              have e8 : decide (0 < i) = false := decide_eq_false (by omega)
              have e9 : decide ((0 : Int) < (i : Int)) = false := decide_eq_false (by omega)
              clear h3 hr hi4 hyx hy hx h5 h6 hlt
              go_wp2_with (first | (go_at_call 60; (with_reducible refine (p_fits (n + y * pw i) _).mono ?_); rw [HF.out]; rintro e w5 ⟨rfl, hb⟩; have HB5 := Aside0.mk (below_step HB.out hb); clear hb))
              go_ret3
              exact ⟨by rw [HE.out]; first | rfl | (simp; done) | (simp [hwi]; done), HB5.out⟩
            · have e5 : (x == 0) = false := by simp [h6]
              have e6 : decide (x = 0) = false := decide_eq_false h6
              clear h3 hr hi4 hyx hy hx h5 h6 hlt
              go_wp2_with (first | (go_at_call 60; (with_reducible refine (p_fits (n + y * pw i) _).mono ?_); rw [HF.out]; rintro e w5 ⟨rfl, hb⟩; have HB5 := Aside0.mk (below_step HB.out hb); clear hb))
              go_ret3
              exact ⟨by rw [HE.out]; first | rfl | (simp; done) | (simp [hwi]; done), HB5.out⟩
      · rw [if_neg h3] at hb2
        have HN := Aside0.mk (show takF ((l.take 5).drop (i + 1)) (i + 1) (n + y * pw i) (pw (i + 1)) = takB l by
          rw [← HTT.out, show takF (x :: (l.take 5).drop (i + 1)) i n (pw i) = takF ((l.take 5).drop (i + 1)) (i + 1) (n + (x - 128) * pw i) (pw i * 128) from if_neg h3, show x - 128 = y by omega]
          rfl)
        clear h3 hi4 hy hx hlt
        go_wp2
        go_roundg (6 - (i + 1))
        case measure => have h1_ := HI.out.1; have h2_ := HLT.out; have h3_ := HM.out; omega
        case rel => exact ⟨i + 1, n + y * pw i, by first | rfl | rw [hb3], by first | rfl | rw [hwi], ⟨⟨HLT.out, Nat.le_refl _⟩, HN.out, HU.out.2.2.1, HU.out.2.2.2.1, trivial⟩, ⟨by first | exact HB.out | exact HB.out.drew⟩⟩
    · have q0 := decide_eq_false (show ¬ (i : Int) < (m : Int) by omega)
      have q1 := decide_eq_false hlt
      have HE := Aside0.mk (show takB l = (0, 0, false) by
        have h1 := HI.out.2.1
        have h2 := HM.out
        have h3 := HI.out.1.1
        rw [List.drop_eq_nil_of_le (by rw [List.length_take]; omega)] at h1
        exact h1.symm)
      clear hlt
      go_wp2
      go_ret3
      exact ⟨by rw [HE.out]; first | rfl | (simp; done), HB.out⟩
/-- The bytes of the first ranges. -/
def encI (M : List Rg) : Nat → List Int
  | 0 => []
  | i + 1 => encI M i ++ putB [(rgAt M i).lo - bAt M i, (rgAt M i).hi - (rgAt M i).lo, (rgAt M i).va]
def encB (z : Int) (M : List Rg) : List Int := putB [z, (M.length : Int)] ++ encI M M.length
theorem encI_len (M : List Rg) : ∀ i, (encI M i).length ≤ 15 * i
  | 0 => Nat.le_refl _
  | i + 1 => by
    have h1 := encI_len M i
    have h2 := putB_len [(rgAt M i).lo - bAt M i, (rgAt M i).hi - (rgAt M i).lo, (rgAt M i).va]
    unfold encI
    rw [List.length_append]
    simp only [List.length_cons, List.length_nil] at h2
    omega
theorem wrote_size {w w1 : World} {g : Nat} (h : Wrote w w1 g) : w1.heap.size = w.heap.size := h.1
theorem row_lit (w : World) (t : TypeId) (k : IntKind) (xs : List Int) (hl : xs.length ≤ 100) : Kd.C (Kd.int k) (w.alloc (.cells (xs.map (Value.int k)).toArray t (0, 0))) (some ⟨w.heap.size, 0, none⟩) xs.length xs := by
  refine ⟨rfl, by omega, fun _ => ⟨_, rfl, fun j p hp => ⟨[.int k p], rfl, rfl, fun i u hu => ?_⟩⟩⟩
  match i, hu with
  | 0, hu =>
    obtain rfl := Option.some.inj hu
    rw [Addr.add_mid, Nat.zero_add]
    show World.cell? _ ⟨_, j * 1 + 0, none⟩ = _
    rw [Nat.mul_one, Nat.add_zero, blk_cell (blk_new w _)]
    have h1 : (xs.map (Value.int k))[j]? = some (.int k p) := by rw [List.getElem?_map, hp]; rfl
    simpa using h1
  | i + 1, hu => simp at hu
theorem row_two (w : World) (t : TypeId) (a b : Int) : Kd.C (Kd.int .i64) (w.alloc (.cells #[.int .i64 a, .int .i64 b] t (0, 0))) (some ⟨w.heap.size, 0, none⟩) 2 [a, b] := row_lit w t .i64 [a, b] (by simp)
theorem row_three (w : World) (t : TypeId) (a b c : Int) : Kd.C (Kd.int .i64) (w.alloc (.cells #[.int .i64 a, .int .i64 b, .int .i64 c] t (0, 0))) (some ⟨w.heap.size, 0, none⟩) 3 [a, b, c] := row_lit w t .i64 [a, b, c] (by simp)
theorem p_put2 (w : World) (t : TypeId) (a b : Int) : Calls Try.prog 76 #[.slice none 0 0, .slice (some ⟨w.heap.size, 0, none⟩) 2 2] (w.alloc (.cells #[.int .i64 a, .int .i64 b] t (0, 0))) fun e w' => ∃ (A2 : Option Addr) (c2 : Nat), e = .returned (.slice A2 (putB [a, b]).length c2) ∧ Kd.C (Kd.int .u8) w' A2 (putB [a, b]).length (putB [a, b]) ∧ (putB [a, b]).length ≤ c2 ∧ Below w.heap.size w w' :=
  (p_put (l := []) (ns := [a, b]) (A := none) (c := 0) (c1 := 2) ⟨rfl, by decide, fun h => by simp at h⟩ (Nat.le_refl _) (row_two w t a b) (by simp)).mono fun e w' ⟨A2, c2, h1, h2, h3, h4⟩ => ⟨A2, c2, h1, h2, h3, (below_alloc (Below.refl _ _) _).trans (h4.mono (below_alloc (Below.refl w.heap.size w) (.cells #[.int .i64 a, .int .i64 b] t (0, 0))).size)⟩
theorem p_put3 {w0 w : World} {A : Option Addr} {c : Nat} {l : List Int} (hC : Kd.C (Kd.int .u8) w A l.length l) (hc : l.length ≤ c) (hl : l.length < 1000000) (t : TypeId) (x y z : Int) (N : Nat) (hN : w.heap.size = N) : Calls Try.prog 76 #[.slice A l.length c, .slice (some ⟨N, 0, none⟩) 3 3] (w.alloc (.cells #[.int .i64 x, .int .i64 y, .int .i64 z] t (0, 0))) fun e w' => ∃ (A2 : Option Addr) (c2 : Nat), e = .returned (.slice A2 (l ++ putB [x, y, z]).length c2) ∧ Kd.C (Kd.int .u8) w' A2 (l ++ putB [x, y, z]).length (l ++ putB [x, y, z]) ∧ (l ++ putB [x, y, z]).length ≤ c2 ∧ Below w.heap.size w w' := by
  subst hN
  exact (p_put (l := l) (ns := [x, y, z]) (c1 := 3) (Kd.C_below hC (below_alloc (Below.refl _ _) _)) hc (row_three w t x y z) (by simp only [List.length_cons, List.length_nil]; omega)).mono fun e w' ⟨A2, c2, h1, h2, h3, h4⟩ => ⟨A2, c2, h1, h2, h3, (below_alloc (Below.refl _ _) _).trans (h4.mono (below_alloc (Below.refl w.heap.size w) (.cells #[.int .i64 x, .int .i64 y, .int .i64 z] t (0, 0))).size)⟩
set_option maxHeartbeats 8000000 in
set_option maxRecDepth 100000 in
theorem p_encode {w : World} {A : Option Addr} {cc : Nat} {l : List Rg} (hC : Kd.C kR w A l.length l) (hk : chk l = 0) (z : Int) (hf : fitP z = true) (hbad : badR l = false) :
    Calls Try.prog 39 #[.slice A l.length cc, .int .i64 z] w fun e w' => ∃ (A2 : Option Addr) (c2 : Nat), e = .returned (.tuple #[.slice A2 (encB z (mrgF z l)).length c2, .int .i64 0]) ∧ Kd.C (Kd.int .u8) w' A2 (encB z (mrgF z l)).length (encB z (mrgF z l)) ∧ (encB z (mrgF z l)).length ≤ c2 ∧ Below w.heap.size w w' := by
  have HC := Aside0.mk hC
  have HX := Aside0.mk hk
  have HF := Aside0.mk hf
  have HBAD := Aside0.mk hbad
  have HL := Aside0.mk (chk_ok hk).1
  have HO := Aside0.mk (chk_ok hk).2
  have hmk := mrg_chk z HO.out HL.out
  have hml := mrg_len z l
  generalize hM : mrgF z l = M at hmk hml ⊢
  have HM := Aside0.mk hM
  have HMO := Aside0.mk (chk_ok hmk).2
  have HML := Aside0.mk (chk_ok hmk).1
  have hk39 := Try.underlying66
  clear hC hk hf hbad hmk hml hM
  go_enter Try.func39, Try.ntmps39
  go_wp2_with (first | (go_at_call 44; (with_reducible refine (p_build HC.out HX.out z).mono ?_); rintro e w2 ⟨g, fs, bs, rfl, hb, hT, _, hBt⟩; have HB2 := Aside0.mk hb; have HT2 := Aside0.mk hT; have HBT := Aside0.mk hBt; clear hb hT hBt) | (go_at_call 60; (with_reducible refine (p_fits z w2).mono ?_); rw [HF.out]; rintro e w3 ⟨rfl, hb⟩; have HB3 := Aside0.mk (below_step HB2.out hb); have HT3 := Aside0.mk (tab_below HT2.out hb); clear hb) | (go_at_call 74; (with_reducible refine (p_cont (Kd.C_below HC.out HB3.out)).mono ?_); rw [HBAD.out]; rintro e w4 ⟨rfl, hb⟩; have HB4 := Aside0.mk (below_step HB3.out hb); have HT4 := Aside0.mk (tab_below HT3.out hb); clear hb) | (go_at_call 75; (with_reducible refine (p_rng HT4.out HBT.out HO.out HM.out).mono ?_); rintro e w5 ⟨A3, rfl, h1, hb⟩; have HB5 := Aside0.mk (below_step HB4.out hb); have HC5 := Aside0.mk h1; clear h1 hb) | (go_at_call 76; (with_reducible refine (p_put2 w5 _ z (M.length : Int)).mono ?_); rintro e w6 ⟨A6, c6, rfl, h1, h2, hb⟩; have HB6 := Aside0.mk (below_step HB5.out hb); have HM6 := Aside0.mk (Kd.C_below HC5.out hb); have HX6 := Aside0.mk h1; have HCX6 := Aside0.mk h2; clear h1 h2 hb))
  go_loopg [10, 11, 40] (M.length + 1) (fun kq v10 v11 v40 w' => ∃ (i : Nat) (A2 : Option Addr) (c2 : Nat) (b : List Int), v10 = .slice A2 b.length c2 ∧ v11 = .int .i64 (bAt M i) ∧ v40 = .int .i64 (i : Int) ∧ Aside0 (b = putB [z, (M.length : Int)] ++ encI M i ∧ i ≤ M.length ∧ M.length + 1 - i ≤ kq) ∧ Aside0 (Kd.C (Kd.int .u8) w' A2 b.length b) ∧ Aside0 (b.length ≤ c2) ∧ Aside0 (Kd.C kR w' A3 M.length M) ∧ Aside0 (Below w.heap.size w w'))
  case atStart => exact ⟨0, A6, c6, putB [z, (M.length : Int)], rfl, rfl, rfl, ⟨by simp [encI], Nat.zero_le _, Nat.sub_le _ _⟩, HX6, HCX6, HM6, HB6⟩
  case round =>
    clear HX6 HCX6 HM6 HB6 HT2 HT3 HT4 HB2 HB3 HB4 HB5 HC5 HX HBT
    obtain ⟨i, A2, c2, b, rfl, rfl, rfl, HI, HX, HCX, HMC, HB⟩ := hrel
    by_cases hlt : i < M.length
    · have q0 := decide_eq_true (show (i : Int) < (M.length : Int) by omega)
      have q1 := decide_eq_true hlt
      have r0 := eq_true (show (i : Int) < (M.length : Int) by omega)
      have r1 := eq_true hlt
      have r2 := eq_true (show (0 : Int) ≤ (i : Int) by omega)
      obtain ⟨ad, e, x0_, x1_, x2_⟩ := at_Rg HMC.out i hlt
      cases e
      have hom := HMO.out.1 i hlt
      have hbt := bAt_ok HMO.out (Nat.le_of_lt hlt)
      have hle := hbt.2.2 hlt
      have HEN := Aside0.mk (show encI M (i + 1) = encI M i ++ putB [(rgAt M i).lo - bAt M i, (rgAt M i).hi - (rgAt M i).lo, (rgAt M i).va] from rfl)
      have HBN := Aside0.mk (show bAt M (i + 1) = (rgAt M i).hi + 1 from rfl)
      obtain ⟨e0, he0⟩ : ∃ e0, bAt M i = e0 := ⟨_, rfl⟩
      rw [he0] at HEN hbt hle ⊢
      clear he0
      generalize (rgAt M i).lo = x0 at x0_ HEN hom hle
      generalize (rgAt M i).hi = x1 at x1_ HEN HBN hom
      generalize (rgAt M i).va = x2 at x2_ HEN
      have hw0 : IntKind.i64.wrap (x0 - e0) = x0 - e0 := (i64_w _).trans (by unfold wrap64; omega)
      have hw1 : IntKind.i64.wrap (x1 - x0) = x1 - x0 := (i64_w _).trans (by unfold wrap64; omega)
      have hw2 : IntKind.i64.wrap (x1 + 1) = x1 + 1 := (i64_w _).trans (by unfold wrap64; omega)
      have hwi : IntKind.i64.wrap ((i : Int) + 1) = ((i + 1 : Nat) : Int) := (i64_w _).trans (by have := HML.out; unfold wrap64; omega)
      have HLX := Aside0.mk (show b.length < 1000000 by
        have h1 := encI_len M i
        have h2 := putB_len [z, (M.length : Int)]
        have h3 := HML.out
        rw [HI.out.1, List.length_append]
        simp only [List.length_cons, List.length_nil] at h2
        omega)
      have HLT := Aside0.mk hlt
      clear hlt hom hbt hle
      go_wp2_with (first | ((with_reducible refine gate_dst (N := 13) rfl ?_); refine wp_alloc_cells rfl 66 rfl _ zero_rng ?_; intro g13 hg w5 hb hB; have H5 := Aside0.mk hb; have HB5_ := Aside0.mk hB; have HG5 := Aside0.mk (Nat.le_of_eq hg.symm); have c0 := (blk_cell H5.out 0).trans rfl; have c1_ := (blk_cell H5.out 1).trans rfl; have c2_ := (blk_cell H5.out 2).trans rfl; have f0 := blk_frozen H5.out 0; have f1 := blk_frozen H5.out 1; have f2 := blk_frozen H5.out 2; clear hg hb hB) | (go_at_call 76; have hw6 := ((Wrote.set w5 g13 0 (.int .i64 x0)).trans (Wrote.set _ g13 1 (.int .i64 x1))).trans (Wrote.set _ g13 2 (.int .i64 x2)); have hb6 := hw6.below HB5_.out HG5.out; have H6 := Aside0.mk (show (((w5.setCell ⟨g13, 0, none⟩ (.int .i64 x0)).setCell ⟨g13, 1, none⟩ (.int .i64 x1)).setCell ⟨g13, 2, none⟩ (.int .i64 x2)).heap[g13]? = some (.cells #[.int .i64 x0, .int .i64 x1, .int .i64 x2] 66 (0, 0)) from (blk_set (blk_set (blk_set H5.out 0 _) 1 _) 2 _).trans rfl); (with_reducible refine (p_put3 (w0 := w) (Kd.C_below HX.out hb6) HCX.out HLX.out _ (x0 - e0) (x1 - x0) x2 _ (wrote_size hw6)).mono ?_); rintro e w7 ⟨A7, c7, rfl, h1, h2, hb⟩; have hb7 := below_step hb6 hb; have HB7 := Aside0.mk (below_step HB.out hb7); have HX7 := Aside0.mk h1; have HCX7 := Aside0.mk h2; have HM7 := Aside0.mk (Kd.C_below HMC.out hb7); have k7_1 := (blk_cell (blk_below H6.out hb) 1).trans rfl; clear hw6 hb6 h1 h2 hb hb7))
      go_roundg (M.length + 1 - (i + 1))
      case measure => have h1_ := HI.out.2.2; have h2_ := HLT.out; omega
      case rel => exact ⟨i + 1, A7, c7, b ++ putB [x0 - e0, x1 - x0, x2], by first | rfl | rw [List.length_append], by rw [HBN.out], by first | rfl | go_num | rw [hwi], ⟨by rw [HEN.out, HI.out.1, List.append_assoc], HLT.out, Nat.le_refl _⟩, HX7, HCX7, HM7, HB7⟩
    · have q0 := decide_eq_false (show ¬ (i : Int) < (M.length : Int) by omega)
      have q1 := decide_eq_false hlt
      have HE := Aside0.mk (show b = encB z M by rw [HI.out.1, show i = M.length by have := HI.out.2.1; omega]; rfl)
      clear hlt
      go_wp2
      (try simp only [Exit.inBlock, Exit.then])
      refine bodyPost_ret (results_list (rs := [.tmp 4, .tmp 5]) rfl (by simp) (.tmp (.tmp .nil))) rfl ?_
      exact ⟨A2, c2, by rw [← HE.out]; first | rfl | (simp; done), by rw [← HE.out]; exact HX.out, by rw [← HE.out]; exact HCX.out, HB.out⟩
theorem aw_enc : encB 1 (mrgF 1 aw) = [1, 1, 5, 1, 9] := by decide
theorem n300 : [] ++ numB 300 = [172, 2] := by decide
theorem p_encode_aw (w : World) : Calls Try.prog 39 #[.slice (some ⟨w.heap.size, 0, none⟩) 1 1, .int .i64 1] (w.alloc (.cells #[.int .i64 5, .int .i64 6, .int .i64 9] 66 (0, 0))) fun e w' => ∃ (A2 : Option Addr) (c2 : Nat), e = .returned (.tuple #[.slice A2 5 c2, .int .i64 0]) ∧ Kd.C (Kd.int .u8) w' A2 5 [1, 1, 5, 1, 9] ∧ 5 ≤ c2 ∧ Below w.heap.size w w' := by
  have h := p_encode (l := aw) (cc := 1) (aw_row w) aw_chk 1 (by decide) (by decide)
  rw [aw_enc] at h
  exact h.mono fun e w' ⟨A2, c2, h1, h2, h3, h4⟩ => ⟨A2, c2, h1, h2, h3, (below_alloc (Below.refl _ _) _).trans (h4.mono (below_alloc (Below.refl w.heap.size w) (.cells #[.int .i64 5, .int .i64 6, .int .i64 9] 66 (0, 0))).size)⟩
theorem p_number_300 (w : World) : Calls Try.prog 28 #[.slice none 0 0, .int .i64 300] w fun e w' => ∃ (A2 : Option Addr) (c2 : Nat), e = .returned (.slice A2 2 c2) ∧ Kd.C (Kd.int .u8) w' A2 2 [172, 2] ∧ 2 ≤ c2 ∧ Below w.heap.size w w' := by
  have h := p_number (l := []) (A := none) (c := 0) (w := w) ⟨rfl, by decide, fun h => by simp at h⟩ (Nat.le_refl _) (by simp) 300
  rw [n300] at h
  exact h
theorem p_eq5 {w : World} {A : Option Addr} {c : Nat} (h : Kd.C (Kd.int .u8) w A 5 [1, 1, 5, 1, 9]) (hc : 5 ≤ c) (t : TypeId) : Calls Try.prog 27 #[.slice A 5 c, .slice (some ⟨w.heap.size, 0, none⟩) 5 5] (w.alloc (.cells #[.int .u8 1, .int .u8 1, .int .u8 5, .int .u8 1, .int .u8 9] t (0, 0))) fun e w' => e = .returned (.bool true) ∧ Below w.heap.size w w' :=
  (p_eqb (l := [1, 1, 5, 1, 9]) (Kd.C_below h (below_alloc (Below.refl _ _) _)) hc (row_lit w t .u8 [1, 1, 5, 1, 9] (by simp)) (Nat.le_refl _)).mono fun e w' ⟨h1, h4⟩ => ⟨h1, (below_alloc (Below.refl _ _) _).trans (h4.mono (below_alloc (Below.refl w.heap.size w) (.cells #[.int .u8 1, .int .u8 1, .int .u8 5, .int .u8 1, .int .u8 9] t (0, 0))).size)⟩
theorem p_eq2 {w : World} {A : Option Addr} {c : Nat} (h : Kd.C (Kd.int .u8) w A 2 [172, 2]) (hc : 2 ≤ c) (t : TypeId) : Calls Try.prog 27 #[.slice A 2 c, .slice (some ⟨w.heap.size, 0, none⟩) 2 2] (w.alloc (.cells #[.int .u8 172, .int .u8 2] t (0, 0))) fun e w' => e = .returned (.bool true) ∧ Below w.heap.size w w' :=
  (p_eqb (l := [172, 2]) (Kd.C_below h (below_alloc (Below.refl _ _) _)) hc (row_lit w t .u8 [172, 2] (by simp)) (Nat.le_refl _)).mono fun e w' ⟨h1, h4⟩ => ⟨h1, (below_alloc (Below.refl _ _) _).trans (h4.mono (below_alloc (Below.refl w.heap.size w) (.cells #[.int .u8 172, .int .u8 2] t (0, 0))).size)⟩
set_option maxHeartbeats 8000000 in
set_option maxRecDepth 100000 in
theorem p_awakeP (w : World) : Calls Try.prog 24 #[] w fun e w' => e = .returned (.bool true) ∧ Below w.heap.size w w' := by
  go_enter Try.func24, Try.ntmps24
  go_wp2_with (first | (go_at_call 39; (with_reducible refine (p_encode_aw w).mono ?_); rintro e w1 ⟨A1, c1, rfl, h1, h2, hb⟩; have HC1 := Aside0.mk h1; have HCC1 := Aside0.mk h2; have HB1 := Aside0.mk hb; clear h1 h2 hb) | (go_at_call 27; (with_reducible refine (p_eq5 HC1.out HCC1.out _).mono ?_); rintro e w2 ⟨rfl, hb⟩; have HB2 := Aside0.mk (below_step HB1.out hb); clear hb) | (go_at_call 28; (with_reducible refine (p_number_300 w2).mono ?_); rintro e w3 ⟨A3, c3, rfl, h1, h2, hb⟩; have HC3 := Aside0.mk h1; have HCC3 := Aside0.mk h2; have HB3 := Aside0.mk (below_step HB2.out hb); clear h1 h2 hb) | (go_at_call 27; (with_reducible refine (p_eq2 HC3.out HCC3.out _).mono ?_); rintro e w4 ⟨rfl, hb⟩; have HB4 := Aside0.mk (below_step HB3.out hb); clear hb))
  go_ret
  exact ⟨by first | rfl | (simp; done), HB4.out⟩
theorem info_u8 : (Try.prog.info? 5).map (fun i => (i.zero, i.size, i.bytes)) = some (some (.int .u8 0), 1, 1) := by kernel_rfl
theorem split_mul (m t : Int) : m % 128 * t + m / 128 * (t * 128) = m * t := by
  have h := Int.emod_add_mul_ediv m 128
  conv => rhs; rw [← h]
  rw [Int.add_mul, Int.mul_comm t 128, ← Int.mul_assoc, Int.mul_comm (m / 128) 128]
theorem take_dig : ∀ (k : Nat) (m : Int) (i : Nat) (acc t : Int) (rest : List Int), 0 ≤ m → m < lim k → acc + m * t ≤ 2147483648 → (0 < i → m ≠ 0) → takF (digF (k + 1) m ++ rest) i acc t = (acc + m * t, ((i + (digF (k + 1) m).length : Nat) : Int), true) := by
  intro k
  induction k with
  | zero =>
    intro m i acc t rest h0 h1 h2 h3
    have h4 : m < 128 := h1
    have e : digF 1 m = [m] := by unfold digF; rw [if_neg (by omega)]
    rw [e]
    show takF (m :: rest) i acc t = _
    have hc : acc + m * t ≤ 2147483648 ∧ ¬ (m = 0 ∧ 0 < i) := ⟨h2, fun h => h3 h.2 h.1⟩
    rw [takF_cons, if_pos h4, if_pos hc]
    rfl
  | succ k ih =>
    intro m i acc t rest h0 h1 h2 h3
    have h4 : m < 128 * lim k := h1
    by_cases h : 128 ≤ m
    · have e : digF (k + 1 + 1) m = (128 + m % 128) :: digF (k + 1) (m / 128) := (if_pos h : (if 128 ≤ m then (128 + m % 128) :: digF (k + 1) (m / 128) else [m]) = (128 + m % 128) :: digF (k + 1) (m / 128))
      have es := split_mul m t
      rw [e]
      show takF ((128 + m % 128) :: (digF (k + 1) (m / 128) ++ rest)) i acc t = _
      rw [takF_cons, if_neg (by omega), show 128 + m % 128 - 128 = m % 128 by omega, ih (m / 128) (i + 1) _ _ rest (by omega) (by omega) (by omega) (fun _ => by omega), List.length_cons, show i + 1 + (digF (k + 1) (m / 128)).length = i + ((digF (k + 1) (m / 128)).length + 1) by omega, show acc + m % 128 * t + m / 128 * (t * 128) = acc + m * t by omega]
    · have e : digF (k + 1 + 1) m = [m] := (if_neg h : (if 128 ≤ m then (128 + m % 128) :: digF (k + 1) (m / 128) else [m]) = [m])
      rw [e]
      show takF (m :: rest) i acc t = _
      have hc : acc + m * t ≤ 2147483648 ∧ ¬ (m = 0 ∧ 0 < i) := ⟨h2, fun h => h3 h.2 h.1⟩
      rw [takF_cons, if_pos (by omega), if_pos hc]
      rfl
theorem take_num (n : Int) (b : List Int) : takB (numB n ++ b) = (fitN n, ((numB n).length : Int), true) := by
  have h0 := fitN_ok n
  have hl := numB_len n
  unfold takB
  rw [List.take_append, List.take_of_length_le hl]
  have h := take_dig 4 (fitN n) 0 0 1 (b.take (5 - (numB n).length)) h0.1 (by rw [lim4]; omega) (by omega) (fun h => by omega)
  rw [show digF (4 + 1) (fitN n) = numB n from rfl] at h
  rw [h, Nat.zero_add, Int.zero_add, Int.mul_one]
theorem numB_bytes (n : Int) : Bytes (numB n) := by
  have h : ∀ (k : Nat) (m : Int), 0 ≤ m → Bytes (digF k m) := fun k => by
    induction k with
    | zero => intro m _ x hx; simp [digF] at hx
    | succ k ih =>
      intro m hm x hx
      unfold digF at hx
      split at hx
      · rcases List.mem_cons.1 hx with e | e
        · omega
        · exact ih _ (by omega) x e
      · simp at hx; omega
  exact h 5 _ (fitN_ok n).1
theorem p_number0 {n : Int} {B : List Int} {N : Nat} (hB : numB n = B) (hN : B.length = N) (w : World) : Calls Try.prog 28 #[.slice none 0 0, .int .i64 n] w fun e w' => ∃ (A1 : Option Addr) (c1 : Nat), e = .returned (.slice A1 N c1) ∧ Kd.R (Kd.int .u8) 5 w' w.heap.size (fun _ => True) (.slice A1 N c1) B ∧ Below w.heap.size w w' := by
  have h0 : Kd.C (Kd.int .u8) w none ([] : List Int).length [] := ⟨rfl, by decide, fun h => by simp at h⟩
  refine (PPackedNumbers.packed_Number.calls 9 none 0 [] n ([] ++ numB n) w h0 (Nat.le_refl _) (number_f (by simp) n)).mono fun e w' ⟨v0, he, hR, hb⟩ => ?_
  rw [List.nil_append, hB] at hR
  obtain ⟨A1, c1, e1⟩ := Kd.R_slice hR
  rw [hN] at e1
  subst e1
  exact ⟨A1, c1, he, hR, hb⟩
set_option maxHeartbeats 8000000 in
set_option maxRecDepth 100000 in
theorem p_pback (n : Int) (A : Option Addr) (c : Nat) (l : List Int) (w : World) (hC : Kd.C (Kd.int .u8) w A l.length l) (hc : l.length ≤ c) (hb : Bytes l) :
    Calls Try.prog 7 #[.int .i64 n, .slice A l.length c] w fun e w' => e = .returned (.bool true) ∧ Below w.heap.size w w' := by
  have HC := Aside0.mk hC
  have HCC := Aside0.mk hc
  have HB0 := Aside0.mk (Below.refl w.heap.size w)
  by_cases h1 : 200 < l.length
  · have p0 : decide ((l.length : Int) > 200) = true := decide_eq_true (by omega)
    have p1 : decide (200 < (l.length : Int)) = true := decide_eq_true (by omega)
    have p2 : decide (200 < l.length) = true := decide_eq_true h1
    clear h1 hC hc hb
    go_enter Try.func7, Try.ntmps7
    go_wp2_with (first | (go_at_call 24; (with_reducible refine (p_awakeP _).mono ?_); rintro e wA ⟨rfl, hb⟩; have HBA := Aside0.mk (below_step HB0.out hb); clear hb))
    go_ret
    exact ⟨by first | rfl | (simp; done), HBA.out⟩
  · have p0 : decide ((l.length : Int) > 200) = false := decide_eq_false (by omega)
    have p1 : decide (200 < (l.length : Int)) = false := decide_eq_false (by omega)
    have p2 : decide (200 < l.length) = false := decide_eq_false h1
    have HLL := Aside0.mk (show l.length ≤ 200 by omega)
    obtain ⟨B, hB⟩ : ∃ B, numB n = B := ⟨_, rfl⟩
    obtain ⟨N, hN⟩ : ∃ N, B.length = N := ⟨_, rfl⟩
    obtain ⟨L, hL⟩ : ∃ L, B ++ l = L := ⟨_, rfl⟩
    have HNB := Aside0.mk hB
    have HNN := Aside0.mk hN
    have HNL := Aside0.mk (show B.length ≤ 5 by rw [← hB]; exact numB_len n)
    have HLS := Aside0.mk hL
    have HLB := Aside0.mk (show Bytes L by
      rw [← hL, ← hB]
      intro x hx
      rcases List.mem_append.1 hx with h | h
      · exact numB_bytes n x h
      · exact hb x h)
    have ht := take_num n l
    rw [hB, hL, hN] at ht
    have e2 : (((N : Nat) : Int) == (N : Int)) = true := by simp
    have e3 : decide ((N : Int) = (N : Int)) = true := by simp
    cases hf : fitP n with
    | true =>
      have h2 := (fitP_iff n).1 hf
      have e0 : decide (n < 0) = false := decide_eq_false (by omega)
      have e1 : decide (n > 2147483648) = false := decide_eq_false (by omega)
      have e4 : decide (2147483648 < n) = false := decide_eq_false (by omega)
      have e5 : (n == n) = true := by simp
      rw [show fitN n = n from if_pos hf] at ht
      have HT := Aside0.mk ht
      clear h1 h2 hf ht hB hN hL hC hc hb
      go_enter Try.func7, Try.ntmps7
      go_wp2_with (first | (go_at_call 28; (with_reducible refine (p_number0 HNB.out HNN.out w).mono ?_); rintro e w1 ⟨A1, c1, rfl, h1, hb⟩; have HB1 := Aside0.mk hb; have HR1 := Aside0.mk h1; clear h1 hb) | ((with_reducible refine gate_builtin (b := .append) (xs := #[.tmp 15, .tmp 16]) rfl ?_); at_builtin; refine Kd.R_append_rows (Kd.int .u8) (w0 := w) w.heap.size rfl (.tmp 15) (.tmp 16) 39 5 (.int .u8 0) 1 rfl Try.underlying39 info_u8 rfl (by decide) (by omega) (.slice A1 N c1) B l _ _ _ (fun _ => True) (fun _ => False) rfl rfl HR1.out ?aR (fun _ _ h => h) (fun _ h => h.elim) (fun _ _ => trivial) HB1.out HB1.out.size ?aL ?_; (case aR => exact Kd.C_below HC.out HB1.out); (case aL => have h1_ := HNL.out; have h2_ := HLL.out; omega); intro v2 w2 ho hb hg hat; rw [HLS.out] at ho; obtain ⟨A2, c2, e2, hc2, hC2⟩ := Kd.R_reads ho; subst e2; have HC2 := Aside0.mk hC2; have HCC2 := Aside0.mk hc2; have HB2 := Aside0.mk hb; clear ho hb hg hat hc2 hC2) | (go_at_call 25; (with_reducible refine (p_take HC2.out HCC2.out HLB.out).mono ?_); rw [HT.out]; rintro e w3 ⟨rfl, hb⟩; have HB3 := Aside0.mk (below_step HB2.out hb); clear hb) | (go_at_call 28; (with_reducible refine (p_number0 HNB.out HNN.out w3).mono ?_); rintro e w4 ⟨A4, c4, rfl, h1, hb⟩; have HBX := Aside0.mk (below_step HB3.out hb); clear h1 hb) | (go_at_call 24; (with_reducible refine (p_awakeP _).mono ?_); rintro e wA ⟨rfl, hb⟩; have HBA := Aside0.mk (below_step HBX.out hb); clear hb))
      go_ret
      exact ⟨by first | rfl | (simp; done), HBA.out⟩
    | false =>
      have h2 : ¬ (0 ≤ n ∧ n ≤ 2147483648) := fun h => by rw [(fitP_iff n).2 h] at hf; simp at hf
      rw [show fitN n = 0 from if_neg (by rw [hf]; simp)] at ht
      have HT := Aside0.mk ht
      by_cases h3 : n < 0
      · have e0 : decide (n < 0) = true := decide_eq_true h3
        clear h1 h2 hf ht hB hN hL hC hc hb h3
        go_enter Try.func7, Try.ntmps7
        go_wp2_with (first | (go_at_call 28; (with_reducible refine (p_number0 HNB.out HNN.out w).mono ?_); rintro e w1 ⟨A1, c1, rfl, h1, hb⟩; have HB1 := Aside0.mk hb; have HR1 := Aside0.mk h1; clear h1 hb) | ((with_reducible refine gate_builtin (b := .append) (xs := #[.tmp 15, .tmp 16]) rfl ?_); at_builtin; refine Kd.R_append_rows (Kd.int .u8) (w0 := w) w.heap.size rfl (.tmp 15) (.tmp 16) 39 5 (.int .u8 0) 1 rfl Try.underlying39 info_u8 rfl (by decide) (by omega) (.slice A1 N c1) B l _ _ _ (fun _ => True) (fun _ => False) rfl rfl HR1.out ?aR (fun _ _ h => h) (fun _ h => h.elim) (fun _ _ => trivial) HB1.out HB1.out.size ?aL ?_; (case aR => exact Kd.C_below HC.out HB1.out); (case aL => have h1_ := HNL.out; have h2_ := HLL.out; omega); intro v2 w2 ho hb hg hat; rw [HLS.out] at ho; obtain ⟨A2, c2, e2, hc2, hC2⟩ := Kd.R_reads ho; subst e2; have HC2 := Aside0.mk hC2; have HCC2 := Aside0.mk hc2; have HB2 := Aside0.mk hb; clear ho hb hg hat hc2 hC2) | (go_at_call 25; (with_reducible refine (p_take HC2.out HCC2.out HLB.out).mono ?_); rw [HT.out]; rintro e w3 ⟨rfl, hb⟩; have HB3 := Aside0.mk (below_step HB2.out hb); clear hb) | (go_at_call 28; (with_reducible refine (p_number0 HNB.out HNN.out w3).mono ?_); rintro e w4 ⟨A4, c4, rfl, h1, hb⟩; have HBX := Aside0.mk (below_step HB3.out hb); clear h1 hb) | (go_at_call 24; (with_reducible refine (p_awakeP _).mono ?_); rintro e wA ⟨rfl, hb⟩; have HBA := Aside0.mk (below_step HBX.out hb); clear hb))
        go_ret
        exact ⟨by first | rfl | (simp; done), HBA.out⟩
      · have e0 : decide (n < 0) = false := decide_eq_false h3
        have e1 : decide (n > 2147483648) = true := decide_eq_true (by omega)
        have e4 : decide (2147483648 < n) = true := decide_eq_true (by omega)
        clear h1 h2 hf ht hB hN hL hC hc hb h3
        go_enter Try.func7, Try.ntmps7
        go_wp2_with (first | (go_at_call 28; (with_reducible refine (p_number0 HNB.out HNN.out w).mono ?_); rintro e w1 ⟨A1, c1, rfl, h1, hb⟩; have HB1 := Aside0.mk hb; have HR1 := Aside0.mk h1; clear h1 hb) | ((with_reducible refine gate_builtin (b := .append) (xs := #[.tmp 15, .tmp 16]) rfl ?_); at_builtin; refine Kd.R_append_rows (Kd.int .u8) (w0 := w) w.heap.size rfl (.tmp 15) (.tmp 16) 39 5 (.int .u8 0) 1 rfl Try.underlying39 info_u8 rfl (by decide) (by omega) (.slice A1 N c1) B l _ _ _ (fun _ => True) (fun _ => False) rfl rfl HR1.out ?aR (fun _ _ h => h) (fun _ h => h.elim) (fun _ _ => trivial) HB1.out HB1.out.size ?aL ?_; (case aR => exact Kd.C_below HC.out HB1.out); (case aL => have h1_ := HNL.out; have h2_ := HLL.out; omega); intro v2 w2 ho hb hg hat; rw [HLS.out] at ho; obtain ⟨A2, c2, e2, hc2, hC2⟩ := Kd.R_reads ho; subst e2; have HC2 := Aside0.mk hC2; have HCC2 := Aside0.mk hc2; have HB2 := Aside0.mk hb; clear ho hb hg hat hc2 hC2) | (go_at_call 25; (with_reducible refine (p_take HC2.out HCC2.out HLB.out).mono ?_); rw [HT.out]; rintro e w3 ⟨rfl, hb⟩; have HB3 := Aside0.mk (below_step HB2.out hb); clear hb) | (go_at_call 28; (with_reducible refine (p_number0 HNB.out HNN.out w3).mono ?_); rintro e w4 ⟨A4, c4, rfl, h1, hb⟩; have HBX := Aside0.mk (below_step HB3.out hb); clear h1 hb) | (go_at_call 24; (with_reducible refine (p_awakeP _).mono ?_); rintro e wA ⟨rfl, hb⟩; have HBA := Aside0.mk (below_step HBX.out hb); clear hb))
        go_ret
        exact ⟨by first | rfl | (simp; done), HBA.out⟩
end Go.Proofs.Ytmkgihmchkphaaa.Stk
