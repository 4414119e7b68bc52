/- Packed: Encode. -/
import Derived.Test.YtmkgihmchkphaaaPkP4
namespace Go.Proofs.Ytmkgihmchkphaaa.Stk
open Go.RowKit Go.Proofs.YtmkgihmchkphaaaW.PrintWords Go.Proofs.YtmkgihmchkphaaaW.PrintLast Go.Proofs.YtmkgihmchkphaaaW.PrintMore
attribute [local go_sem] max2_int min2_int max_two min_two max_three min_three max_four min_four   -- for this text's walks alone
set_option linter.unusedVariables false
set_option linter.unusedSimpArgs false
/-- The bytes of the first ranges. -/
def encI (M : List Rg) : Nat → List Int
  | 0 => []
  | i + 1 => encI M i ++ putB [(rgAt M i).lo - bAt M i, (rgAt M i).hi - (rgAt M i).lo, (rgAt M i).va]
def encB (z : Int) (M : List Rg) : List Int := putB [z, (M.length : Int)] ++ encI M M.length
theorem encI_len (M : List Rg) : ∀ i, (encI M i).length ≤ 15 * i
  | 0 => Nat.le_refl _
  | i + 1 => by
    have h1 := encI_len M i
    have h2 := putB_len [(rgAt M i).lo - bAt M i, (rgAt M i).hi - (rgAt M i).lo, (rgAt M i).va]
    unfold encI
    rw [List.length_append]
    simp only [List.length_cons, List.length_nil] at h2
    omega
theorem wrote_size {w w1 : World} {g : Nat} (h : Wrote w w1 g) : w1.heap.size = w.heap.size := h.1
theorem row_lit (w : World) (t : TypeId) (k : IntKind) (xs : List Int) (hl : xs.length ≤ 100) : Kd.C (Kd.int k) (w.alloc (.cells (xs.map (Value.int k)).toArray t (0, 0))) (some ⟨w.heap.size, 0, none⟩) xs.length xs := by
  refine ⟨rfl, by omega, fun _ => ⟨_, rfl, fun j p hp => ⟨[.int k p], rfl, rfl, fun i u hu => ?_⟩⟩⟩
  match i, hu with
  | 0, hu =>
    obtain rfl := Option.some.inj hu
    rw [Addr.add_mid, Nat.zero_add]
    show World.cell? _ ⟨_, j * 1 + 0, none⟩ = _
    rw [Nat.mul_one, Nat.add_zero, blk_cell (blk_new w _)]
    have h1 : (xs.map (Value.int k))[j]? = some (.int k p) := by rw [List.getElem?_map, hp]; rfl
    simpa using h1
  | i + 1, hu => simp at hu
theorem row_two (w : World) (t : TypeId) (a b : Int) : Kd.C (Kd.int .i64) (w.alloc (.cells #[.int .i64 a, .int .i64 b] t (0, 0))) (some ⟨w.heap.size, 0, none⟩) 2 [a, b] := row_lit w t .i64 [a, b] (by simp)
theorem row_three (w : World) (t : TypeId) (a b c : Int) : Kd.C (Kd.int .i64) (w.alloc (.cells #[.int .i64 a, .int .i64 b, .int .i64 c] t (0, 0))) (some ⟨w.heap.size, 0, none⟩) 3 [a, b, c] := row_lit w t .i64 [a, b, c] (by simp)
theorem p_put2 (w : World) (t : TypeId) (a b : Int) : Calls Try.prog 76 #[.slice none 0 0, .slice (some ⟨w.heap.size, 0, none⟩) 2 2] (w.alloc (.cells #[.int .i64 a, .int .i64 b] t (0, 0))) fun e w' => ∃ (A2 : Option Addr) (c2 : Nat), e = .returned (.slice A2 (putB [a, b]).length c2) ∧ Kd.C (Kd.int .u8) w' A2 (putB [a, b]).length (putB [a, b]) ∧ (putB [a, b]).length ≤ c2 ∧ Below w.heap.size w w' :=
  (p_put (l := []) (ns := [a, b]) (A := none) (c := 0) (c1 := 2) ⟨rfl, by decide, fun h => by simp at h⟩ (Nat.le_refl _) (row_two w t a b) (by simp)).mono fun e w' ⟨A2, c2, h1, h2, h3, h4⟩ => ⟨A2, c2, h1, h2, h3, (below_alloc (Below.refl _ _) _).trans (h4.mono (below_alloc (Below.refl w.heap.size w) (.cells #[.int .i64 a, .int .i64 b] t (0, 0))).size)⟩
theorem p_put3 {w0 w : World} {A : Option Addr} {c : Nat} {l : List Int} (hC : Kd.C (Kd.int .u8) w A l.length l) (hc : l.length ≤ c) (hl : l.length < 1000000) (t : TypeId) (x y z : Int) (N : Nat) (hN : w.heap.size = N) : Calls Try.prog 76 #[.slice A l.length c, .slice (some ⟨N, 0, none⟩) 3 3] (w.alloc (.cells #[.int .i64 x, .int .i64 y, .int .i64 z] t (0, 0))) fun e w' => ∃ (A2 : Option Addr) (c2 : Nat), e = .returned (.slice A2 (l ++ putB [x, y, z]).length c2) ∧ Kd.C (Kd.int .u8) w' A2 (l ++ putB [x, y, z]).length (l ++ putB [x, y, z]) ∧ (l ++ putB [x, y, z]).length ≤ c2 ∧ Below w.heap.size w w' := by
  subst hN
  exact (p_put (l := l) (ns := [x, y, z]) (c1 := 3) (Kd.C_below hC (below_alloc (Below.refl _ _) _)) hc (row_three w t x y z) (by simp only [List.length_cons, List.length_nil]; omega)).mono fun e w' ⟨A2, c2, h1, h2, h3, h4⟩ => ⟨A2, c2, h1, h2, h3, (below_alloc (Below.refl _ _) _).trans (h4.mono (below_alloc (Below.refl w.heap.size w) (.cells #[.int .i64 x, .int .i64 y, .int .i64 z] t (0, 0))).size)⟩
set_option maxHeartbeats 8000000 in
set_option maxRecDepth 100000 in
theorem p_encode {w : World} {A : Option Addr} {cc : Nat} {l : List Rg} (hC : Kd.C kR w A l.length l) (hk : chk l = 0) (z : Int) (hf : fitP z = true) (hbad : badR l = false) :
    Calls Try.prog 39 #[.slice A l.length cc, .int .i64 z] w fun e w' => ∃ (A2 : Option Addr) (c2 : Nat), e = .returned (.tuple #[.slice A2 (encB z (mrgF z l)).length c2, .int .i64 0]) ∧ Kd.C (Kd.int .u8) w' A2 (encB z (mrgF z l)).length (encB z (mrgF z l)) ∧ (encB z (mrgF z l)).length ≤ c2 ∧ Below w.heap.size w w' := by
  have HC := Aside0.mk hC
  have HX := Aside0.mk hk
  have HF := Aside0.mk hf
  have HBAD := Aside0.mk hbad
  have HL := Aside0.mk (chk_ok hk).1
  have HO := Aside0.mk (chk_ok hk).2
  have hmk := mrg_chk z HO.out HL.out
  have hml := mrg_len z l
  generalize hM : mrgF z l = M at hmk hml ⊢
  have HM := Aside0.mk hM
  have HMO := Aside0.mk (chk_ok hmk).2
  have HML := Aside0.mk (chk_ok hmk).1
  have hk39 := Try.underlying66
  clear hC hk hf hbad hmk hml hM
  go_enter Try.func39, Try.ntmps39
  go_wp2_with (first | (go_at_call 44; (with_reducible refine (p_build HC.out HX.out z).mono ?_); rintro e w2 ⟨g, fs, bs, rfl, hb, hT, _, hBt⟩; have HB2 := Aside0.mk hb; have HT2 := Aside0.mk hT; have HBT := Aside0.mk hBt; clear hb hT hBt) | (go_at_call 60; (with_reducible refine (p_fits z w2).mono ?_); rw [HF.out]; rintro e w3 ⟨rfl, hb⟩; have HB3 := Aside0.mk (below_step HB2.out hb); have HT3 := Aside0.mk (tab_below HT2.out hb); clear hb) | (go_at_call 74; (with_reducible refine (p_cont (Kd.C_below HC.out HB3.out)).mono ?_); rw [HBAD.out]; rintro e w4 ⟨rfl, hb⟩; have HB4 := Aside0.mk (below_step HB3.out hb); have HT4 := Aside0.mk (tab_below HT3.out hb); clear hb) | (go_at_call 75; (with_reducible refine (p_rng HT4.out HBT.out HO.out HM.out).mono ?_); rintro e w5 ⟨A3, rfl, h1, hb⟩; have HB5 := Aside0.mk (below_step HB4.out hb); have HC5 := Aside0.mk h1; clear h1 hb) | (go_at_call 76; (with_reducible refine (p_put2 w5 _ z (M.length : Int)).mono ?_); rintro e w6 ⟨A6, c6, rfl, h1, h2, hb⟩; have HB6 := Aside0.mk (below_step HB5.out hb); have HM6 := Aside0.mk (Kd.C_below HC5.out hb); have HX6 := Aside0.mk h1; have HCX6 := Aside0.mk h2; clear h1 h2 hb))
  go_loopg [10, 11, 40] (M.length + 1) (fun kq v10 v11 v40 w' => ∃ (i : Nat) (A2 : Option Addr) (c2 : Nat) (b : List Int), v10 = .slice A2 b.length c2 ∧ v11 = .int .i64 (bAt M i) ∧ v40 = .int .i64 (i : Int) ∧ Aside0 (b = putB [z, (M.length : Int)] ++ encI M i ∧ i ≤ M.length ∧ M.length + 1 - i ≤ kq) ∧ Aside0 (Kd.C (Kd.int .u8) w' A2 b.length b) ∧ Aside0 (b.length ≤ c2) ∧ Aside0 (Kd.C kR w' A3 M.length M) ∧ Aside0 (Below w.heap.size w w'))
  case atStart => exact ⟨0, A6, c6, putB [z, (M.length : Int)], rfl, rfl, rfl, ⟨by simp [encI], Nat.zero_le _, Nat.sub_le _ _⟩, HX6, HCX6, HM6, HB6⟩
  case round =>
    clear HX6 HCX6 HM6 HB6 HT2 HT3 HT4 HB2 HB3 HB4 HB5 HC5 HX HBT
    obtain ⟨i, A2, c2, b, rfl, rfl, rfl, HI, HX, HCX, HMC, HB⟩ := hrel
    by_cases hlt : i < M.length
    · have q0 := decide_eq_true (show (i : Int) < (M.length : Int) by omega)
      have q1 := decide_eq_true hlt
      have r0 := eq_true (show (i : Int) < (M.length : Int) by omega)
      have r1 := eq_true hlt
      have r2 := eq_true (show (0 : Int) ≤ (i : Int) by omega)
      obtain ⟨ad, e, x0_, x1_, x2_⟩ := at_Rg HMC.out i hlt
      cases e
      have hom := HMO.out.1 i hlt
      have hbt := bAt_ok HMO.out (Nat.le_of_lt hlt)
      have hle := hbt.2.2 hlt
      have HEN := Aside0.mk (show encI M (i + 1) = encI M i ++ putB [(rgAt M i).lo - bAt M i, (rgAt M i).hi - (rgAt M i).lo, (rgAt M i).va] from rfl)
      have HBN := Aside0.mk (show bAt M (i + 1) = (rgAt M i).hi + 1 from rfl)
      obtain ⟨e0, he0⟩ : ∃ e0, bAt M i = e0 := ⟨_, rfl⟩
      rw [he0] at HEN hbt hle ⊢
      clear he0
      generalize (rgAt M i).lo = x0 at x0_ HEN hom hle
      generalize (rgAt M i).hi = x1 at x1_ HEN HBN hom
      generalize (rgAt M i).va = x2 at x2_ HEN
      have hw0 : IntKind.i64.wrap (x0 - e0) = x0 - e0 := (i64_w _).trans (by unfold wrap64; omega)
      have hw1 : IntKind.i64.wrap (x1 - x0) = x1 - x0 := (i64_w _).trans (by unfold wrap64; omega)
      have hw2 : IntKind.i64.wrap (x1 + 1) = x1 + 1 := (i64_w _).trans (by unfold wrap64; omega)
      have hwi : IntKind.i64.wrap ((i : Int) + 1) = ((i + 1 : Nat) : Int) := (i64_w _).trans (by have := HML.out; unfold wrap64; omega)
      have HLX := Aside0.mk (show b.length < 1000000 by
        have h1 := encI_len M i
        have h2 := putB_len [z, (M.length : Int)]
        have h3 := HML.out
        rw [HI.out.1, List.length_append]
        simp only [List.length_cons, List.length_nil] at h2
        omega)
      have HLT := Aside0.mk hlt
      clear hlt hom hbt hle
      go_wp2_with (first | ((with_reducible refine gate_dst (N := 13) rfl ?_); refine wp_alloc_cells rfl 66 rfl _ zero_rng ?_; intro g13 hg w5 hb hB; have H5 := Aside0.mk hb; have HB5_ := Aside0.mk hB; have HG5 := Aside0.mk (Nat.le_of_eq hg.symm); have c0 := (blk_cell H5.out 0).trans rfl; have c1_ := (blk_cell H5.out 1).trans rfl; have c2_ := (blk_cell H5.out 2).trans rfl; have f0 := blk_frozen H5.out 0; have f1 := blk_frozen H5.out 1; have f2 := blk_frozen H5.out 2; clear hg hb hB) | (go_at_call 76; have hw6 := ((Wrote.set w5 g13 0 (.int .i64 x0)).trans (Wrote.set _ g13 1 (.int .i64 x1))).trans (Wrote.set _ g13 2 (.int .i64 x2)); have hb6 := hw6.below HB5_.out HG5.out; have H6 := Aside0.mk (show (((w5.setCell ⟨g13, 0, none⟩ (.int .i64 x0)).setCell ⟨g13, 1, none⟩ (.int .i64 x1)).setCell ⟨g13, 2, none⟩ (.int .i64 x2)).heap[g13]? = some (.cells #[.int .i64 x0, .int .i64 x1, .int .i64 x2] 66 (0, 0)) from (blk_set (blk_set (blk_set H5.out 0 _) 1 _) 2 _).trans rfl); (with_reducible refine (p_put3 (w0 := w) (Kd.C_below HX.out hb6) HCX.out HLX.out _ (x0 - e0) (x1 - x0) x2 _ (wrote_size hw6)).mono ?_); rintro e w7 ⟨A7, c7, rfl, h1, h2, hb⟩; have hb7 := below_step hb6 hb; have HB7 := Aside0.mk (below_step HB.out hb7); have HX7 := Aside0.mk h1; have HCX7 := Aside0.mk h2; have HM7 := Aside0.mk (Kd.C_below HMC.out hb7); have k7_1 := (blk_cell (blk_below H6.out hb) 1).trans rfl; clear hw6 hb6 h1 h2 hb hb7))
      go_roundg (M.length + 1 - (i + 1))
      case measure => have h1_ := HI.out.2.2; have h2_ := HLT.out; omega
      case rel => exact ⟨i + 1, A7, c7, b ++ putB [x0 - e0, x1 - x0, x2], by first | rfl | rw [List.length_append], by rw [HBN.out], by first | rfl | go_num | rw [hwi], ⟨by rw [HEN.out, HI.out.1, List.append_assoc], HLT.out, Nat.le_refl _⟩, HX7, HCX7, HM7, HB7⟩
    · have q0 := decide_eq_false (show ¬ (i : Int) < (M.length : Int) by omega)
      have q1 := decide_eq_false hlt
      have HE := Aside0.mk (show b = encB z M by rw [HI.out.1, show i = M.length by have := HI.out.2.1; omega]; rfl)
      clear hlt
      go_wp2
      (try simp only [Exit.inBlock, Exit.then])
      refine bodyPost_ret (results_list (rs := [.tmp 4, .tmp 5]) rfl (by simp) (.tmp (.tmp .nil))) rfl ?_
      exact ⟨A2, c2, by rw [← HE.out]; first | rfl | (simp; done), by rw [← HE.out]; exact HX.out, by rw [← HE.out]; exact HCX.out, HB.out⟩
end Go.Proofs.Ytmkgihmchkphaaa.Stk
