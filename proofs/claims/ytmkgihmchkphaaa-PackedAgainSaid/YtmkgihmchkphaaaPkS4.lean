/- Packed: the law PackedAgain. -/
import Derived.Test.YtmkgihmchkphaaaPkS3
namespace Go.Proofs.Ytmkgihmchkphaaa.Stk
open Go.RowKit Go.Proofs.YtmkgihmchkphaaaW.PrintWords Go.Proofs.YtmkgihmchkphaaaW.PrintLast Go.Proofs.YtmkgihmchkphaaaW.PrintMore
attribute [local go_sem] max2_int min2_int max_two min_two max_three min_three max_four min_four   -- for this text's walks alone
set_option linter.unusedVariables false
set_option linter.unusedSimpArgs false
theorem mrg_again {l : List Rg} (z : Int) (hO : OkL l) (hl : l.length ≤ 4096) : mrgF z (mrgF z l) = mrgF z l := by
  have hc := chk_ok (mrg_chk z hO hl)
  have h1 := mrg_out z hO
  have h2 := mrg_out z hc.2
  have h3 := seg_fill (by decide) h1
  have h4 := seg_fill (by decide) h2
  have e := seg_uniq (Int.le_refl _) (fun x _ _ => mrg_val z hO hl x) h4 h3
  rw [← keep_fill h2, e, keep_fill h1]
theorem fit_step {z : Int} {out : List Rg} {r : Rg} (h : ∀ q, q ∈ out → fitP q.va = true) (hr : fitP r.va = true) : ∀ q, q ∈ stepM z out r → fitP q.va = true := by
  unfold stepM
  split
  · exact h
  · split
    · rename_i hc
      intro q hq
      rcases List.mem_or_eq_of_mem_set hq with h1 | h1
      · exact h q h1
      · subst h1
        rw [show (⟨(rgAt out (out.length - 1)).lo, r.hi, (rgAt out (out.length - 1)).va⟩ : Rg).va = r.va from hc.2.2]
        exact hr
    · intro q hq
      rcases List.mem_append.1 hq with h1 | h1
      · exact h q h1
      · simp at h1; subst h1; exact hr
theorem fit_fold {z : Int} : ∀ (l out : List Rg), (∀ q, q ∈ out → fitP q.va = true) → (∀ q, q ∈ l → fitP q.va = true) → ∀ q, q ∈ l.foldl (stepM z) out → fitP q.va = true
  | [], out, h, _ => h
  | r :: l, out, h, h2 => fit_fold l _ (fit_step h (h2 r (by simp))) (fun q hq => h2 q (by simp [hq]))
theorem bad_iff (l : List Rg) : badR l = false ↔ ∀ q, q ∈ l → fitP q.va = true := by unfold badR; simp
theorem bad_mrg {l : List Rg} (z : Int) (h : badR l = false) : badR (mrgF z l) = false := (bad_iff _).2 (fit_fold l [] (fun q hq => by simp at hq) ((bad_iff _).1 h))
def encT : List Rg → Int → List Int
  | [], _ => []
  | r :: rs, e => putB [r.lo - e, r.hi - r.lo, r.va] ++ encT rs (r.hi + 1)
theorem encI_T (M : List Rg) : ∀ i, i ≤ M.length → encI M i ++ encT (M.drop i) (bAt M i) = encT M 0
  | 0, _ => rfl
  | i + 1, h => by
    have h1 := encI_T M i (by omega)
    rw [List.drop_eq_getElem_cons (show i < M.length by omega), show M[i] = rgAt M i by simp [rgAt, List.getD, show i < M.length by omega]] at h1
    rw [← h1]
    show (encI M i ++ putB [(rgAt M i).lo - bAt M i, (rgAt M i).hi - (rgAt M i).lo, (rgAt M i).va]) ++ _ = encI M i ++ (putB [(rgAt M i).lo - bAt M i, (rgAt M i).hi - (rgAt M i).lo, (rgAt M i).va] ++ _)
    rw [List.append_assoc]
    rfl
theorem encI_all (M : List Rg) : encI M M.length = encT M 0 := by
  have h := encI_T M M.length (Nat.le_refl _)
  rw [List.drop_eq_nil_of_le (Nat.le_refl _)] at h
  rw [← h]
  exact (List.append_nil _).symm
def EncOk : Int → List Rg → Prop
  | _, [] => True
  | e, r :: rs => (e ≤ r.lo ∧ r.lo ≤ r.hi ∧ r.hi ≤ 1114111 ∧ fitP r.va = true) ∧ EncOk (r.hi + 1) rs
theorem outp_enc {V : Int → Int} {z : Int} : ∀ {out : List Rg} {a : Int}, OutP V z out a 1114112 → badR out = false → EncOk a out
  | [], a, h, hb => trivial
  | r :: out, a, h, hb => by
    have h1 := (bad_iff _).1 hb
    exact ⟨⟨h.1.1, h.1.2.1, by have := h.1.2.2.1; omega, h1 r (by simp)⟩, outp_enc h.2.2.2.2 ((bad_iff _).2 fun q hq => h1 q (by simp [hq]))⟩
theorem fitN_id {n : Int} (h0 : 0 ≤ n) (h1 : n ≤ 2147483648) : fitN n = n := if_pos ((fitP_iff n).2 ⟨h0, h1⟩)
theorem take_is {n : Int} (h0 : 0 ≤ n) (h1 : n ≤ 2147483648) (b : List Int) : takB (numB n ++ b) = (n, ((numB n).length : Int), true) := by rw [take_num, fitN_id h0 h1]
theorem rng_encT : ∀ (rs : List Rg) (e : Int), 0 ≤ e → EncOk e rs → rngN rs.length e (encT rs e) = some (rs, [])
  | [], e, h0, h => rfl
  | r :: rs, e, h0, h => by
    have h1 := h.1
    have hv := (fitP_iff r.va).1 h1.2.2.2
    have ih := rng_encT rs (r.hi + 1) (by omega) h.2
    have e1 : encT (r :: rs) e = numB (r.lo - e) ++ (numB (r.hi - r.lo) ++ (numB r.va ++ encT rs (r.hi + 1))) := by
      show putB [r.lo - e, r.hi - r.lo, r.va] ++ encT rs (r.hi + 1) = _
      rw [D.put3, List.append_assoc, List.append_assoc]
    rw [e1]
    have t1 := take_is (n := r.lo - e) (by omega) (by omega) (numB (r.hi - r.lo) ++ (numB r.va ++ encT rs (r.hi + 1)))
    have t2 := take_is (n := r.hi - r.lo) (by omega) (by omega) (numB r.va ++ encT rs (r.hi + 1))
    have t3 := take_is (n := r.va) hv.1 hv.2 (encT rs (r.hi + 1))
    have hx := rng_ok (k := rs.length) (e := e) t1 (List.drop_left) t2 (List.drop_left) t3 (List.drop_left)
    rw [List.length_cons, hx, show e + (r.lo - e) + (r.hi - r.lo) + 1 = r.hi + 1 by omega, ih, show e + (r.lo - e) = r.lo by omega, show r.lo + (r.hi - r.lo) = r.hi by omega]
    rfl
theorem again_rd {M : List Rg} {z : Int} (hz : fitP z = true) (hM : M.length ≤ 4096) (hE : EncOk 0 M) : rdF (encB z M) = ((M, z), 0) := by
  have hv := (fitP_iff z).1 hz
  have e1 : encB z M = numB z ++ (numB (M.length : Int) ++ encT M 0) := by
    unfold encB
    rw [D.put2, encI_all, List.append_assoc]
  rw [e1]
  have t1 := take_is (n := z) hv.1 hv.2 (numB (M.length : Int) ++ encT M 0)
  have t2 := take_is (n := (M.length : Int)) (by omega) (by omega) (encT M 0)
  rw [D.rdF_ok t1 (List.drop_left) t2 (List.drop_left), if_neg (by omega), Int.toNat_natCast, rng_encT M 0 (Int.le_refl _) hE]
  rfl
theorem encF_ok {l : List Rg} {z : Int} {eb : List Int} (h : encF l z = (eb, 0)) : chk l = 0 ∧ fitP z = true ∧ badR l = false ∧ eb = encB z (mrgF z l) := by
  unfold encF at h
  split at h
  · rename_i h1
    split at h
    · rename_i h2
      injection h with h3 h4
      exact ⟨h1, h2.1, h2.2, h3.symm⟩
    · injection h with h3 h4
      exact absurd h4 (by decide)
  · rename_i h1
    injection h with h3 h4
    exact absurd h4 h1
theorem again_dec {l : List Rg} {z : Int} {eb : List Int} (h : encF l z = (eb, 0)) : decF eb = ((mrgF z l, z), 0) := by
  obtain ⟨h1, h2, h3, rfl⟩ := encF_ok h
  have hc := chk_ok h1
  have hM := chk_ok (mrg_chk z hc.2 hc.1)
  have hr := again_rd h2 hM.1 (outp_enc (mrg_out z hc.2) (bad_mrg z h3))
  unfold decF
  rw [hr, if_pos rfl]
  show (if (encF (mrgF z l) z).2 = 0 then (if (encF (mrgF z l) z).1 = encB z (mrgF z l) then ((mrgF z l, z), 0) else (([], 0), 2)) else (([], 0), (encF (mrgF z l) z).2) : (List Rg × Int) × Int) = _
  have he : encF (mrgF z l) z = (encB z (mrgF z l), 0) := by
    unfold encF
    rw [if_pos (mrg_chk z hc.2 hc.1), if_pos ⟨h2, bad_mrg z h3⟩, mrg_again z hc.2 hc.1]
  rw [he, if_pos rfl, if_pos rfl]
theorem decF_enc {bs : List Int} {out : List Rg} {z : Int} (h : decF bs = ((out, z), 0)) : encF out z = (bs, 0) := by
  unfold decF at h
  split at h
  · split at h
    · rename_i h2
      split at h
      · rename_i h3
        injection h with h4 h5
        rw [h4] at h2 h3
        exact Prod.ext h3 h2
      · injection h with h4 h5
        exact absurd h5 (by decide)
    · rename_i h2
      injection h with h4 h5
      exact absurd h5 h2
  · rename_i h1
    injection h with h4 h5
    exact absurd h5 h1
theorem decF_err {bs : List Int} {out : List Rg} {z er : Int} (h : decF bs = ((out, z), er)) (he : er ≠ 0) : out = [] ∧ z = 0 := by
  unfold decF at h
  split at h
  · split at h
    · split at h
      · injection h with h4 h5
        exact absurd h5.symm he
      · injection h with h4 h5
        injection h4 with h6 h7
        exact ⟨h6.symm, h7.symm⟩
    · injection h with h4 h5
      injection h4 with h6 h7
      exact ⟨h6.symm, h7.symm⟩
  · injection h with h4 h5
    injection h4 with h6 h7
    exact ⟨h6.symm, h7.symm⟩
theorem built_get {l : List Rg} {z : Int} {fs : List Int} {bs : List (List Int)} (h : Built l z fs bs) (hO : OkL l) (c : Int) : (if 0 ≤ c ∧ c ≤ 1114111 then tabv fs bs c else z) = valR l z c := by
  by_cases hc : 0 ≤ c ∧ c ≤ 1114111
  · rw [if_pos hc]; exact built_at h c hc.1 hc.2
  · rw [if_neg hc, valR_out (fun i hi => by have := hO.1 i hi; omega)]
theorem p_got {w : World} {g : Nat} {l : List Rg} {z : Int} {fs : List Int} {bs : List (List Int)} (hT : TabR w g fs bs z true) (hB : Built l z fs bs) (hO : OkL l) (c v : Int) (hv : valR l z c = v) : Calls Try.prog 46 #[.pointer (some ⟨g, 0, none⟩), .int .i64 c] w fun e w' => e = .returned (.int .i64 v) ∧ Below w.heap.size w w' := by
  have h := p_get hT hB.1 c
  rw [built_get hB hO c, hv] at h
  exact h
theorem p_rranges2 {w : World} {A : Option Addr} {c : Nat} {l M : List Rg} (h : Kd.C kR w A l.length l) (hc : l.length ≤ c) (hO : OkL l) (hl : l.length ≤ 4096) (z : Int) (hM : mrgF z l = M) : Calls Try.prog 45 #[.slice A l.length c, .int .i64 z] w fun e w' => ∃ (A1 : Option Addr) (c1 : Nat), e = .returned (.slice A1 M.length c1) ∧ Kd.C kR w' A1 M.length M ∧ M.length ≤ c1 ∧ Below w.heap.size w w' := by
  subst hM
  have h1 := PPackedTables.naskhref06_Ranges.calls (l.length + 1) A c (l.map D.toS) z ((mrgF z l).map D.toS) w (by rw [List.length_map]; exact D.c_toS h) (by rw [List.length_map]; exact hc) (D.ranges_l hO hl _ 0 [] (by omega) (by omega) (Nat.le_refl _) (fun r hr => by simp at hr))
  rw [List.length_map] at h1
  refine h1.mono fun e w' ⟨v0, he, hR, hb⟩ => ?_
  obtain ⟨A1, c1, e1, hc1, hC1⟩ := Kd.R_reads hR
  rw [List.length_map] at e1 hc1 hC1
  have h3 := D.c_toR hC1
  rw [D.toRS] at h3
  exact ⟨A1, c1, by rw [he, e1], h3, hc1, hb⟩
set_option maxHeartbeats 8000000 in
set_option maxRecDepth 100000 in
theorem p_rget {w : World} {A : Option Addr} {cc : Nat} {l : List Rg} (hC : Kd.C kR w A l.length l) (hO : OkL l) (z c y : Int) (hy : valR l z c = y) :
    Calls Try.prog 47 #[.slice A l.length cc, .int .i64 z, .int .i64 c] w fun e w' => e = .returned (.int .i64 y) ∧ Below w.heap.size w w' := by
  have HC := Aside0.mk hC
  have HO := Aside0.mk hO
  have HY := Aside0.mk hy
  have HLN := Aside0.mk hC.2.1
  have HB0 := Aside0.mk (Below.refl w.heap.size w)
  clear hC hO hy
  go_enter Try.func47, Try.ntmps47
  go_wp2
  go_loopg [7] (l.length + 1) (fun kq v7 w' => ∃ (i : Nat), v7 = .int .i64 (i : Int) ∧ Aside0 (l.length + 1 - i ≤ kq ∧ i ≤ l.length ∧ ∀ j, j < i → ¬ ((rgAt l j).lo ≤ c ∧ c ≤ (rgAt l j).hi)) ∧ Aside0 (Below w.heap.size w w'))
  case atStart => exact ⟨0, rfl, ⟨Nat.sub_le _ _, Nat.zero_le _, fun j hj => by omega⟩, ⟨by first | exact HB0.out | exact HB0.out.drew⟩⟩
  case round =>
    obtain ⟨i, rfl, HI, HB⟩ := hrel
    by_cases hlt : i < l.length
    · have q0 := decide_eq_true (show (i : Int) < (l.length : Int) by omega)
      have q1 := decide_eq_true hlt
      have r0 := eq_true (show (i : Int) < (l.length : Int) by omega)
      have r1 := eq_true hlt
      have r2 := eq_true (show (0 : Int) ≤ (i : Int) by omega)
      obtain ⟨ad, e, x0_, x1_, x2_⟩ := at_Rg (Kd.C_below HC.out HB.out) i hlt
      cases e
      have HLT := Aside0.mk hlt
      have hwi : IntKind.i64.wrap ((i : Int) + 1) = ((i + 1 : Nat) : Int) := (i64_w _).trans (up1 hlt HLN.out)
      by_cases hin : (rgAt l i).lo ≤ c ∧ c ≤ (rgAt l i).hi
      · have HV := Aside0.mk ((valR_in (z := z) HO.out hlt hin.1 hin.2).symm.trans HY.out)
        have s0 : decide (c ≥ (rgAt l i).lo) = true := decide_eq_true hin.1
        have s1 : decide ((rgAt l i).lo ≤ c) = true := decide_eq_true hin.1
        have s2 : decide (c ≤ (rgAt l i).hi) = true := decide_eq_true hin.2
        clear hlt hin
        go_wp2
        go_ret
        exact ⟨by rw [← HV.out]; first | rfl | (simp; done), by first | exact HB.out | exact HB.out.drew⟩
      · have HN := Aside0.mk (show ∀ j, j < i + 1 → ¬ ((rgAt l j).lo ≤ c ∧ c ≤ (rgAt l j).hi) from fun j hj => by
          rcases Nat.lt_or_ge j i with h | h
          · exact HI.out.2.2 j h
          · rw [show j = i by omega]; exact hin)
        by_cases h1 : (rgAt l i).lo ≤ c
        · have s0 : decide (c ≥ (rgAt l i).lo) = true := decide_eq_true h1
          have s1 : decide ((rgAt l i).lo ≤ c) = true := decide_eq_true h1
          have s2 : decide (c ≤ (rgAt l i).hi) = false := decide_eq_false (fun h => hin ⟨h1, h⟩)
          clear hlt hin h1
          go_wp2
          go_roundg (l.length + 1 - (i + 1))
          case measure => have h1_ := HI.out.1; have h2_ := HLT.out; omega
          case rel => exact ⟨i + 1, by first | rfl | go_num | rw [hwi], ⟨Nat.le_refl _, HLT.out, HN.out⟩, ⟨by first | exact HB.out | exact HB.out.drew⟩⟩
        · have s0 : decide (c ≥ (rgAt l i).lo) = false := decide_eq_false h1
          have s1 : decide ((rgAt l i).lo ≤ c) = false := decide_eq_false h1
          clear hlt hin h1
          go_wp2
          go_roundg (l.length + 1 - (i + 1))
          case measure => have h1_ := HI.out.1; have h2_ := HLT.out; omega
          case rel => exact ⟨i + 1, by first | rfl | go_num | rw [hwi], ⟨Nat.le_refl _, HLT.out, HN.out⟩, ⟨by first | exact HB.out | exact HB.out.drew⟩⟩
    · have q0 := decide_eq_false (show ¬ (i : Int) < (l.length : Int) by omega)
      have q1 := decide_eq_false hlt
      have HV := Aside0.mk ((valR_out (z := z) (c := c) (fun j hj => HI.out.2.2 j (by omega))).symm.trans HY.out)
      clear hlt
      go_wp2
      go_ret
      exact ⟨by rw [← HV.out]; first | rfl | (simp; done), by first | exact HB.out | exact HB.out.drew⟩
set_option maxHeartbeats 8000000 in
set_option maxRecDepth 100000 in
theorem p_pagain (A : Option Addr) (c : Nat) (l : List Rg) (a1 : Int) (A2 : Option Addr) (c2 : Nat) (bs : List Int) (A5 : Option Addr) (c5 : Nat) (l2 : List Int) (w : World) (hC : Kd.C kR w A l.length l) (hc : l.length ≤ c) (hln : l.length < 5864062014805) (hD : Kd.C (Kd.int .u8) w A2 bs.length bs) (hdc : bs.length ≤ c2) (hb : Bytes bs) (hC2 : Kd.C (Kd.int .i64) w A5 l2.length l2) (hc2 : l2.length ≤ c5) :
    Calls Try.prog 13 #[.slice A l.length c, .int .i64 a1, .slice A2 bs.length c2, .slice A5 l2.length c5] w fun e w' => e = .returned (.bool true) ∧ Below w.heap.size w w' := by
  have HC := Aside0.mk hC
  have HCC := Aside0.mk hc
  have HD := Aside0.mk hD
  have HDC := Aside0.mk hdc
  have HBY := Aside0.mk hb
  have HK := Aside0.mk hC2
  have HL2 := Aside0.mk hC2.2.1
  have HB0 := Aside0.mk (Below.refl w.heap.size w)
  clear hC hc hln hD hdc hb hC2 hc2
  by_cases h1 : 100 < l.length
  · have p0 : decide ((l.length : Int) > 100) = true := decide_eq_true (by omega)
    have p1 : decide (100 < (l.length : Int)) = true := decide_eq_true (by omega)
    have p2 : decide (100 < l.length) = true := decide_eq_true h1
    clear h1
    go_enter Try.func13, Try.ntmps13
    go_wp2_with (first | (go_at_call 24; (with_reducible refine (p_awakeP _).mono ?_); rintro e wA ⟨rfl, hb⟩; have HBA := Aside0.mk (below_step HB0.out hb); clear hb))
    go_ret
    exact ⟨by first | rfl | (simp; done), HBA.out⟩
  · have p0 : decide ((l.length : Int) > 100) = false := decide_eq_false (by omega)
    have p1 : decide (100 < (l.length : Int)) = false := decide_eq_false (by omega)
    have p2 : decide (100 < l.length) = false := decide_eq_false h1
    by_cases h3 : 400 < bs.length
    · have r0 : decide ((bs.length : Int) > 400) = true := decide_eq_true (by omega)
      have r1 : decide (400 < (bs.length : Int)) = true := decide_eq_true (by omega)
      have r2 : decide (400 < bs.length) = true := decide_eq_true h3
      clear h1 h3
      go_enter Try.func13, Try.ntmps13
      go_wp2_with (first | (go_at_call 24; (with_reducible refine (p_awakeP _).mono ?_); rintro e wA ⟨rfl, hb⟩; have HBA := Aside0.mk (below_step HB0.out hb); clear hb))
      go_ret
      exact ⟨by first | rfl | (simp; done), HBA.out⟩
    · have r0 : decide ((bs.length : Int) > 400) = false := decide_eq_false (by omega)
      have r1 : decide (400 < (bs.length : Int)) = false := decide_eq_false (by omega)
      have r2 : decide (400 < bs.length) = false := decide_eq_false h3
      by_cases h5 : 100 < l2.length
      · have s0 : decide ((l2.length : Int) > 100) = true := decide_eq_true (by omega)
        have s1 : decide (100 < (l2.length : Int)) = true := decide_eq_true (by omega)
        have s2 : decide (100 < l2.length) = true := decide_eq_true h5
        clear h1 h3 h5
        go_enter Try.func13, Try.ntmps13
        go_wp2_with (first | (go_at_call 24; (with_reducible refine (p_awakeP _).mono ?_); rintro e wA ⟨rfl, hb⟩; have HBA := Aside0.mk (below_step HB0.out hb); clear hb))
        go_ret
        exact ⟨by first | rfl | (simp; done), HBA.out⟩
      · have s0 : decide ((l2.length : Int) > 100) = false := decide_eq_false (by omega)
        have s1 : decide (100 < (l2.length : Int)) = false := decide_eq_false (by omega)
        have s2 : decide (100 < l2.length) = false := decide_eq_false h5
        clear h1 h3 h5
        rcases hen : encF l a1 with ⟨eb, ee⟩
        by_cases hee : ee = 0
        · subst hee
          have hok := encF_ok hen
          have HO := Aside0.mk (chk_ok hok.1).2
          have HLL := Aside0.mk (chk_ok hok.1).1
          have HEB := Aside0.mk (show Bytes eb by have h := D.encF_bytes l a1; rw [hen] at h; exact h)
          have hde := again_dec hen
          have hmx := mrg_chk a1 HO.out HLL.out
          have hmv := mrg_val a1 HO.out HLL.out
          obtain ⟨M, hM⟩ : ∃ M, mrgF a1 l = M := ⟨_, rfl⟩
          rw [hM] at hde hmx hmv
          have HEN := Aside0.mk hen
          have HDE := Aside0.mk hde
          have HMX := Aside0.mk hmx
          have HOM := Aside0.mk (chk_ok hmx).2
          have HMV := Aside0.mk hmv
          have HM := Aside0.mk hM
          have e7 : (a1 != a1) = false := by simp
          clear hen hok hde hmx hmv hM
          go_enter Try.func13, Try.ntmps13
          go_wp2_with (first | (go_at_call 39; (with_reducible refine (p_encode_all HC.out a1).mono ?_); rintro e w1 hr; unfold EncR at hr; rw [HEN.out] at hr; obtain ⟨A1, c1, rfl, h1, h2, hb⟩ := hr; have HX1 := Aside0.mk h1; have HCX1 := Aside0.mk h2; have HB1 := Aside0.mk hb; clear h1 h2 hb) | (go_at_call 41; (with_reducible refine (p_decode HX1.out HCX1.out HEB.out).mono ?_); rintro e w2 hr; unfold DecR at hr; rw [HDE.out] at hr; obtain ⟨A2_, c2_, rfl, h1, h2, hb⟩ := hr; have HM2 := Aside0.mk h1; have HCM2 := Aside0.mk h2; have HB2 := Aside0.mk (below_step HB1.out hb); clear h1 h2 hb) | (go_at_call 44; (with_reducible refine (p_build HM2.out HMX.out a1).mono ?_); rintro e w3 ⟨g, fs, bl, rfl, hb, hT, _, hBt⟩; have HB3 := Aside0.mk (below_step HB2.out hb); have HM3 := Aside0.mk (Kd.C_below HM2.out hb); have HT3 := Aside0.mk hT; have HBT := Aside0.mk hBt; clear hb hT hBt) | (go_at_call 45; (with_reducible refine (p_rranges2 (Kd.C_below HC.out HB3.out) HCC.out HO.out HLL.out a1 HM.out).mono ?_); rintro e w4 ⟨A4, c4, rfl, h1, h2, hb⟩; have HB4 := Aside0.mk (below_step HB3.out hb); have HM34 := Aside0.mk (Kd.C_below HM3.out hb); have HM4 := Aside0.mk h1; have HCM4 := Aside0.mk h2; have HT4 := Aside0.mk (tab_below HT3.out hb); clear h1 h2 hb) | (go_at_call 43; (with_reducible refine (D.p_reqr HM34.out HCM2.out HM4.out HCM4.out).mono ?_); rintro e w5 ⟨rfl, hb⟩; have HB5 := Aside0.mk (below_step HB4.out hb); have HT5 := Aside0.mk (tab_below HT4.out hb); clear hb))
          go_loopg [78] (l2.length + 1) (fun kq v78 w' => ∃ (i : Nat), v78 = .int .i64 (i : Int) ∧ Aside0 (l2.length + 1 - i ≤ kq) ∧ Aside0 (TabR w' g fs bl a1 true) ∧ Aside0 (Below w.heap.size w w'))
          case atStart => exact ⟨0, rfl, ⟨Nat.sub_le _ _⟩, HT5, HB5⟩
          case round =>
            clear HT3 HT4 HT5 HB5 HB4 HB3 HB2 HB1 HM2 HM3 HM34 HM4 HX1
            obtain ⟨i, rfl, HQ, HT, HB⟩ := hrel
            by_cases hlt : i < l2.length
            · have q0 := decide_eq_true (show (i : Int) < (l2.length : Int) by omega)
              have q1 := decide_eq_true hlt
              have r0 := eq_true (show (i : Int) < (l2.length : Int) by omega)
              have r1 := eq_true hlt
              have r2 := eq_true (show (0 : Int) ≤ (i : Int) by omega)
              obtain ⟨ad, e, x0_⟩ := Kd.at_int (Kd.C_below HK.out HB.out) (i : Int) (by omega) (by omega)
              cases e
              rw [Int.toNat_natCast] at x0_
              generalize rd l2 (i : Int) = x at x0_
              obtain ⟨y, hy⟩ : ∃ y, valR l a1 x = y := ⟨_, rfl⟩
              have HY := Aside0.mk hy
              have HYM := Aside0.mk ((HMV.out x).trans hy)
              have ey : (y != y) = false := by simp
              have HLT := Aside0.mk hlt
              have hwi : IntKind.i64.wrap ((i : Int) + 1) = ((i + 1 : Nat) : Int) := (i64_w _).trans (up1 hlt HL2.out)
              clear hlt hy
              go_wp2_with (first | (go_at_call 46; (with_reducible refine (p_got HT.out HBT.out HOM.out x y HYM.out).mono ?_); rintro e w7 ⟨rfl, hb⟩; have HT7 := Aside0.mk (tab_below HT.out hb); have HB7 := Aside0.mk (below_step HB.out hb); clear hb) | (go_at_call 47; (with_reducible refine (p_rget (Kd.C_below HC.out HB7.out) HO.out a1 x y HY.out).mono ?_); rintro e w8 ⟨rfl, hb⟩; have HT8 := Aside0.mk (tab_below HT7.out hb); have HB8 := Aside0.mk (below_step HB7.out hb); clear hb))
              go_roundg (l2.length + 1 - (i + 1))
              case measure => have h1_ := HQ.out; have h2_ := HLT.out; omega
              case rel => exact ⟨i + 1, by first | rfl | go_num | rw [hwi], ⟨Nat.le_refl _⟩, HT8, HB8⟩
            · have q0 := decide_eq_false (show ¬ (i : Int) < (l2.length : Int) by omega)
              have q1 := decide_eq_false hlt
              clear hlt
              rcases hdf : decF bs with ⟨⟨out, z2⟩, er⟩
              by_cases her : er = 0
              · subst her
                have HDF := Aside0.mk hdf
                have HE3 := Aside0.mk (decF_enc hdf)
                clear hdf
                go_wp2_with (first | (go_at_call 41; (with_reducible refine (p_decode (Kd.C_below HD.out HB.out) HDC.out HBY.out).mono ?_); rintro e wd hr; unfold DecR at hr; rw [HDF.out] at hr; obtain ⟨Ad, cd, rfl, h1, h2, hb⟩ := hr; have HPd := Aside0.mk h1; have HCPd := Aside0.mk h2; have HBd := Aside0.mk (below_step HB.out hb); clear h1 h2 hb) | (go_at_call 39; (with_reducible refine (p_encode_all HPd.out z2).mono ?_); rintro e we hr; unfold EncR at hr; rw [HE3.out] at hr; obtain ⟨Ae, ce, rfl, h1, h2, hb⟩ := hr; have HXe := Aside0.mk h1; have HCXe := Aside0.mk h2; have HBe := Aside0.mk (below_step HBd.out hb); clear h1 h2 hb) | (go_at_call 27; (with_reducible refine (p_eqb HXe.out HCXe.out (Kd.C_below HD.out HBe.out) HDC.out).mono ?_); rintro e wf ⟨rfl, hb⟩; have HBf := Aside0.mk (below_step HBe.out hb); clear hb) | (go_at_call 24; (with_reducible refine (p_awakeP _).mono ?_); rintro e wA ⟨rfl, hb⟩; have HBA := Aside0.mk (below_step HBf.out hb); clear hb))
                go_ret
                exact ⟨by first | rfl | (simp; done), HBA.out⟩
              · have hz := decF_err hdf her
                have e8 : (er != 0) = true := by simp [her]
                rw [hz.1, hz.2] at hdf
                have HDF := Aside0.mk hdf
                clear hdf hz her
                go_wp2_with (first | (go_at_call 41; (with_reducible refine (p_decode (Kd.C_below HD.out HB.out) HDC.out HBY.out).mono ?_); rintro e wd hr; unfold DecR at hr; rw [HDF.out] at hr; obtain ⟨Ad, cd, rfl, h1, h2, hb⟩ := hr; have HPd := Aside0.mk h1; have HCPd := Aside0.mk h2; have HBd := Aside0.mk (below_step HB.out hb); clear h1 h2 hb) | (go_at_call 24; (with_reducible refine (p_awakeP _).mono ?_); rintro e wA ⟨rfl, hb⟩; have HBA := Aside0.mk (below_step HBd.out hb); clear hb))
                go_ret
                exact ⟨by first | rfl | (simp; done), HBA.out⟩
        · have HEN := Aside0.mk hen
          have e0 : (ee == 0) = false := by simp [hee]
          have e1 : decide (ee = 0) = false := decide_eq_false hee
          clear hen hee
          rcases hdf : decF bs with ⟨⟨out, z2⟩, er⟩
          by_cases her : er = 0
          · subst her
            have HDF := Aside0.mk hdf
            have HE3 := Aside0.mk (decF_enc hdf)
            clear hdf
            go_enter Try.func13, Try.ntmps13
            go_wp2_with (first | (go_at_call 39; (with_reducible refine (p_encode_all HC.out a1).mono ?_); rintro e w1 hr; unfold EncR at hr; rw [HEN.out] at hr; obtain ⟨A1, c1, rfl, h1, h2, hb⟩ := hr; have HX1 := Aside0.mk h1; have HCX1 := Aside0.mk h2; have HB1 := Aside0.mk hb; clear h1 h2 hb) | (go_at_call 41; (with_reducible refine (p_decode (Kd.C_below HD.out HB1.out) HDC.out HBY.out).mono ?_); rintro e wd hr; unfold DecR at hr; rw [HDF.out] at hr; obtain ⟨Ad, cd, rfl, h1, h2, hb⟩ := hr; have HPd := Aside0.mk h1; have HCPd := Aside0.mk h2; have HBd := Aside0.mk (below_step HB1.out hb); clear h1 h2 hb) | (go_at_call 39; (with_reducible refine (p_encode_all HPd.out z2).mono ?_); rintro e we hr; unfold EncR at hr; rw [HE3.out] at hr; obtain ⟨Ae, ce, rfl, h1, h2, hb⟩ := hr; have HXe := Aside0.mk h1; have HCXe := Aside0.mk h2; have HBe := Aside0.mk (below_step HBd.out hb); clear h1 h2 hb) | (go_at_call 27; (with_reducible refine (p_eqb HXe.out HCXe.out (Kd.C_below HD.out HBe.out) HDC.out).mono ?_); rintro e wf ⟨rfl, hb⟩; have HBf := Aside0.mk (below_step HBe.out hb); clear hb) | (go_at_call 24; (with_reducible refine (p_awakeP _).mono ?_); rintro e wA ⟨rfl, hb⟩; have HBA := Aside0.mk (below_step HBf.out hb); clear hb))
            go_ret
            exact ⟨by first | rfl | (simp; done), HBA.out⟩
          · have hz := decF_err hdf her
            have e8 : (er != 0) = true := by simp [her]
            rw [hz.1, hz.2] at hdf
            have HDF := Aside0.mk hdf
            clear hdf hz her
            go_enter Try.func13, Try.ntmps13
            go_wp2_with (first | (go_at_call 39; (with_reducible refine (p_encode_all HC.out a1).mono ?_); rintro e w1 hr; unfold EncR at hr; rw [HEN.out] at hr; obtain ⟨A1, c1, rfl, h1, h2, hb⟩ := hr; have HX1 := Aside0.mk h1; have HCX1 := Aside0.mk h2; have HB1 := Aside0.mk hb; clear h1 h2 hb) | (go_at_call 41; (with_reducible refine (p_decode (Kd.C_below HD.out HB1.out) HDC.out HBY.out).mono ?_); rintro e wd hr; unfold DecR at hr; rw [HDF.out] at hr; obtain ⟨Ad, cd, rfl, h1, h2, hb⟩ := hr; have HPd := Aside0.mk h1; have HCPd := Aside0.mk h2; have HBd := Aside0.mk (below_step HB1.out hb); clear h1 h2 hb) | (go_at_call 24; (with_reducible refine (p_awakeP _).mono ?_); rintro e wA ⟨rfl, hb⟩; have HBA := Aside0.mk (below_step HBd.out hb); clear hb))
            go_ret
            exact ⟨by first | rfl | (simp; done), HBA.out⟩
end Go.Proofs.Ytmkgihmchkphaaa.Stk
