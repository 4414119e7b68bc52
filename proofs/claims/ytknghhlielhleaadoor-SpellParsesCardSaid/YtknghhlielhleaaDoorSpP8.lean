/- The spelling: the reference's Parse. -/
import Derived.Test.YtknghhlielhleaaDoorSpQ
import Derived.Test.YtknghhlielhleaaDoorSpP6
import Derived.Test.YtknghhlielhleaaDoorSpP7
namespace Go.Proofs.YtknghhlielhleaaDoor.Stk
open Go.RowKit Go.Proofs.YtknghhlielhleaaDoorW.PrintWords Go.Proofs.YtknghhlielhleaaDoorW.PrintLast Go.Proofs.YtknghhlielhleaaDoorW.PrintMore
attribute [local go_sem] max2_int min2_int max_two min_two max_three min_three max_four min_four   -- for this text's walks alone
set_option linter.unusedVariables false
set_option linter.unusedSimpArgs false
theorem info50 : (Tryd.prog.info? 50).map (·.zero) = some (some (.agg (bsc fun _ => false))) := by kernel_rfl
theorem fF_has {word : ByteArray} (h : fF word < 14) : hasW word (fF word) = true := by
  have := List.findIdx_getElem (xs := List.range 14) (p := hasW word) (w := by simpa [fF] using h)
  rw [List.getElem_range] at this
  exact this
theorem nvS_nvF (i k : Nat) : nvS i ((k : Int) + 1) = nvF i k := by
  unfold nvS nvF cFr
  by_cases h4 : i < 4
  · rw [if_pos h4, if_pos h4]
    by_cases h0 : i = 0
    · subst h0; rw [if_pos rfl, if_neg (by omega)]; omega
    · rw [if_neg h0, if_pos (by omega)]; omega
  · rw [if_neg h4, if_neg h4]
/-- The state of the reference's parsing: the options' block o, the answer's g2, the seen ones' gs, the words. -/
structure PSr (w0 : World) (B o gs g2 : Nat) (A : Option Addr) (c : Nat) (L : List ByteArray) (w : World) (v : Nat → Int) (s : Nat → Bool) : Prop where
  ho : w.heap[o]? = some (.cells (ovc v) 24 (0, 0))
  hs : w.heap[gs]? = some (.cells (bsc s) 50 (0, 0))
  h2 : w.heap[g2]? = some (.cells (ovc (fun _ => 0)) 24 (0, 0))
  hR : Kd.R Kd.string 9 w B (fun k => B ≤ k ∧ k < gs) (.slice A L.length c) L
  hB : Below w0.heap.size w0 w
  lt : g2 < o ∧ o < B ∧ B ≤ gs
  ge : w0.heap.size ≤ g2
section
variable {w0 w w1 : World} {B o gs g2 : Nat} {A : Option Addr} {c : Nat} {L : List ByteArray} {v : Nat → Int} {s : Nat → Bool}
theorem PSr.below (h : PSr w0 B o gs g2 A c L w v s) (k : Below w.heap.size w w1) : PSr w0 B o gs g2 A c L w1 v s :=
  ⟨blk_below h.ho k, blk_below h.hs k, blk_below h.h2 k, Kd.R_below h.hR k, below_step h.hB k, h.lt, h.ge⟩
theorem PSr.setO {v' : Nat → Int} (h : PSr w0 B o gs g2 A c L w v s) (k : Wrote w w1 o) (hv : w1.heap[o]? = some (.cells (ovc v') 24 (0, 0))) : PSr w0 B o gs g2 A c L w1 v' s := by
  have l := h.lt
  exact ⟨hv, k.blk h.hs (by omega), k.blk h.h2 (by omega), Kd.R_step h.hR (fun i hi hl => k.2.1 i (by omega)), k.below h.hB (by have := h.ge; omega), l, h.ge⟩
theorem PSr.setS (h : PSr w0 B o gs g2 A c L w v s) (i : Nat) (hi : i < 14) : PSr w0 B o gs g2 A c L (w.setCell ⟨gs, i, none⟩ (.bool true)) v (upd s i true) := by
  have l := h.lt
  have k := Wrote.set w gs i (.bool true)
  exact ⟨k.blk h.ho (by omega), by rw [← bsc_upd s i hi]; exact blk_set h.hs i _, k.blk h.h2 (by omega), Kd.R_step h.hR (fun j hj _ => k.2.1 j (by omega)), k.below h.hB (by have := h.ge; omega), l, h.ge⟩
end
set_option maxHeartbeats 8000000 in
set_option maxRecDepth 100000 in
theorem p_rparse (s : ByteArray) (w : World) :
    Calls Tryd.prog 9 #[.string s] w fun e w' => e = .returned (.tuple #[.agg (ovc (parseW s).2), .int .i64 (parseW s).1]) ∧ Below w.heap.size w w' := by
  have hu := Tryd.underlying24
  unfold parseW
  by_cases h1000 : 1000 < s.size
  · rw [if_pos h1000]
    have b0 : decide ((s.size : Int) > 1000) = true := decide_eq_true (by omega)
    have b1 : decide (1000 < (s.size : Int)) = true := decide_eq_true (by omega)
    clear h1000
    go_enter Tryd.func9, Tryd.ntmps9
    go_wp2_with (first | ((with_reducible refine gate_dst (N := 2) rfl ?_); refine wp_alloc_cells rfl 24 rfl _ infoTO ?_; intro g2 hg2 w1 hb1 hB1; have H2 := Aside0.mk hb1; have HB1 := Aside0.mk hB1; have HG2 := Aside0.mk (show w.heap.size ≤ g2 by omega); clear hg2 hb1 hB1) | ((with_reducible refine gate_dst (N := 4) rfl ?_); refine wp_alloc_cells rfl 24 rfl _ infoTO ?_; intro o ho w2 hb2 hB2; have H22 := Aside0.mk (blk_below H2.out hB2); have HO2 := Aside0.mk hb2; have HB2 := Aside0.mk (below_step HB1.out hB2); have HLO := Aside0.mk (show g2 < o ∧ o < w2.heap.size from ⟨by have := blk_lt H2.out; omega, blk_lt hb2⟩); clear ho hb2 hB2) | ((with_reducible refine gate_dst (N := 14) rfl ?_); refine wpList_load_row rfl 24 _ rfl o rfl 24 (ovc (fun _ => 0)) (0, 0) _ HO2.out Tryd.underlying24 rfl (size_ovc _) ?_) | ((with_reducible refine gate_store (t := 24) (p := 2) rfl ?_); refine wp_store_cells rfl 24 _ _ rfl rfl g2 (ovc (fun _ => 0)) rfl rfl 24 _ H22.out (size_ovc _) rfl (ovc_one _) ?_; intro wz hbz hWz; have HZ := Aside0.mk hbz; have HWZ := Aside0.mk hWz; clear hbz hWz))
    refine bodyPost_ret (res2 rfl _ _ g2 _ rfl HZ.out) rfl ?_
    exact ⟨rfl, HWZ.out.below HB2.out HG2.out⟩
  · rw [if_neg h1000]
    have b0 : decide ((s.size : Int) > 1000) = false := decide_eq_false (by omega)
    have b1 : decide (1000 < (s.size : Int)) = false := decide_eq_false (by omega)
    have HSZ := Aside0.mk (show s.size ≤ 1000000 by omega)
    have HLL := Aside0.mk (show (wsL s).length ≤ 1001 by have h1 := List.length_filter_le neB (pcs s); have h2 := pcs_le s; show ((pcs s).filter neB).length ≤ 1001; omega)
    obtain ⟨res, hres⟩ : ∃ res, run chkF (wsL s) (fun _ => 0) (fun _ => false) = res := ⟨_, rfl⟩
    have HRS := Aside0.mk hres
    rw [hres]
    clear h1000 hres
    go_enter Tryd.func9, Tryd.ntmps9
    go_wp2_with (first | ((with_reducible refine gate_dst (N := 2) rfl ?_); refine wp_alloc_cells rfl 24 rfl _ infoTO ?_; intro g2 hg2 w1 hb1 hB1; have H2 := Aside0.mk hb1; have HB1 := Aside0.mk hB1; have HG2 := Aside0.mk (show w.heap.size ≤ g2 by omega); clear hg2 hb1 hB1) | ((with_reducible refine gate_dst (N := 4) rfl ?_); refine wp_alloc_cells rfl 24 rfl _ infoTO ?_; intro o ho w2 hb2 hB2; have H22 := Aside0.mk (blk_below H2.out hB2); have HO2 := Aside0.mk hb2; have HB2 := Aside0.mk (below_step HB1.out hB2); have HLO := Aside0.mk (show g2 < o ∧ o < w2.heap.size from ⟨by have := blk_lt H2.out; omega, blk_lt hb2⟩); clear ho hb2 hB2) | (go_at_call 22; (with_reducible refine (p_rsplit s HSZ.out _).mono ?_); rintro e w3 ⟨v0, rfl, hR, hb⟩; obtain ⟨A, c, rfl, hlc, hC⟩ := Kd.R_reads hR; have HR3 := Aside0.mk hR; have HB3 := Aside0.mk hb; clear hR hb hlc hC) | ((with_reducible refine gate_dst (N := 6) rfl ?_); refine wp_alloc_cells rfl 50 rfl _ info50 ?_; intro gs hgs w4 hb4 hB4; have HP := Aside0.mk (show PSr w w2.heap.size o gs g2 A c (wsL s) w4 (fun _ => 0) (fun _ => false) from ⟨blk_below (blk_below HO2.out HB3.out) hB4, hb4, blk_below (blk_below H22.out HB3.out) hB4, Kd.R_below (Kd.R_mono (Kd.R_bound HR3.out) (fun k hk => ⟨hk.2.1, by have := hk.2.2.1; omega⟩)) hB4, below_step (below_step HB2.out HB3.out) hB4, ⟨HLO.out.1, HLO.out.2, by have := HB3.out.size; omega⟩, HG2.out⟩); clear hgs hb4 hB4))
    generalize wsL s = L at HP HLL HRS HR3
    generalize w2.heap.size = B at HP
    go_loopg [7] (L.length + 1) (fun kq v7 w' => ∃ (i : Nat) (v : Nat → Int) (sn : Nat → Bool), v7 = .int .i64 (i : Int) ∧ Aside0 (L.length + 1 - i ≤ kq ∧ i ≤ L.length) ∧ Aside0 (run chkF (L.drop i) v sn = res) ∧ Aside0 (PSr w B o gs g2 A c L w' v sn))
    case atStart => exact ⟨0, _, _, rfl, ⟨by omega, Nat.zero_le _⟩, HRS, HP⟩
    case round =>
      clear HP HRS H2 HB1 H22 HO2 HB2 HLO HR3 HB3
      obtain ⟨i, v, sn, rfl, HI, HRS, HPX⟩ := hrel
      by_cases hlt : i < L.length
      · have q0 := decide_eq_true (show (i : Int) < (L.length : Int) by omega)
        have q1 := decide_eq_true hlt
        have r0 := eq_true (show (i : Int) < (L.length : Int) by omega)
        have r1 := eq_true hlt
        have r2 := eq_true (show (0 : Int) ≤ (i : Int) by omega)
        have HIT := Aside0.mk hlt
        have hwi : IntKind.i64.wrap ((i : Int) + 1) = ((i + 1 : Nat) : Int) := (i64_w _).trans (by have := HIT.out; have := HLL.out; unfold wrap64; omega)
        obtain ⟨ad, e, xb⟩ := Kd.at_string (Kd.R_reads' HPX.out.hR).2.2 (i : Int) (by omega) (by omega)
        cases e
        rw [Int.toNat_natCast] at xb
        have hdr : L.drop i = rdOf ByteArray.empty L (i : Int) :: L.drop (i + 1) := by
          rw [List.drop_eq_getElem_cons hlt]
          simp [rdOf, hlt]
        have HRN := Aside0.mk (hdr ▸ HRS.out)
        generalize rdOf ByteArray.empty L (i : Int) = x at xb HRN
        clear hdr hlt
        by_cases hj : fF x < 14
        · have HR1 := Aside0.mk (show (if sn (fF x) = true then ((12 : Int), fun _ => 0) else run chkF (L.drop (i + 1)) (upd v (fF x) (nvF (fF x) (ixW (W (fF x)) x))) (upd sn (fF x) true)) = res by rw [← HRN.out, run_cons, if_pos hj])
          have HN0 : ixW (W (fF x)) x ≤ 4 := by
            have h1 := fF_has hj
            have h2 : ixW (W (fF x)) x < (W (fF x)).length := by simpa [hasW] using h1
            have h3 := W_len (fF x) hj
            omega
          have HFD := Aside0.mk (show fdF x = ((fF x : Nat) : Int) ∧ fdN x = (ixW (W (fF x)) x : Int) + 1 by unfold fdF fdN; rw [if_pos hj, if_pos hj]; exact ⟨rfl, rfl⟩)
          generalize ixW (W (fF x)) x = n at HR1 HN0 HFD
          generalize fF x = j at HR1 HFD hj
          have HN := Aside0.mk (show 1 ≤ (n : Int) + 1 ∧ (n : Int) + 1 ≤ 100 by omega)
          have HJT := Aside0.mk hj
          have q2 : decide ((j : Int) < 0) = false := decide_eq_false (by omega)
          have r3 := eq_true (show (j : Int) < 14 by omega)
          have r4 := eq_true (show (0 : Int) ≤ (j : Int) by omega)
          have r5 := eq_true hj
          clear hj HN0
          by_cases hsn : sn j = true
          · have HR3 := Aside0.mk (show res = ((12 : Int), fun _ => 0) by rw [← HR1.out, if_pos hsn])
            have n8 := hsn
            clear hsn
            go_wp2_with (first | (go_at_call 23; (with_reducible refine (p_find x _).mono ?_); rintro e w6 ⟨rfl, hb⟩; rw [HFD.out.1, HFD.out.2]; have HP6 := Aside0.mk (HPX.out.below hb); have k6 := bsc_at HP6.out.hs j HJT.out; have f6 := blk_frozen HP6.out.hs j; clear hb) | ((with_reducible refine gate_store (t := 24) (p := 2) rfl ?_); refine wp_store_cells rfl 24 _ _ rfl rfl g2 (ovc (fun _ => 0)) rfl rfl 24 _ HP6.out.h2 (size_ovc _) rfl (ovc_one _) ?_; intro wz hbz hWz; have HZ := Aside0.mk hbz; have HWZ := Aside0.mk hWz; clear hbz hWz))
            refine bodyPost_ret (res2 rfl _ _ g2 _ rfl HZ.out) rfl ?_
            exact ⟨by rw [HR3.out]; rfl, HWZ.out.below HP6.out.hB HP6.out.ge⟩
          · have HR3 := Aside0.mk (show run chkF (L.drop (i + 1)) (upd v j (nvS j ((n : Int) + 1))) (upd sn j true) = res by rw [← HR1.out, if_neg hsn, nvS_nvF])
            have n8 : sn j = false := by simpa using hsn
            clear hsn
            go_wp2_with (first | (go_at_call 23; (with_reducible refine (p_find x _).mono ?_); rintro e w6 ⟨rfl, hb⟩; rw [HFD.out.1, HFD.out.2]; have HP6 := Aside0.mk (HPX.out.below hb); have k6 := bsc_at HP6.out.hs j HJT.out; have f6 := blk_frozen HP6.out.hs j; clear hb) | ((with_reducible refine gate_dst (N := 40) rfl ?_); refine wpList_load_row rfl 24 _ rfl o rfl 24 (ovc v) (0, 0) _ (HP6.out.setS j HJT.out).ho Tryd.underlying24 rfl (size_ovc _) ?_) | (go_at_call 24; (with_reducible refine (p_set v j HJT.out ((n : Int) + 1) HN.out _).mono ?_); rintro e w8 ⟨rfl, hb⟩; have HP8 := Aside0.mk ((HP6.out.setS j HJT.out).below hb); clear hb) | ((with_reducible refine gate_store (t := 24) (p := 4) rfl ?_); refine wp_store_cells rfl 24 _ _ rfl rfl o (ovc (upd v j (nvS j ((n : Int) + 1)))) rfl rfl 24 _ HP8.out.ho (size_ovc _) rfl (ovc_one _) ?_; intro w9 hb9 hW9; have HP9 := Aside0.mk (HP8.out.setO hW9 hb9); clear hb9 hW9))
            go_roundg (L.length + 1 - (i + 1))
            case measure => have h1_ := HI.out.1; have h2_ := HIT.out; omega
            case rel => exact ⟨i + 1, _, _, by first | rfl | go_num | rw [hwi], ⟨Nat.le_refl _, HIT.out⟩, HR3, HP9⟩
        · have HR3 := Aside0.mk (show res = ((11 : Int), fun _ => 0) by rw [← HRN.out, run_cons, if_neg hj])
          have HFD := Aside0.mk (show fdF x = -1 ∧ fdN x = 0 by unfold fdF fdN; rw [if_neg hj, if_neg hj]; exact ⟨rfl, rfl⟩)
          clear hj
          go_wp2_with (first | (go_at_call 23; (with_reducible refine (p_find x _).mono ?_); rintro e w6 ⟨rfl, hb⟩; rw [HFD.out.1, HFD.out.2]; have HP6 := Aside0.mk (HPX.out.below hb); clear hb) | ((with_reducible refine gate_store (t := 24) (p := 2) rfl ?_); refine wp_store_cells rfl 24 _ _ rfl rfl g2 (ovc (fun _ => 0)) rfl rfl 24 _ HP6.out.h2 (size_ovc _) rfl (ovc_one _) ?_; intro wz hbz hWz; have HZ := Aside0.mk hbz; have HWZ := Aside0.mk hWz; clear hbz hWz))
          refine bodyPost_ret (res2 rfl _ _ g2 _ rfl HZ.out) rfl ?_
          exact ⟨by rw [HR3.out]; rfl, HWZ.out.below HP6.out.hB HP6.out.ge⟩
      · have q0 := decide_eq_false (show ¬ (i : Int) < (L.length : Int) by omega)
        have q1 := decide_eq_false hlt
        have HRN := Aside0.mk (show (if chkF v = 0 then ((0 : Int), v) else (chkF v, fun _ => 0)) = res by rw [← run_nil v sn, ← HRS.out, List.drop_eq_nil_of_le (by omega)])
        clear hlt
        by_cases hck : chkF v = 0
        · have HR3 := Aside0.mk (show res = ((0 : Int), v) by rw [← HRN.out, if_pos hck])
          have n8 : (chkF v != 0) = false := by simp [hck]
          have n9 : (chkF v == 0) = true := by simp [hck]
          clear hck
          go_wp2_with (first | ((with_reducible refine gate_dst (N := 44) rfl ?_); refine wpList_load_row rfl 24 _ rfl o rfl 24 (ovc v) (0, 0) _ HPX.out.ho Tryd.underlying24 rfl (size_ovc _) ?_) | (go_at_call 14; (with_reducible refine (p_rcheck v _).mono ?_); rintro e w9 ⟨rfl, hb9⟩; have HP9 := Aside0.mk (HPX.out.below hb9); clear hb9) | ((with_reducible refine gate_dst (N := 50) rfl ?_); refine wpList_load_row rfl 24 _ rfl o rfl 24 (ovc v) (0, 0) _ HP9.out.ho Tryd.underlying24 rfl (size_ovc _) ?_) | ((with_reducible refine gate_store (t := 24) (p := 2) rfl ?_); refine wp_store_cells rfl 24 _ _ rfl rfl g2 (ovc v) rfl rfl 24 _ HP9.out.h2 (size_ovc _) rfl (ovc_one _) ?_; intro wz hbz hWz; have HZ := Aside0.mk hbz; have HWZ := Aside0.mk hWz; clear hbz hWz))
          refine bodyPost_ret (res2 rfl _ _ g2 _ rfl HZ.out) rfl ?_
          exact ⟨by rw [HR3.out]; rfl, HWZ.out.below HP9.out.hB HP9.out.ge⟩
        · have HR3 := Aside0.mk (show res = (chkF v, fun _ => 0) by rw [← HRN.out, if_neg hck])
          have n8 : (chkF v != 0) = true := by simp [hck]
          have n9 : (chkF v == 0) = false := by simp [hck]
          clear hck
          go_wp2_with (first | ((with_reducible refine gate_dst (N := 44) rfl ?_); refine wpList_load_row rfl 24 _ rfl o rfl 24 (ovc v) (0, 0) _ HPX.out.ho Tryd.underlying24 rfl (size_ovc _) ?_) | (go_at_call 14; (with_reducible refine (p_rcheck v _).mono ?_); rintro e w9 ⟨rfl, hb9⟩; have HP9 := Aside0.mk (HPX.out.below hb9); clear hb9) | ((with_reducible refine gate_store (t := 24) (p := 2) rfl ?_); refine wp_store_cells rfl 24 _ _ rfl rfl g2 (ovc (fun _ => 0)) rfl rfl 24 _ HP9.out.h2 (size_ovc _) rfl (ovc_one _) ?_; intro wz hbz hWz; have HZ := Aside0.mk hbz; have HWZ := Aside0.mk hWz; clear hbz hWz))
          refine bodyPost_ret (res2 rfl _ _ g2 _ rfl HZ.out) rfl ?_
          exact ⟨by rw [HR3.out]; rfl, HWZ.out.below HP9.out.hB HP9.out.ge⟩
end Go.Proofs.YtknghhlielhleaaDoor.Stk
