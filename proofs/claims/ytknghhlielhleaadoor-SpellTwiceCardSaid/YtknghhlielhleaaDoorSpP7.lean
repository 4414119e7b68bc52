import Derived.Test.YtknghhlielhleaaDoorSpP5
import Derived.Test.YtknghhlielhleaaDoorSpS
import Derived.Test.YtknghhlielhleaaDoorSpK
import Derived.Test.YtknghhlielhleaaDoorSpP2
import Derived.WalkMore
namespace Go.Proofs.YtknghhlielhleaaDoor.Stk
open Go.RowKit Go.Proofs.YtknghhlielhleaaDoorW.PrintWords Go.Proofs.YtknghhlielhleaaDoorW.PrintLast Go.Proofs.YtknghhlielhleaaDoorW.PrintMore
attribute [local go_sem] max2_int min2_int max_two min_two max_three min_three max_four min_four   -- for this text's walks alone
set_option linter.unusedVariables false
set_option linter.unusedSimpArgs false
theorem res2 {fn : Func} {p u : Tmp} (h : fn.results = #[.cell p 24, .tmp u]) (tmps : Array Value) (w : World) (g : Nat) (v : Nat → Int)
    (hp : tmps.getD p undef = .pointer (some ⟨g, 0, none⟩)) (hg : w.heap[g]? = some (.cells (ovc v) 24 (0, 0))) :
    (results fn tmps).run Tryd.prog w = .ok (.tuple #[.agg (ovc v), tmps.getD u undef]) w := by
  rw [results_cell_tmp h, hp]
  have hl := run_loadVar_row (P := Tryd.prog) w g 24 24 (ovc v) (0, 0) _ hg Tryd.underlying24 rfl (size_ovc v)
  simp only [asAddr, Sem.run_pure, Result.andThen_ok, hl]
theorem info4s : (Tryd.prog.info? 4).map (fun i => (i.zero, i.size, i.bytes)) = some (some (.bool false), 1, 1) := by kernel_rfl
theorem make14 (w : World) : (Instr.makeSlice 44 (.int .i64 14) (.int .i64 14)).run Tryd.prog w = .ok (.slice (some ⟨w.heap.size, 0, none⟩) 14 14) (w.alloc (.cells (bsc fun _ => false) 4 (0, 0))) := by
  have h := run_make_row' (P := Tryd.prog) 44 4 (.bool false) 1 Tryd.underlying44 info4s rfl .i64 .i64 14 (by decide) (by decide) w
  have e : madeCells #[.bool false] 14 = bsc (fun _ => false) := by kernel_rfl
  rw [e] at h
  exact h
def parseW (s : ByteArray) : Int × (Nat → Int) := if 1000 < s.size then (6, fun _ => 0) else run chkF (wsL s) (fun _ => 0) (fun _ => false)
structure PSt (w0 : World) (B o gs g2 gA : Nat) (r : Nat → Nat) (A : Option Addr) (c : Nat) (L : List ByteArray) (w : World) (v : Nat → Int) (s : Nat → Bool) : Prop where
  ho : w.heap[o]? = some (.cells (ovc v) 24 (0, 0))
  hs : w.heap[gs]? = some (.cells (bsc s) 4 (0, 0))
  h2 : w.heap[g2]? = some (.cells (ovc (fun _ => 0)) 24 (0, 0))
  hF : FAt w o gA r
  hR : Kd.R Kd.string 9 w B (fun k => B ≤ k) (.slice A L.length c) L
  hB : Below w0.heap.size w0 w
  lt : o < B ∧ gs < B ∧ g2 < o ∧ gA < gs ∧ o < gA ∧ (∀ i, i < 14 → r i < gs)
  ge : w0.heap.size ≤ g2
section
variable {w0 w w1 : World} {B o gs g2 gA : Nat} {r : Nat → Nat} {A : Option Addr} {c : Nat} {L : List ByteArray} {v : Nat → Int} {s : Nat → Bool}
theorem PSt.below (h : PSt w0 B o gs g2 gA r A c L w v s) (k : Below w.heap.size w w1) : PSt w0 B o gs g2 gA r A c L w1 v s :=
  ⟨blk_below h.ho k, blk_below h.hs k, blk_below h.h2 k, h.hF.below k, Kd.R_below h.hR k, below_step h.hB k, h.lt, h.ge⟩
theorem PSt.setO {v' : Nat → Int} (h : PSt w0 B o gs g2 gA r A c L w v s) (k : Up w w1 o) (hv : w1.heap[o]? = some (.cells (ovc v') 24 (0, 0))) : PSt w0 B o gs g2 gA r A c L w1 v' s := by
  have l := h.lt
  refine ⟨hv, k.blk h.hs (by omega), k.blk h.h2 (by omega), h.hF.up k, Kd.R_step h.hR (fun i hi hl => k.2.1 i hl (by omega)), k.below h.hB h.hB.size (by have := h.ge; omega), l, h.ge⟩
theorem FAt.wrote {g : Nat} (h : FAt w o gA r) (k : Wrote w w1 g) (h1 : gA ≠ g) (h2 : ∀ i, i < 14 → r i ≠ g) : FAt w1 o gA r :=
  ⟨k.blk h.1 h1, fun i hi => k.blk (h.2.1 i hi) (h2 i hi), h.2.2⟩
theorem PSt.setS (h : PSt w0 B o gs g2 gA r A c L w v s) (i : Nat) (hi : i < 14) : PSt w0 B o gs g2 gA r A c L (w.setCell ⟨gs, i, none⟩ (.bool true)) v (upd s i true) := by
  have l := h.lt
  have k := Wrote.set w gs i (.bool true)
  refine ⟨k.blk h.ho (by omega), by rw [← bsc_upd s i hi]; exact blk_set h.hs i _, k.blk h.h2 (by omega), h.hF.wrote k (by omega) (fun j hj => by have := l.2.2.2.2.2 j hj; omega), Kd.R_step h.hR (fun j hj _ => k.2.1 j (by omega)), k.below h.hB (by have := h.ge; omega), l, h.ge⟩
end
theorem p_yes {w : World} {o gA : Nat} {r : Nat → Nat} {v : Nat → Int} (h : FAt w o gA r) (ho : w.heap[o]? = some (.cells (ovc v) 24 (0, 0))) (i : Nat) (hi : i < 14) (word : ByteArray) (hw : hasW word i = true) :
    Calls Tryd.prog 20 #[.agg #[cS (r i) i, cN o i, cF o i, .int .i64 (cFr i)], .string word] w (fun e w' => e = .returned (.bool true) ∧ w'.heap[o]? = some (.cells (ovc (upd v i (nvF i (ixW (W i) word)))) 24 (0, 0)) ∧ Up w w' o) := by
  refine (p_says h ho i hi word).mono ?_
  rintro e w' (⟨_, h1, h2, h3⟩ | ⟨h0, _⟩)
  · exact ⟨h1, h2, h3⟩
  · rw [hw] at h0; cases h0
theorem p_no {w : World} {o gA : Nat} {r : Nat → Nat} {v : Nat → Int} (h : FAt w o gA r) (ho : w.heap[o]? = some (.cells (ovc v) 24 (0, 0))) (i : Nat) (hi : i < 14) (word : ByteArray) (hw : hasW word i = false) :
    Calls Tryd.prog 20 #[.agg #[cS (r i) i, cN o i, cF o i, .int .i64 (cFr i)], .string word] w (fun e w' => e = .returned (.bool false) ∧ Below w.heap.size w w') := by
  refine (p_says h ho i hi word).mono ?_
  rintro e w' (⟨h0, _⟩ | ⟨_, h1, h2⟩)
  · rw [hw] at h0; cases h0
  · exact ⟨h1, h2⟩
theorem fat_range {w : World} {o gA : Nat} {r : Nat → Nat} (h : FAt w o gA r) (i : Nat) (hi : i < 14) : w.rangeAt gA (i * 4) [cS (r i) i, cN o i, cF o i, .int .i64 (cFr i)] := by
  obtain ⟨h0, h1, h2, h3⟩ := h.at i hi
  intro j x hj
  match j, hj with
  | 0, hj => cases hj; exact h0
  | 1, hj => cases hj; exact h1
  | 2, hj => cases hj; exact h2
  | 3, hj => cases hj; exact h3
theorem one_fc (r : Nat → Nat) (o j : Nat) : (#[cS (r j) j, cN o j, cF o j, .int .i64 (cFr j)] : Array Value).all (·.oneCell') = true := by simp [cS, cN, cF, Value.oneCell']
theorem run_nil (v : Nat → Int) (s : Nat → Bool) : run chkF [] v s = if chkF v = 0 then (0, v) else (chkF v, fun _ => 0) := by unfold run; rfl
theorem run_cons (x : ByteArray) (ws : List ByteArray) (v : Nat → Int) (s : Nat → Bool) : run chkF (x :: ws) v s = if fF x < 14 then (if s (fF x) = true then (12, fun _ => 0) else run chkF ws (upd v (fF x) (nvF (fF x) (ixW (W (fF x)) x))) (upd s (fF x) true)) else (11, fun _ => 0) := by rw [run]
set_option maxHeartbeats 8000000 in
set_option maxRecDepth 100000 in
theorem p_parse (s : ByteArray) (w : World) :
    Calls Tryd.prog 8 #[.string s] w fun e w' => e = .returned (.tuple #[.agg (ovc (parseW s).2), .int .i64 (parseW s).1]) ∧ Below w.heap.size w w' := by
  have hu := Tryd.underlying24
  unfold parseW
  by_cases h1000 : 1000 < s.size
  · rw [if_pos h1000]
    have b0 : decide ((s.size : Int) > 1000) = true := decide_eq_true (by omega)
    have b1 : decide (1000 < (s.size : Int)) = true := decide_eq_true (by omega)
    clear h1000
    go_enter Tryd.func8, Tryd.ntmps8
    go_wp2_with (first | ((with_reducible refine gate_dst (N := 2) rfl ?_); refine wp_alloc_cells rfl 24 rfl _ infoTO ?_; intro g2 hg2 w1 hb1 hB1; have H2 := Aside0.mk hb1; have HB1 := Aside0.mk hB1; have HG2 := Aside0.mk (show w.heap.size ≤ g2 by omega); clear hg2 hb1 hB1))
    go_step3
    go_wp2_with (first | ((with_reducible refine gate_store (t := 24) (p := 2) rfl ?_); refine wp_store_cells rfl 24 _ _ rfl rfl g2 (ovc (fun _ => 0)) rfl rfl 24 _ H2.out (size_ovc _) rfl (ovc_one _) ?_; intro wz hbz hWz; have HZ := Aside0.mk hbz; have HWZ := Aside0.mk hWz; clear hbz hWz))
    try rw [Exit.noGoto_ret]
    refine bodyPost_ret (res2 rfl _ _ g2 _ rfl HZ.out) rfl ?_
    exact ⟨rfl, HWZ.out.below HB1.out HG2.out⟩
  · rw [if_neg h1000]
    have b0 : decide ((s.size : Int) > 1000) = false := decide_eq_false (by omega)
    have b1 : decide (1000 < (s.size : Int)) = false := decide_eq_false (by omega)
    have HSZ := Aside0.mk (show s.size ≤ 1000000 by omega)
    have HLL := Aside0.mk (show (wsL s).length ≤ 1001 by have h1 := List.length_filter_le neB (pcs s); have h2 := pcs_le s; show ((pcs s).filter neB).length ≤ 1001; omega)
    obtain ⟨res, hres⟩ : ∃ res, run chkF (wsL s) (fun _ => 0) (fun _ => false) = res := ⟨_, rfl⟩
    have HRS := Aside0.mk hres
    rw [hres]
    clear h1000 hres
    go_enter Tryd.func8, Tryd.ntmps8
    go_wp2_with (first | ((with_reducible refine gate_dst (N := 2) rfl ?_); refine wp_alloc_cells rfl 24 rfl _ infoTO ?_; intro g2 hg2 w1 hb1 hB1; have H2 := Aside0.mk hb1; have HB1 := Aside0.mk hB1; have HG2 := Aside0.mk (show w.heap.size ≤ g2 by omega); clear hg2 hb1 hB1))
    go_step3
    go_wp2_with (first | ((with_reducible refine gate_dst (N := 4) rfl ?_); refine wp_alloc_cells rfl 24 rfl _ infoTO ?_; intro o ho w2 hb2 hB2; have H22 := Aside0.mk (blk_below H2.out hB2); have HO2 := Aside0.mk hb2; have HB2 := Aside0.mk (below_step HB1.out hB2); have HLO := Aside0.mk (show g2 < o ∧ o < w2.heap.size from ⟨by have := blk_lt H2.out; omega, blk_lt hb2⟩); clear ho hb2 hB2) | (go_at_call 18; (with_reducible refine (p_fields o _ HLO.out.2).mono ?_); rintro e w3 ⟨gA, r, rfl, hF, hb, hle⟩; have H23 := Aside0.mk (blk_below H22.out hb); have HO3 := Aside0.mk (blk_below HO2.out hb); have HB3 := Aside0.mk (below_step HB2.out hb); have HF3 := Aside0.mk hF; clear hF hb hle) | ((with_reducible refine gate_dst (N := 19) rfl ?_); refine Kd.event_run rfl (w1 := w3.alloc (.cells (bsc (fun _ => false)) 4 (0, 0))) (v := .slice (some ⟨w3.heap.size, 0, none⟩) 14 14) (by go_simp; rw [make14]; rfl) ?_; obtain ⟨w4, hw4⟩ : ∃ w4, w3.alloc (.cells (bsc (fun _ => false)) 4 (0, 0)) = w4 := ⟨_, rfl⟩; obtain ⟨gs, hgs⟩ : ∃ gs, w3.heap.size = gs := ⟨_, rfl⟩; have hb : Below w3.heap.size w3 w4 := hw4 ▸ below_alloc (Below.refl _ _) _; have HS4 := Aside0.mk (show w4.heap[gs]? = some (.cells (bsc (fun _ => false)) 4 (0, 0)) by rw [← hw4, ← hgs]; exact blk_new _ _); rw [hw4, hgs]; have H24 := Aside0.mk (blk_below H23.out hb); have HO4 := Aside0.mk (blk_below HO3.out hb); have HB4 := Aside0.mk (below_step HB3.out hb); have HF4 := Aside0.mk (HF3.out.below hb); have HLT := Aside0.mk (show gA < gs ∧ (∀ i, i < 14 → r i < gs) ∧ gs < w4.heap.size from ⟨hgs ▸ blk_lt HF3.out.1, fun i hi => hgs ▸ blk_lt (HF3.out.2.1 i hi), blk_lt HS4.out⟩); clear hb hw4 hgs))
    go_step3
    go_wp2_with (first | (go_at_call 19; (with_reducible refine (p_wordsof s HSZ.out _).mono ?_); rintro e w5 ⟨v0, rfl, hR, hb⟩; obtain ⟨A, c, rfl, hlc, hC⟩ := Kd.R_reads hR; have HP := Aside0.mk (show PSt w w4.heap.size o gs g2 gA r A c (wsL s) w5 (fun _ => 0) (fun _ => false) from ⟨blk_below HO4.out hb, blk_below HS4.out hb, blk_below H24.out hb, HF4.out.below hb, Kd.R_mono (Kd.R_bound hR) (fun k hk => hk.2.1), below_step HB4.out hb, ⟨by have := HLT.out; have := HF4.out.2.2.1; omega, HLT.out.2.2, HLO.out.1, HLT.out.1, HF4.out.2.2.1, HLT.out.2.1⟩, HG2.out⟩); clear hR hb hlc hC))
    generalize wsL s = L at HP HLL HRS
    generalize w4.heap.size = B at HP
    go_loopg [23] (L.length + 1) (fun kq v23 w' => ∃ (i : Nat) (v : Nat → Int) (sn : Nat → Bool), v23 = .int .i64 (i : Int) ∧ Aside0 (L.length + 1 - i ≤ kq ∧ i ≤ L.length) ∧ Aside0 (run chkF (L.drop i) v sn = res) ∧ Aside0 (PSt w B o gs g2 gA r A c L w' v sn))
    case atStart => exact ⟨0, _, _, rfl, ⟨by omega, Nat.zero_le _⟩, HRS, HP⟩
    case round =>
      clear HP HRS H2 HB1 H22 HO2 HB2 HLO H23 HO3 HB3 HF3 HS4 H24 HO4 HB4 HF4 HLT
      obtain ⟨i, v, sn, rfl, HI, HRS, HPX⟩ := hrel
      by_cases hlt : i < L.length
      · have q0 := decide_eq_true (show (i : Int) < (L.length : Int) by omega)
        have q1 := decide_eq_true hlt
        have r0 := eq_true (show (i : Int) < (L.length : Int) by omega)
        have r1 := eq_true hlt
        have r2 := eq_true (show (0 : Int) ≤ (i : Int) by omega)
        have HIT := Aside0.mk hlt
        have hwi : IntKind.i64.wrap ((i : Int) + 1) = ((i + 1 : Nat) : Int) := (i64_w _).trans (by have := HIT.out; have := HLL.out; unfold wrap64; omega)
        obtain ⟨ad, e, xb⟩ := Kd.at_string (Kd.R_reads' HPX.out.hR).2.2 (i : Int) (by omega) (by omega)
        cases e
        rw [Int.toNat_natCast] at xb
        have hdr : L.drop i = rdOf ByteArray.empty L (i : Int) :: L.drop (i + 1) := by
          rw [List.drop_eq_getElem_cons hlt]
          simp [rdOf, hlt]
        have HRN := Aside0.mk (hdr ▸ HRS.out)
        generalize rdOf ByteArray.empty L (i : Int) = x at xb HRN
        clear hdr hlt
        go_wp2
        obtain ⟨wo, rfl⟩ : ∃ wo, wo = wr := ⟨_, rfl⟩
        go_loopg [29] 15 (fun kq v29 w' => ∃ j : Nat, v29 = .int .i64 (j : Int) ∧ Aside0 (15 - j ≤ kq ∧ j ≤ 14 ∧ j ≤ fF x) ∧ Aside0 (Below wo.heap.size wo w'))
        case atStart => exact ⟨0, rfl, ⟨by omega, by omega, by omega⟩, ⟨Below.refl _ _⟩⟩
        case round =>
          obtain ⟨j, rfl, HJ, HBJ⟩ := hrel
          have HPW := HPX
          have HPJ := Aside0.mk (HPX.out.below HBJ.out)
          by_cases hj : j < 14
          · have q2 := decide_eq_true (show (j : Int) < 14 by omega)
            have r3 := eq_true (show (j : Int) < 14 by omega)
            have r4 := eq_true (show (0 : Int) ≤ (j : Int) by omega)
            have r5 := eq_true hj
            have HJT := Aside0.mk hj
            have hwj : IntKind.i64.wrap ((j : Int) + 1) = ((j + 1 : Nat) : Int) := (i64_w _).trans (by have := HJT.out; unfold wrap64; omega)
            by_cases has : hasW x j = true
            · have HAS := Aside0.mk has
              have HFX := Aside0.mk (fF_at hj HJ.out.2.2 has)
              have HR2 := Aside0.mk (show (if sn j = true then ((12 : Int), fun _ => 0) else run chkF (L.drop (i + 1)) (upd v j (nvF j (ixW (W j) x))) (upd sn j true)) = res by rw [← HRN.out, run_cons, HFX.out, if_pos hj])
              clear hj has
              by_cases hsn : sn j = true
              · have HR3 := Aside0.mk (show res = ((12 : Int), fun _ => 0) by rw [← HR2.out, if_pos hsn])
                have n8 := hsn
                clear hsn
                go_wp2_with (first | ((with_reducible refine gate_dst (N := 10) rfl ?_); refine wp_alloc_cells rfl 49 rfl _ info49 ?_; intro g10 hg10 w6 hb6 hB6; have H10 := Aside0.mk hb6; have HP6 := Aside0.mk (HPJ.out.below hB6); have HBJ6 := Aside0.mk (below_step HBJ.out hB6); have HG10 := Aside0.mk (show wo.heap.size ≤ g10 by have := HBJ.out.size; omega); have HNE := Aside0.mk (show _ = g10 from hg10.symm); clear hg10 hb6 hB6) | ((with_reducible refine gate_dst (N := 33) rfl ?_); refine wpList_load_mid rfl 49 _ rfl gA (j * 4) rfl [cS (r j) j, cN o j, cF o j, .int .i64 (cFr j)] _ (fat_range HPJ.out.hF j HJT.out) Tryd.underlying49 rfl size49 ?_) | ((with_reducible refine gate_store (t := 49) (p := 10) rfl ?_); refine wp_store_cells rfl 49 _ _ rfl rfl g10 #[cS (r j) j, cN o j, cF o j, .int .i64 (cFr j)] rfl rfl 49 _ H10.out size49 rfl (one_fc r o j) ?_; intro w7 hb7 hW7; have H107 := Aside0.mk hb7; have HB7 := Aside0.mk (hW7.below HBJ6.out HG10.out); have HP7 := Aside0.mk (HPW.out.below HB7.out); clear hb7 hW7) | ((with_reducible refine gate_dst (N := 34) rfl ?_); refine wpList_load_row rfl 49 _ rfl g10 rfl 49 #[cS (r j) j, cN o j, cF o j, .int .i64 (cFr j)] (0, 0) _ H107.out Tryd.underlying49 rfl size49 ?_) | (go_at_call 20; (with_reducible refine (p_yes HP7.out.hF HP7.out.ho j HJT.out x HAS.out).mono ?_); rintro e w8 ⟨rfl, hv, hu8⟩; have HP8 := Aside0.mk (HP7.out.setO hu8 hv); have k8 := bsc_at HP8.out.hs j HJT.out; have f8 := blk_frozen HP8.out.hs j; clear hv hu8) | ((with_reducible refine gate_store (t := 24) (p := 2) rfl ?_); refine wp_store_cells rfl 24 _ _ rfl rfl g2 (ovc (fun _ => 0)) rfl rfl 24 _ HP8.out.h2 (size_ovc _) rfl (ovc_one _) ?_; intro wz hbz hWz; have HZ := Aside0.mk hbz; have HWZ := Aside0.mk hWz; clear hbz hWz))
                try rw [Exit.noGoto_ret]
                refine bodyPost_ret (res2 rfl _ _ g2 _ rfl HZ.out) rfl ?_
                exact ⟨by rw [HR3.out]; rfl, HWZ.out.below HP8.out.hB HP8.out.ge⟩
              · have HR3 := Aside0.mk (show run chkF (L.drop (i + 1)) (upd v j (nvF j (ixW (W j) x))) (upd sn j true) = res by rw [← HR2.out, if_neg hsn])
                have n8 : sn j = false := by simpa using hsn
                clear hsn
                go_wp2_with (first | ((with_reducible refine gate_dst (N := 10) rfl ?_); refine wp_alloc_cells rfl 49 rfl _ info49 ?_; intro g10 hg10 w6 hb6 hB6; have H10 := Aside0.mk hb6; have HP6 := Aside0.mk (HPJ.out.below hB6); have HBJ6 := Aside0.mk (below_step HBJ.out hB6); have HG10 := Aside0.mk (show wo.heap.size ≤ g10 by have := HBJ.out.size; omega); have HNE := Aside0.mk (show _ = g10 from hg10.symm); clear hg10 hb6 hB6) | ((with_reducible refine gate_dst (N := 33) rfl ?_); refine wpList_load_mid rfl 49 _ rfl gA (j * 4) rfl [cS (r j) j, cN o j, cF o j, .int .i64 (cFr j)] _ (fat_range HPJ.out.hF j HJT.out) Tryd.underlying49 rfl size49 ?_) | ((with_reducible refine gate_store (t := 49) (p := 10) rfl ?_); refine wp_store_cells rfl 49 _ _ rfl rfl g10 #[cS (r j) j, cN o j, cF o j, .int .i64 (cFr j)] rfl rfl 49 _ H10.out size49 rfl (one_fc r o j) ?_; intro w7 hb7 hW7; have H107 := Aside0.mk hb7; have HB7 := Aside0.mk (hW7.below HBJ6.out HG10.out); have HP7 := Aside0.mk (HPW.out.below HB7.out); clear hb7 hW7) | ((with_reducible refine gate_dst (N := 34) rfl ?_); refine wpList_load_row rfl 49 _ rfl g10 rfl 49 #[cS (r j) j, cN o j, cF o j, .int .i64 (cFr j)] (0, 0) _ H107.out Tryd.underlying49 rfl size49 ?_) | (go_at_call 20; (with_reducible refine (p_yes HP7.out.hF HP7.out.ho j HJT.out x HAS.out).mono ?_); rintro e w8 ⟨rfl, hv, hu8⟩; have HP8 := Aside0.mk (HP7.out.setO hu8 hv); have k8 := bsc_at HP8.out.hs j HJT.out; have f8 := blk_frozen HP8.out.hs j; clear hv hu8))
                go_roundg (L.length + 1 - (i + 1))
                case measure => have h1_ := HI.out.1; have h2_ := HIT.out; omega
                case rel => exact ⟨i + 1, _, _, by first | rfl | go_num | rw [hwi], ⟨Nat.le_refl _, HIT.out⟩, HR3, ⟨HP8.out.setS j HJT.out⟩⟩
            · have HAS := Aside0.mk (show hasW x j = false by simpa using has)
              have HN := Aside0.mk (fF_no hj HJ.out.2.2 HAS.out)
              clear hj has
              go_wp2_with (first | ((with_reducible refine gate_dst (N := 10) rfl ?_); refine wp_alloc_cells rfl 49 rfl _ info49 ?_; intro g10 hg10 w6 hb6 hB6; have H10 := Aside0.mk hb6; have HP6 := Aside0.mk (HPJ.out.below hB6); have HBJ6 := Aside0.mk (below_step HBJ.out hB6); have HG10 := Aside0.mk (show wo.heap.size ≤ g10 by have := HBJ.out.size; omega); have HNE := Aside0.mk (show _ = g10 from hg10.symm); clear hg10 hb6 hB6) | ((with_reducible refine gate_dst (N := 33) rfl ?_); refine wpList_load_mid rfl 49 _ rfl gA (j * 4) rfl [cS (r j) j, cN o j, cF o j, .int .i64 (cFr j)] _ (fat_range HPJ.out.hF j HJT.out) Tryd.underlying49 rfl size49 ?_) | ((with_reducible refine gate_store (t := 49) (p := 10) rfl ?_); refine wp_store_cells rfl 49 _ _ rfl rfl g10 #[cS (r j) j, cN o j, cF o j, .int .i64 (cFr j)] rfl rfl 49 _ H10.out size49 rfl (one_fc r o j) ?_; intro w7 hb7 hW7; have H107 := Aside0.mk hb7; have HB7 := Aside0.mk (hW7.below HBJ6.out HG10.out); have HP7 := Aside0.mk (HPW.out.below HB7.out); clear hb7 hW7) | ((with_reducible refine gate_dst (N := 34) rfl ?_); refine wpList_load_row rfl 49 _ rfl g10 rfl 49 #[cS (r j) j, cN o j, cF o j, .int .i64 (cFr j)] (0, 0) _ H107.out Tryd.underlying49 rfl size49 ?_) | (go_at_call 20; (with_reducible refine (p_no HP7.out.hF HP7.out.ho j HJT.out x HAS.out).mono ?_); rintro e w8 ⟨rfl, hb8⟩; have HBJ8 := Aside0.mk (below_step HB7.out hb8); clear hb8))
              go_roundg (15 - (j + 1))
              case measure => have h1_ := HJ.out.1; have h2_ := HJT.out; omega
              case rel => exact ⟨j + 1, by first | rfl | go_num | rw [hwj], ⟨Nat.le_refl _, HJT.out, HN.out⟩, HBJ8⟩
          · have q2 := decide_eq_false (show ¬ (j : Int) < 14 by omega)
            have HR3 := Aside0.mk (show res = ((11 : Int), fun _ => 0) by rw [← HRN.out, run_cons, if_neg (by have := HJ.out; omega)])
            clear hj
            go_wp2_with (first | ((with_reducible refine gate_store (t := 24) (p := 2) rfl ?_); refine wp_store_cells rfl 24 _ _ rfl rfl g2 (ovc (fun _ => 0)) rfl rfl 24 _ HPJ.out.h2 (size_ovc _) rfl (ovc_one _) ?_; intro wz hbz hWz; have HZ := Aside0.mk hbz; have HWZ := Aside0.mk hWz; clear hbz hWz))
            try rw [Exit.noGoto_ret]
            refine bodyPost_ret (res2 rfl _ _ g2 _ rfl HZ.out) rfl ?_
            exact ⟨by rw [HR3.out]; rfl, HWZ.out.below HPJ.out.hB HPJ.out.ge⟩
      · have q0 := decide_eq_false (show ¬ (i : Int) < (L.length : Int) by omega)
        have q1 := decide_eq_false hlt
        have HRN := Aside0.mk (show (if chkF v = 0 then ((0 : Int), v) else (chkF v, fun _ => 0)) = res by rw [← run_nil v sn, ← HRS.out, List.drop_eq_nil_of_le (by omega)])
        clear hlt
        by_cases hck : chkF v = 0
        · have HR3 := Aside0.mk (show res = ((0 : Int), v) by rw [← HRN.out, if_pos hck])
          have n8 : (chkF v != 0) = false := by simp [hck]
          have n9 : (chkF v == 0) = true := by simp [hck]
          clear hck
          go_wp2_with (first | ((with_reducible refine gate_dst (N := 49) rfl ?_); refine wpList_load_row rfl 24 _ rfl o rfl 24 (ovc v) (0, 0) _ HPX.out.ho Tryd.underlying24 rfl (size_ovc _) ?_) | (go_at_call 21; (with_reducible refine (p_check v _).mono ?_); rintro e w9 ⟨rfl, hb9⟩; have HP9 := Aside0.mk (HPX.out.below hb9); clear hb9) | ((with_reducible refine gate_dst (N := 55) rfl ?_); refine wpList_load_row rfl 24 _ rfl o rfl 24 (ovc v) (0, 0) _ HP9.out.ho Tryd.underlying24 rfl (size_ovc _) ?_) | ((with_reducible refine gate_store (t := 24) (p := 2) rfl ?_); refine wp_store_cells rfl 24 _ _ rfl rfl g2 (ovc v) rfl rfl 24 _ HP9.out.h2 (size_ovc _) rfl (ovc_one _) ?_; intro wz hbz hWz; have HZ := Aside0.mk hbz; have HWZ := Aside0.mk hWz; clear hbz hWz))
          try rw [Exit.noGoto_ret]
          refine bodyPost_ret (res2 rfl _ _ g2 _ rfl HZ.out) rfl ?_
          exact ⟨by rw [HR3.out]; rfl, HWZ.out.below HP9.out.hB HP9.out.ge⟩
        · have HR3 := Aside0.mk (show res = (chkF v, fun _ => 0) by rw [← HRN.out, if_neg hck])
          have n8 : (chkF v != 0) = true := by simp [hck]
          have n9 : (chkF v == 0) = false := by simp [hck]
          clear hck
          go_wp2_with (first | ((with_reducible refine gate_dst (N := 49) rfl ?_); refine wpList_load_row rfl 24 _ rfl o rfl 24 (ovc v) (0, 0) _ HPX.out.ho Tryd.underlying24 rfl (size_ovc _) ?_) | (go_at_call 21; (with_reducible refine (p_check v _).mono ?_); rintro e w9 ⟨rfl, hb9⟩; have HP9 := Aside0.mk (HPX.out.below hb9); clear hb9) | ((with_reducible refine gate_store (t := 24) (p := 2) rfl ?_); refine wp_store_cells rfl 24 _ _ rfl rfl g2 (ovc (fun _ => 0)) rfl rfl 24 _ HP9.out.h2 (size_ovc _) rfl (ovc_one _) ?_; intro wz hbz hWz; have HZ := Aside0.mk hbz; have HWZ := Aside0.mk hWz; clear hbz hWz))
          try rw [Exit.noGoto_ret]
          refine bodyPost_ret (res2 rfl _ _ g2 _ rfl HZ.out) rfl ?_
          exact ⟨by rw [HR3.out]; rfl, HWZ.out.below HP9.out.hB HP9.out.ge⟩
end Go.Proofs.YtknghhlielhleaaDoor.Stk
