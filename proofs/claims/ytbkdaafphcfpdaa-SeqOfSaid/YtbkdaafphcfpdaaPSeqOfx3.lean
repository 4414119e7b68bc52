import Derived.Test.YtbkdaafphcfpdaaPSeqOfx0
import Derived.Test.YtbkdaafphcfpdaaPSeqOfx1
import Derived.Test.YtbkdaafphcfpdaaPSeqOfx2
namespace Go.Proofs.Ytbkdaafphcfpdaa.PSeqOf
open Go.RowKit Go.Proofs.YtbkdaafphcfpdaaM Go.Proofs.YtbkdaafphcfpdaaW.PrintWords Go.Proofs.YtbkdaafphcfpdaaW.PrintLast Go.Proofs.YtbkdaafphcfpdaaW.PrintMore
attribute [local go_sem] max2_int min2_int max_two min_two max_three min_three max_four min_four   -- for this text's walks alone
set_option linter.unusedVariables false
set_option linter.unusedSimpArgs false
section
open Go.Proofs.Ytbkdaafphcfpdaa.Stk
def seq_Sequences.seqF (L B M K : List Int) (bs : Int) (at_ : List Int) : Option (S42) :=
 if 0 < at_.length then
  if 0 ≤ rd at_ 0 then
   if rd at_ 0 < (L.length : Int) then
    if 0 ≤ lastL at_ then
     if lastL at_ < (L.length : Int) then
      if lastL at_ < (B.length : Int) then
       if lastL at_ < (M.length : Int) then
        if okI (rd at_ 0) = true then
         if okI (lastL at_) = true then
          (nearF L K bs (wrap64 (rkI K K.length (rd at_ 0) + -1))).bind fun v1 => (nearF L K bs (wrap64 (rkI K K.length (lastL at_) + 1))).bind fun v2 =>
           some ⟨at_, rd L (rd at_ 0), dirF (rd L (rd at_ 0)) v1, dirF (rd L (lastL at_)) (behF B M (lastL at_) bs v2)⟩
         else none
        else none
       else none
      else none
     else none
    else none
   else none
  else none
 else none
def seq_Sequences.goF (L B M K : List Int) (bs : Int) (R : List (List Int)) : Nat → (Int → Option (List Int)) → List (S42) → Option (List (S42))
 | 0, _, out => some out
 | n + 1, g, out =>
  if 0 < (R.getD (R.length - (n + 1)) []).length then
   if okI (rd (R.getD (R.length - (n + 1)) []) 0) = true then
    match g (rd (R.getD (R.length - (n + 1)) []) 0) with
    | none => seq_Sequences.goF L B M K bs R n g out
    | some _ => (chainF B M (R.length + 1) g (R.getD (R.length - (n + 1)) []) []).bind fun p => (seq_Sequences.seqF L B M K bs p.2).bind fun s => if out.length < 2932031007402 then seq_Sequences.goF L B M K bs R n p.1 (out ++ [s]) else none
   else none
  else none
def seq_Sequences.headsF (R : List (List Int)) : Bool := R.all fun l => decide (0 < l.length) && okI (rd l 0)
def seq_Sequences.f (k : Nat) (l0 l1 l2 : List Int) (a3 : Int) : Option (List (S42)) :=
 if (l0.length : Int) = (l1.length : Int) then
  if (l2.length : Int) = (l1.length : Int) then
   (para_Matches.f k l2).bind fun M => (seq_Runs.f k l0 l1).bind fun R => (seq_kept.f k l1).bind fun K =>
    if R.length ≤ 17592186043000 then if K.length ≤ 17592186043000 then if K.all okI = true then if seq_Sequences.headsF R = true then seq_Sequences.goF l0 l2 M K a3 R R.length (begF R R.length) [] else none else none else none else none
  else some []
 else some []
theorem seq_Sequences.mono : ∀ a0 a1 a2 a3 k, LeO (seq_Sequences.f k a0 a1 a2 a3) (seq_Sequences.f (k + 1) a0 a1 a2 a3) := by
 intro a0 a1 a2 a3 k
 unfold seq_Sequences.f
 exact LeO.ite (LeO.ite (LeO.bind (para_Matches.mono _ _) (fun _ => LeO.bind (seq_Runs.mono _ _ _) (fun _ => LeO.bind (seq_kept.mono _ _) (fun _ => LeO.refl _)))) (LeO.refl _)) (LeO.refl _)
set_option maxHeartbeats 8000000 in
set_option maxRecDepth 100000 in
theorem seq_Sequences.newText (k : Nat) (A0 : Option Addr) (c0 : Nat) (l0 : List Int) (A1 : Option Addr) (c1 : Nat) (l1 : List Int) (A2 : Option Addr) (c2 : Nat) (l2 : List Int) (a3 : Int) (M K : List Int) (w : World) (hr0 : Kd.C (Kd.int .i64) w A0 l0.length l0) (hc0 : l0.length ≤ c0) (hr1 : Kd.C (Kd.int .i64) w A1 l1.length l1) (hc1 : l1.length ≤ c1) (hr2 : Kd.C (Kd.int .i64) w A2 l2.length l2) (hc2 : l2.length ≤ c2) (hM : para_Matches.f k l2 = some M) (hK : seq_kept.f k l1 = some K) (hsz : K.length ≤ 17592186043000) (hok : K.all okI = true) :
  Calls Try.prog 35 #[.slice A0 l0.length c0, .slice A1 l1.length c1, .slice A2 l2.length c2, .int .i64 a3] w fun e w' => ∃ g rb : Nat, e = .returned (.pointer (some ⟨g, 0, none⟩)) ∧ Tx w' g rb l0 l2 M K a3 (rkF K K.length) ∧ w.heap.size ≤ g ∧ w.heap.size ≤ rb ∧ Below w.heap.size w w' := by
 have HR0 := Aside0.mk hr0
 have HC0 := Aside0.mk hc0
 have HR1 := Aside0.mk hr1
 have HC1 := Aside0.mk hc1
 have HR2 := Aside0.mk hr2
 have HC2 := Aside0.mk hc2
 have HM := Aside0.mk hM
 have HK := Aside0.mk hK
 have HSZ := Aside0.mk hsz
 have HOK := Aside0.mk hok
 have hmm := fun (n : Int) (W : World) => run_makeMap_hint Try.underlying78 n W
 clear hr0 hc0 hr1 hc1 hr2 hc2 hM hK hsz hok
 go_enter Try.func35, Try.ntmps35
 go_wp2_with (first | ((with_reducible refine gate_dst (N := 16) rfl ?_); refine box_event ?hg (N := 16) ?hd (cs := #[.slice A0 l0.length c0, .slice A2 l2.length c2, .slice none 0 0, .slice none 0 0, .map none, .int .i64 a3]) (t := 80) ?hr ?_; (case hd => rfl); (case hg => rfl); (case hr => first | (go_simp; done) | (go_simp; rfl)); intro g hg w1 hbox hb; have BX := Aside0.mk hbox; have HB1 := Aside0.mk hb; have HG := Aside0.mk (Nat.le_of_eq hg.symm); clear hg hbox hb) | (go_at_call 45; (with_reducible refine (para_Matches.calls k A2 c2 l2 M _ (Kd.C_below HR2.out HB1.out) HC2.out HM.out).mono ?_); rintro e w2 ⟨vm, rfl, hR, hb⟩; obtain ⟨Am, cm, em, lm, rm⟩ := Kd.R_reads hR; have HRM := Aside0.mk (And.intro lm rm); have HNM := Aside0.mk (show ∀ ad, Am = some ad → 0 < M.length → ad.block ≠ g from fun ad h _ e => by subst h; have h1 := Kd.R_base hR ad.block (by rw [em]; rfl); have h2 := blk_lt BX.out; omega); clear hR; have BX2 := Aside0.mk (blk_below BX.out hb); have HB2 := Aside0.mk (below_step HB1.out hb); have HLT2 := Aside0.mk (show g < w2.heap.size from blk_lt BX2.out); clear hb lm rm; generalize hnm : M.length = nm at em; subst em; have hc2 := (blk_cell BX2.out 2).trans rfl; have hf2 := blk_frozen BX2.out 2) | ((with_reducible refine gate_store (t := 22) (p := 21) rfl ?_); refine store_event (t := 22) (p := 21) (v := .tmp 19) (w1 := w2.setCell ⟨g, 2, none⟩ (.slice Am nm cm)) ?hg ?ho ?hn ?hr ?_; (case ho => rfl); (case hg => rfl); (case hn => rfl); (case hr => first | (go_simp; done) | (go_simp; rfl)); intro w3 hw; have BX3 := Aside0.mk (show w3.heap[g]? = some (.cells #[.slice A0 l0.length c0, .slice A2 l2.length c2, .slice Am nm cm, .slice none 0 0, .map none, .int .i64 a3] 80 (0, 0)) by rw [hw]; exact blk_put BX2.out 2 (.slice Am nm cm) rfl); have HB3 := Aside0.mk (show Below w.heap.size w w3 by rw [hw]; exact below_set HB2.out HG.out); have HRM3 := Aside0.mk (show Kd.C (Kd.int .i64) w3 Am M.length M by rw [hw]; exact c_far HRM.out.2 80 BX2.out 2 _ HNM.out); clear hw hc2 hf2 BX2 BX HB1 HB2 HLT2) | (go_at_call 43; (with_reducible refine (seq_kept.calls k A1 c1 l1 K _ (Kd.C_below HR1.out HB3.out) HC1.out HK.out).mono ?_); rintro e w4 ⟨vk, rfl, hR, hb⟩; obtain ⟨Ak, ck, ek, lk, rk⟩ := Kd.R_reads hR; have HRK := Aside0.mk (And.intro lk rk); have HNK := Aside0.mk (show ∀ ad, Ak = some ad → 0 < K.length → ad.block ≠ g from fun ad h _ e => by subst h; have h1 := Kd.R_base hR ad.block (by rw [ek]; rfl); have h2 := blk_lt BX3.out; omega); clear hR; have BX4 := Aside0.mk (blk_below BX3.out hb); have HRM4 := Aside0.mk (Kd.C_below HRM3.out hb); have HB4 := Aside0.mk (below_step HB3.out hb); clear hb lk rk; generalize hnk : K.length = nk at ek; subst ek; have hc3 := (blk_cell BX4.out 3).trans rfl; have hf3 := blk_frozen BX4.out 3) | ((with_reducible refine gate_store (t := 22) (p := 26) rfl ?_); refine store_event (t := 22) (p := 26) (v := .tmp 24) (w1 := w4.setCell ⟨g, 3, none⟩ (.slice Ak nk ck)) ?hg ?ho ?hn ?hr ?_; (case ho => rfl); (case hg => rfl); (case hn => rfl); (case hr => first | (go_simp; done) | (go_simp; rfl)); intro w5 hw; have BX5 := Aside0.mk (show w5.heap[g]? = some (.cells #[.slice A0 l0.length c0, .slice A2 l2.length c2, .slice Am nm cm, .slice Ak nk ck, .map none, .int .i64 a3] 80 (0, 0)) by rw [hw]; exact blk_put BX4.out 3 (.slice Ak nk ck) rfl); have HB5 := Aside0.mk (show Below w.heap.size w w5 by rw [hw]; exact below_set HB4.out HG.out); have HRM5 := Aside0.mk (show Kd.C (Kd.int .i64) w5 Am M.length M by rw [hw]; exact c_far HRM4.out 80 BX4.out 3 _ HNM.out); have HRK5 := Aside0.mk (show Kd.C (Kd.int .i64) w5 Ak K.length K by rw [hw]; exact c_far HRK.out.2 80 BX4.out 3 _ HNK.out); clear hw hc3 hf3 BX4 BX3 HB3 HB4 HRM3 HRM4; have hc3 := (blk_cell BX5.out 3).trans rfl; have hc4 := (blk_cell (blk_alloc BX5.out (.map #[] 0)) 4).trans rfl; have hf4 := blk_frozen (blk_alloc BX5.out (.map #[] 0)) 4) | ((with_reducible refine gate_store (t := 78) (p := 35) rfl ?_); refine store_event (t := 78) (p := 35) (v := .tmp 33) (w1 := (w5.alloc (.map #[] 0)).setCell ⟨g, 4, none⟩ (.map (some w5.heap.size))) ?hg ?ho ?hn ?hr ?_; (case ho => rfl); (case hg => rfl); (case hn => rfl); (case hr => first | (go_simp; done) | (go_simp; rfl)); intro w6 hw; have BX6 := Aside0.mk (show w6.heap[g]? = some (.cells #[.slice A0 l0.length c0, .slice A2 l2.length c2, .slice Am nm cm, .slice Ak nk ck, .map (some w5.heap.size), .int .i64 a3] 80 (0, 0)) by rw [hw]; exact blk_put (blk_alloc BX5.out (.map #[] 0)) 4 (.map (some w5.heap.size)) rfl); have HB6 := Aside0.mk (show Below w.heap.size w w6 by rw [hw]; exact below_set (below_alloc HB5.out (.map #[] 0)) HG.out); have HRM6 := Aside0.mk (show Kd.C (Kd.int .i64) w6 Am M.length M by rw [hw]; exact c_far (Kd.C_alloc HRM5.out (.map #[] 0)) 80 (blk_alloc BX5.out (.map #[] 0)) 4 _ HNM.out); have HRK6 := Aside0.mk (show Kd.C (Kd.int .i64) w6 Ak K.length K by rw [hw]; exact c_far (Kd.C_alloc HRK5.out (.map #[] 0)) 80 (blk_alloc BX5.out (.map #[] 0)) 4 _ HNK.out); have HMM := Aside0.mk (show MapIs Try.prog 3 w6 w5.heap.size 0 (fun _ => none) by rw [hw]; exact map_same (map_made w5 Try.prog 3) (Below.heap_setCell _ ⟨g, 4, none⟩ _ _ (Nat.ne_of_gt (blk_lt BX5.out)))); have HRB := Aside0.mk (show w.heap.size ≤ w5.heap.size from HB5.out.size); clear hw hc3 hc4 hf4 BX5 HB5 HRM5 HRK5; have hc3 := (blk_cell BX6.out 3).trans rfl))
 clear hmm
 go_loopg [41] K.length (fun kq v41 w' => ∃ (i : Nat), v41 = .int .i64 (i : Int) ∧ Aside0 (i ≤ K.length ∧ K.length - i = kq) ∧ Aside0 (MapIs Try.prog 3 w' w5.heap.size i (rkF K i)) ∧ Aside0 (KeepBut w6 w' w5.heap.size none) ∧ Aside0 (Below w.heap.size w w'))
 case atStart => exact ⟨0, rfl, ⟨Nat.zero_le _, rfl⟩, HMM, ⟨KeepBut.refl _ _ _⟩, HB6⟩
 case round =>
  clear hc3
  obtain ⟨i, rfl, HI, HMI, HKB, HB⟩ := hrel
  have HMAP := Aside0.mk HMM.out
  have k4 := (kb_cell HKB.out HMM.out ((blk_cell BX6.out 4).trans rfl : w6.cell? ⟨g, 4, none⟩ = some (.map (some w5.heap.size))))
  by_cases hlt : i < nk
  ·have b0 : decide ((i : Int) < (nk : Int)) = true := decide_eq_true (by omega)
   have b1 : decide (i < nk) = true := decide_eq_true hlt
   have q0 := eq_true (show (i : Int) < (nk : Int) by omega)
   have q1 := eq_true hlt
   have hw := (show wrap64 ((i : Int) + 1) = ((i + 1 : Nat) : Int) by have := HSZ.out; unfold wrap64; omega)
   have hlk : i < K.length := by omega
   have hki : okI (K.getD i 0) = true := by
    have h1 := List.all_eq_true.mp HOK.out (K[i]) (List.getElem_mem hlk)
    rw [List.getD_eq_getElem?_getD, List.getElem?_eq_getElem hlk]
    exact h1
   obtain ⟨ak, e, xk⟩ := Kd.at_int HRK6.out (i : Int) (by omega) (by omega)
   cases e
   have xk1 := kb_cell HKB.out HMM.out xk
   rw [Int.toNat_natCast] at xk1
   rw [show rd K (i : Int) = K.getD i 0 by simp [rd]] at xk1
   generalize hx : K.getD i 0 = x at xk1 hki
   have HX := Aside0.mk hx
   have HKI := Aside0.mk hki
   have HLT := Aside0.mk hlt
   clear xk hx hki hlt hlk
   go_wp2_with (first | (at_mapUpdate; refine wp_map_put rfl _ _ _ 78 rfl 3 HMI.out Try.underlying3 Try.underlying78 (by have := HI.out; have := HSZ.out; unfold maxLen; omega) rfl x _ rfl rfl HKI.out ?_; intro w7 hM7 hg7; have HM7 := Aside0.mk hM7; have HKB7 := Aside0.mk (kb_map HKB.out hg7); have HB7 := Aside0.mk (map_belowB HB.out hg7 HB.out.size HRB.out); clear hM7 hg7))
   go_roundg (K.length - (i + 1))
   case measure => have := HI.out; have := HLT.out; omega
   case rel => exact ⟨i + 1, by first | rfl | go_num | rw [hw], ⟨by have := HLT.out; omega, rfl⟩, ⟨by have h7 := HM7.out; unfold rkF; rw [HX.out]; exact h7⟩, HKB7, HB7⟩
  ·have b0 : decide ((i : Int) < (nk : Int)) = false := decide_eq_false (by omega)
   have b1 : decide (i < nk) = false := decide_eq_false hlt
   have hik : i = K.length := by have := HI.out.1; omega
   have HIK := Aside0.mk hik
   clear hlt hik
   go_wp2
   go_ret
   exact ⟨g, w5.heap.size, by first | rfl | simp [*], by
    obtain ⟨es, c, hb⟩ := map_block HMM.out
    have hkb := HKB.out
    exact ⟨A0, c0, A2, c2, Am, cm, Ak, ck, i, (hkb.2 g (blk_lt BX6.out) (by rintro rfl; have h6 := BX6.out; rw [hb] at h6; cases h6) (by simp)).trans (by rw [hnm, hnk]; exact BX6.out), ⟨HC0.out, Kd.C_below HR0.out HB.out⟩, ⟨HC2.out, Kd.C_below HR2.out HB.out⟩, ⟨HRM.out.1, c_but HRM6.out hkb hb⟩, ⟨HRK.out.1, c_but HRK6.out hkb hb⟩, HIK.out ▸ HMI.out⟩, HG.out, HRB.out, HB.out⟩
theorem seq_Sequences.seq_next {L B M K : List Int} {bs : Int} {at_ : List Int} {s : S42} (h : seq_Sequences.seqF L B M K bs at_ = some s) :
  0 < at_.length ∧ 0 ≤ rd at_ 0 ∧ rd at_ 0 < (L.length : Int) ∧ 0 ≤ lastL at_ ∧ lastL at_ < (L.length : Int) ∧ lastL at_ < (B.length : Int) ∧ lastL at_ < (M.length : Int) ∧ okI (rd at_ 0) = true ∧ okI (lastL at_) = true ∧
  ∃ v1 v2, nearF L K bs (wrap64 (rkI K K.length (rd at_ 0) + -1)) = some v1 ∧ nearF L K bs (wrap64 (rkI K K.length (lastL at_) + 1)) = some v2 ∧ s = ⟨at_, rd L (rd at_ 0), dirF (rd L (rd at_ 0)) v1, dirF (rd L (lastL at_)) (behF B M (lastL at_) bs v2)⟩ := by
 unfold seq_Sequences.seqF at h
 by_cases h0 : 0 < at_.length
 ·rw [if_pos h0] at h
  by_cases h1 : 0 ≤ rd at_ 0
  ·rw [if_pos h1] at h
   by_cases h2 : rd at_ 0 < (L.length : Int)
   ·rw [if_pos h2] at h
    by_cases h3 : 0 ≤ lastL at_
    ·rw [if_pos h3] at h
     by_cases h4 : lastL at_ < (L.length : Int)
     ·rw [if_pos h4] at h
      by_cases h5 : lastL at_ < (B.length : Int)
      ·rw [if_pos h5] at h
       by_cases h6 : lastL at_ < (M.length : Int)
       ·rw [if_pos h6] at h
        by_cases h7 : okI (rd at_ 0) = true
        ·rw [if_pos h7] at h
         by_cases h8 : okI (lastL at_) = true
         ·rw [if_pos h8] at h
          obtain ⟨v1, e1, h⟩ := Option.bind_eq_some_iff.mp h
          obtain ⟨v2, e2, h⟩ := Option.bind_eq_some_iff.mp h
          exact ⟨h0, h1, h2, h3, h4, h5, h6, h7, h8, v1, v2, e1, e2, (Option.some.inj h).symm⟩
         ·rw [if_neg h8] at h; cases h
        ·rw [if_neg h7] at h; cases h
       ·rw [if_neg h6] at h; cases h
      ·rw [if_neg h5] at h; cases h
     ·rw [if_neg h4] at h; cases h
    ·rw [if_neg h3] at h; cases h
   ·rw [if_neg h2] at h; cases h
  ·rw [if_neg h1] at h; cases h
 ·rw [if_neg h0] at h; cases h
set_option maxHeartbeats 8000000 in
set_option maxRecDepth 100000 in
theorem seq_Sequences.off1 (k : Nat) (A0 : Option Addr) (c0 : Nat) (l0 : List Int) (A1 : Option Addr) (c1 : Nat) (l1 : List Int) (A2 : Option Addr) (c2 : Nat) (l2 : List Int) (a3 : Int) (w : World) (hr0 : Kd.C (Kd.int .i64) w A0 l0.length l0) (hc0 : l0.length ≤ c0) (hr1 : Kd.C (Kd.int .i64) w A1 l1.length l1) (hc1 : l1.length ≤ c1) (hr2 : Kd.C (Kd.int .i64) w A2 l2.length l2) (hc2 : l2.length ≤ c2) (hne : ¬ (l0.length : Int) = (l1.length : Int)) :
  Calls Try.prog 13 #[.slice A0 l0.length c0, .slice A1 l1.length c1, .slice A2 l2.length c2, .int .i64 a3] w fun e w' => ∃ v0_ : Value, e = .returned (v0_) ∧ Kd.S k42 42 w' w.heap.size (fun _ => True) v0_ [] ∧ Below w.heap.size w w' := by
 have f1 : ((l0.length : Int) != (l1.length : Int)) = true := bne_iff_ne.mpr hne
 have f2 : (l0.length != l1.length) = true := bne_iff_ne.mpr (by exact_mod_cast hne)
 clear hne
 go_enter Try.func13, Try.ntmps13
 go_wp2
 go_ret
 exact ⟨_, by first | rfl | simp [*], Kd.S_nil _ _ _ _ _, by repeat (first | exact Below.refl _ _ | apply below_alloc | apply pw_below_drewN | apply below_drew1)⟩
set_option maxHeartbeats 8000000 in
set_option maxRecDepth 100000 in
theorem seq_Sequences.off2 (k : Nat) (A0 : Option Addr) (c0 : Nat) (l0 : List Int) (A1 : Option Addr) (c1 : Nat) (l1 : List Int) (A2 : Option Addr) (c2 : Nat) (l2 : List Int) (a3 : Int) (w : World) (hr0 : Kd.C (Kd.int .i64) w A0 l0.length l0) (hc0 : l0.length ≤ c0) (hr1 : Kd.C (Kd.int .i64) w A1 l1.length l1) (hc1 : l1.length ≤ c1) (hr2 : Kd.C (Kd.int .i64) w A2 l2.length l2) (hc2 : l2.length ≤ c2) (he : (l0.length : Int) = (l1.length : Int)) (hne : ¬ (l2.length : Int) = (l1.length : Int)) :
  Calls Try.prog 13 #[.slice A0 l0.length c0, .slice A1 l1.length c1, .slice A2 l2.length c2, .int .i64 a3] w fun e w' => ∃ v0_ : Value, e = .returned (v0_) ∧ Kd.S k42 42 w' w.heap.size (fun _ => True) v0_ [] ∧ Below w.heap.size w w' := by
 have g1 : ((l0.length : Int) != (l1.length : Int)) = false := bne_eq_false_iff_eq.mpr he
 have g2 : (l0.length != l1.length) = false := bne_eq_false_iff_eq.mpr (by exact_mod_cast he)
 have f1 : ((l2.length : Int) != (l1.length : Int)) = true := bne_iff_ne.mpr hne
 have f2 : (l2.length != l1.length) = true := bne_iff_ne.mpr (by exact_mod_cast hne)
 clear hne
 go_enter Try.func13, Try.ntmps13
 go_wp2
 go_ret
 exact ⟨_, by first | rfl | simp [*], Kd.S_nil _ _ _ _ _, by repeat (first | exact Below.refl _ _ | apply below_alloc | apply pw_below_drewN | apply below_drew1)⟩
set_option maxHeartbeats 32000000 in
set_option maxRecDepth 100000 in
theorem seq_Sequences.main (k : Nat) (A0 : Option Addr) (c0 : Nat) (l0 : List Int) (A1 : Option Addr) (c1 : Nat) (l1 : List Int) (A2 : Option Addr) (c2 : Nat) (l2 : List Int) (a3 : Int) (r : List (S42)) (w : World) (hr0 : Kd.C (Kd.int .i64) w A0 l0.length l0) (hc0 : l0.length ≤ c0) (hr1 : Kd.C (Kd.int .i64) w A1 l1.length l1) (hc1 : l1.length ≤ c1) (hr2 : Kd.C (Kd.int .i64) w A2 l2.length l2) (hc2 : l2.length ≤ c2) (M K : List Int) (R : List (List Int)) (he1 : (l0.length : Int) = (l1.length : Int)) (he2 : (l2.length : Int) = (l1.length : Int)) (hM : para_Matches.f k l2 = some M) (hR : seq_Runs.f k l0 l1 = some R) (hK : seq_kept.f k l1 = some K) (hsz : R.length ≤ 17592186043000) (hks : K.length ≤ 17592186043000) (hok : K.all okI = true) (hhd : seq_Sequences.headsF R = true) (hgo : seq_Sequences.goF l0 l2 M K a3 R R.length (begF R R.length) [] = some r) :
  Calls Try.prog 13 #[.slice A0 l0.length c0, .slice A1 l1.length c1, .slice A2 l2.length c2, .int .i64 a3] w fun e w' => ∃ v0_ : Value, e = .returned (v0_) ∧ Kd.S k42 42 w' w.heap.size (fun _ => True) v0_ r ∧ Below w.heap.size w w' := by
 have HR0 := Aside0.mk hr0
 have HC0 := Aside0.mk hc0
 have HR1 := Aside0.mk hr1
 have HC1 := Aside0.mk hc1
 have HR2 := Aside0.mk hr2
 have HC2 := Aside0.mk hc2
 have HM := Aside0.mk hM
 have HRR := Aside0.mk hR
 have HK := Aside0.mk hK
 have HSZ := Aside0.mk hsz
 have HKS := Aside0.mk hks
 have HOK := Aside0.mk hok
 have HHD := Aside0.mk hhd
 have HGO := Aside0.mk hgo
 have hmm := @run_makeMap Try.prog
 have g1 : ((l0.length : Int) != (l1.length : Int)) = false := bne_eq_false_iff_eq.mpr he1
 have g2 : (l0.length != l1.length) = false := bne_eq_false_iff_eq.mpr (by exact_mod_cast he1)
 have g3 : ((l2.length : Int) != (l1.length : Int)) = false := bne_eq_false_iff_eq.mpr he2
 have g4 : (l2.length != l1.length) = false := bne_eq_false_iff_eq.mpr (by exact_mod_cast he2)
 clear hr0 hc0 hr1 hc1 hr2 hc2 hM hR hK hsz hks hok hhd hgo he1 he2
 go_enter Try.func13, Try.ntmps13
 go_wp2_with (first | (go_at_call 35; (with_reducible refine (seq_Sequences.newText k A0 c0 l0 A1 c1 l1 A2 c2 l2 a3 M K w HR0.out HC0.out HR1.out HC1.out HR2.out HC2.out HM.out HK.out HKS.out HOK.out).mono ?_); rintro e w1 ⟨g, rb, rfl, hT, hg, hrb, hb⟩; have HT1 := Aside0.mk hT; have HB1 := Aside0.mk hb; clear hT hg hrb hb) | (go_at_call 15; have HM2 := Aside0.mk (map_made w1 Try.prog 3); have HB2 := Aside0.mk (below_alloc HB1.out (.map #[] 0)); have HT2 := Aside0.mk (tx_below HT1.out (below_alloc (Below.refl _ w1) (.map #[] 0))); have HBW := Aside0.mk (show w.heap.size ≤ w1.heap.size from HB1.out.size); have HRB := Aside0.mk (show rb ≠ w1.heap.size from Nat.ne_of_lt (tx_map HT1.out)); have HBL2 := Aside0.mk (show w1.heap.size < (w1.alloc (.map #[] 0)).heap.size from map_lt HM2.out); clear HT1 HB1; generalize w1.alloc (.map #[] 0) = w2 at HM2 HB2 HT2 HBL2 ⊢; generalize w1.heap.size = b at HM2 HBW HRB HBL2 ⊢; (with_reducible refine (seq_Runs.calls k A0 c0 l0 A1 c1 l1 R w2 (Kd.C_below HR0.out HB2.out) HC0.out (Kd.C_below HR1.out HB2.out) HC1.out HRR.out).mono ?_); rintro e w3 ⟨vR, rfl, hS, hb⟩; obtain ⟨AR, cR, eR, lR, rR⟩ := Kd.S_reads hS; have HRW := Aside0.mk rR; have HT3 := Aside0.mk (tx_below HT2.out hb); have HM3 := Aside0.mk (map_below HM2.out hb); have HB3 := Aside0.mk (below_step HB2.out hb); have HBL := Aside0.mk (show b < w3.heap.size from Nat.lt_of_lt_of_le HBL2.out hb.size); clear hS hb rR lR HM2 HB2 HT2 HBL2; generalize hnR : R.length = nR at eR; subst eR))
 clear hmm g1 g2 g3 g4
 go_loopg [46] R.length (fun kq v46 w' => ∃ (i : Nat) (f : Int → Option Value), v46 = .int .i64 (i : Int) ∧ Aside0 (i ≤ R.length ∧ R.length - i = kq) ∧ Aside0 (MapIs Try.prog 3 w' b i f) ∧ Aside0 (BegRel w3 (begF R i) f) ∧ Aside0 (KeepBut w3 w' b none) ∧ Aside0 (Below w.heap.size w w'))
 case atStart => exact ⟨0, _, rfl, ⟨Nat.zero_le _, rfl⟩, HM3, ⟨fun _ => .inl ⟨rfl, rfl⟩⟩, ⟨KeepBut.refl _ _ _⟩, HB3⟩
 case round =>
  obtain ⟨i, f, rfl, HI, HMI, HREL, HKB, HB⟩ := hrel
  by_cases hlt : i < nR
  ·have b0 : decide ((i : Int) < (nR : Int)) = true := decide_eq_true (by omega)
   have b1 : decide (i < nR) = true := decide_eq_true hlt
   have q0 := eq_true (show (i : Int) < (nR : Int) by omega)
   have q1 := eq_true hlt
   have hw := (show wrap64 ((i : Int) + 1) = ((i + 1 : Nat) : Int) by have := HSZ.out; unfold wrap64; omega)
   obtain ⟨ad, A, c, e, xr, hl, hC⟩ := at_row HRW.out i (by omega)
   cases e
   have hhd := List.all_eq_true.mp HHD.out (R.getD i []) (by rw [List.getD_eq_getElem?_getD, List.getElem?_eq_getElem (show i < R.length by omega)]; exact List.getElem_mem _)
   rw [Bool.and_eq_true, decide_eq_true_eq] at hhd
   have HREL1 := Aside0.mk (show BegRel w3 (begF R (i + 1)) (mput f (rd (R.getD i []) 0) (.slice A (R.getD i []).length c)) from rel_put HREL.out _ hl hC)
   generalize R.getD i [] = run at xr hl hC hhd HREL1
   obtain ⟨ah, e, xh⟩ := at_head hC hhd.1
   cases e
   have xr1 := kb_cell HKB.out HM3.out xr
   have xh1 := kb_cell HKB.out HM3.out xh
   generalize rd run 0 = x at xh1 xh hhd HREL1
   have HOX := Aside0.mk (show (Lit.int .i64 x).wf = true from hhd.2)
   have q2 := eq_true hhd.1
   have q3 := eq_true (show (0 : Int) < (run.length : Int) by have := hhd.1; omega)
   have HLT := Aside0.mk hlt
   clear xr xh hhd hlt hl hC
   go_wp2_with (first | (at_mapUpdate; refine wp_map_put rfl _ _ _ 54 rfl 22 HMI.out Try.underlying3 Try.underlying54 (by have := HI.out; have := HSZ.out; unfold maxLen; omega) rfl x _ rfl rfl HOX.out ?_; intro w4 hM4 hg4; have HM4 := Aside0.mk hM4; have HKB4 := Aside0.mk (kb_map HKB.out hg4); have HB4 := Aside0.mk (map_belowB HB.out hg4 (Nat.le_trans HBW.out (Nat.le_of_lt (map_lt HMI.out))) HBW.out); clear hM4 hg4))
   go_roundg (R.length - (i + 1))
   case measure => have := HI.out; have := HLT.out; omega
   case rel => exact ⟨i + 1, _, by first | rfl | go_num | rw [hw], ⟨by have := HLT.out; omega, rfl⟩, HM4, HREL1, HKB4, HB4⟩
  ·have b0 : decide ((i : Int) < (nR : Int)) = false := decide_eq_false (by omega)
   have b1 : decide (i < nR) = false := decide_eq_false hlt
   have hik : i = R.length := by have := HI.out.1; omega
   have HREL0 := Aside0.mk (show BegRel w3 (begF R R.length) f from hik ▸ HREL.out)
   clear hlt hik
   go_wp2
   go_loopg [14, 58] R.length (fun kq v14 v58 w' => ∃ (i n : Nat) (gm : Int → Option (List Int)) (f : Int → Option Value) (out : List S42), v58 = .int .i64 (i : Int) ∧ Aside0 (i ≤ R.length ∧ R.length - i = kq) ∧ Aside0 (MapIs Try.prog 3 w' b n f) ∧ Aside0 (BegRel w3 gm f) ∧ Aside0 (KeepBut w3 w' b none) ∧ Aside0 (Below w.heap.size w w') ∧ Aside0 (Kd.S k42 42 w' w.heap.size (fun k_ => w3.heap.size ≤ k_) v14 out) ∧ Aside0 (seq_Sequences.goF l0 l2 M K a3 R (R.length - i) gm out = some r))
   case atStart => exact ⟨0, _, _, _, [], rfl, ⟨Nat.zero_le _, rfl⟩, HMI, HREL0, HKB, HB, ⟨Kd.S_nil _ _ _ _ _⟩, HGO⟩
   case round =>
    clear HGO HMI HREL HREL0 HKB HB b0 b1 HI
    obtain ⟨i, n, gm, f, out, rfl, HI, HMI, HREL, HKB, HB, HS, HGO⟩ := hrel
    by_cases hlt : i < nR
    ·have b0 : decide ((i : Int) < (nR : Int)) = true := decide_eq_true (by omega)
     have b1 : decide (i < nR) = true := decide_eq_true hlt
     have q0 := eq_true (show (i : Int) < (nR : Int) by omega)
     have q1 := eq_true hlt
     have hw := (show wrap64 ((i : Int) + 1) = ((i + 1 : Nat) : Int) by have := HSZ.out; unfold wrap64; omega)
     obtain ⟨ad, A, c, e, xr, hl, hC⟩ := at_row HRW.out i (by omega)
     cases e
     have hgo := HGO.out
     rw [show R.length - i = (R.length - (i + 1)) + 1 by omega, seq_Sequences.goF, show R.length - (R.length - (i + 1) + 1) = i by omega] at hgo
     by_cases h1 : 0 < (R.getD i []).length
     ·rw [if_pos h1] at hgo
      by_cases h2 : okI (rd (R.getD i []) 0) = true
      ·rw [if_pos h2] at hgo
       generalize R.getD i [] = run0 at xr hl hC hgo h1 h2
       obtain ⟨ah, e, xh⟩ := at_head hC h1
       cases e
       have xr1 := kb_cell HKB.out HM3.out xr
       have xh1 := kb_cell HKB.out HM3.out xh
       obtain ⟨x0, hx0⟩ : ∃ x, rd run0 0 = x := ⟨_, rfl⟩
       rw [hx0] at xh1 hgo h2
       have HOX0 := Aside0.mk (show (Lit.int .i64 x0).wf = true from h2)
       have q2 := eq_true h1
       have q3 := eq_true (show (0 : Int) < (run0.length : Int) by omega)
       have HLT := Aside0.mk hlt
       have HLC := Aside0.mk (And.intro hl hC)
       clear xr xh h2 hlt hl hC hx0
       have HML := HMI
       rcases HREL.out x0 with ⟨hg0, hf0⟩ | ⟨lx, Ax, cx, hg0, hf0, _⟩
       ·rw [hg0] at hgo
        have HGO1 := Aside0.mk hgo
        clear hgo HGO hg0 h1
        go_wp2_with (first | (at_lookup; refine wp_map_look rfl _ _ 54 true rfl 22 HML.out Try.underlying3 Try.underlying54 (z := .slice none 0 0) (by kernel_rfl) rfl x0 rfl HOX0.out ?_; simp only [hf0, Option.getD_none, Option.isSome_none, Option.getD_some, Option.isSome_some, if_true]))
        go_roundg (R.length - (i + 1))
        case measure => have := HI.out; have := HLT.out; omega
        case rel => exact ⟨i + 1, n, gm, f, out, by first | rfl | go_num | rw [hw], ⟨by have := HLT.out; omega, rfl⟩, HMI, HREL, HKB, HB, HS, HGO1⟩
       ·rw [hg0] at hgo
        obtain ⟨⟨gF, atF⟩, hch, hgo⟩ := Option.bind_eq_some_iff.mp hgo
        obtain ⟨s, hsq, hgo⟩ := Option.bind_eq_some_iff.mp hgo
        by_cases hlo : out.length < 2932031007402
        ·rw [if_pos hlo] at hgo
         have HGO1 := Aside0.mk hgo
         have HSQ := Aside0.mk hsq
         have HLO := Aside0.mk hlo
         have HCH := Aside0.mk hch
         have HH1 := Aside0.mk h1
         clear hgo HGO hg0 h1 hsq hlo hch
         go_wp2_with (first | (at_lookup; refine wp_map_look rfl _ _ 54 true rfl 22 HML.out Try.underlying3 Try.underlying54 (z := .slice none 0 0) (by kernel_rfl) rfl x0 rfl HOX0.out ?_; simp only [hf0, Option.getD_none, Option.isSome_none, Option.getD_some, Option.isSome_some, if_true]))
         clear HML hf0 xr1 xh1 q2 q3
         go_loopg [16, 19, 20] (R.length + 1) (fun kq v16 v19 v20 w' => ∃ (more : Bool) (n : Nat) (gm : Int → Option (List Int)) (f : Int → Option Value) (run at_ : List Int) (A : Option Addr) (c : Nat), v20 = .bool more ∧ v16 = .slice A run.length c ∧ Aside0 (MapIs Try.prog 3 w' b n f) ∧ Aside0 (BegRel w3 gm f) ∧ Aside0 (KeepBut w3 w' b none) ∧ Aside0 (Below w.heap.size w w') ∧ Aside0 (Kd.S k42 42 w' w.heap.size (fun k_ => w3.heap.size ≤ k_ ∧ some k_ ≠ v19.ownBlock) u14 out) ∧ Aside0 (Kd.R (Kd.int .i64) 3 w' w.heap.size (fun k_ => w3.heap.size ≤ k_ ∧ some k_ ≠ u14.ownBlock) v19 at_) ∧ Aside0 ((more = true ∧ chainF l2 M kq gm run at_ = some (gF, atF) ∧ run.length ≤ c ∧ Kd.C (Kd.int .i64) w3 A run.length run) ∨ (more = false ∧ gm = gF ∧ at_ = atF)))
         case atStart => exact ⟨true, n, gm, f, run0, [], _, _, rfl, rfl, HMI, HREL, HKB, HB, ⟨Kd.S_mono HS.out (fun _ hk => ⟨hk, by simp [Value.ownBlock]⟩)⟩, ⟨Kd.R_nil _ _ _ _ _⟩, ⟨.inl ⟨rfl, HCH.out, HLC.out⟩⟩⟩
         case round =>
          clear HMI HREL HKB HB HS HCH HLC HOX0 HH1
          obtain ⟨more, n, gm, f, run, at_, A, c, rfl, rfl, HMI, HREL, HKB, HB, HS, HRA, HW⟩ := hrel
          rcases HW.out with ⟨rfl, hch, hl, hC⟩ | ⟨rfl, rfl, rfl⟩
          ·cases gk with
           | zero => exact absurd hch (by simp [chainF])
           | succ k1 =>
            obtain ⟨h1, h2, h3, h4, h5, h6, h7, h8⟩ := chain_next hch
            obtain ⟨ah, e, xh⟩ := at_head hC h1
            cases e
            have xh1 := kb_cell HKB.out HM3.out xh
            have HREL5 := rel_del HREL.out (rd run 0)
            have hrx := HREL5 (nxtF l2 M (lastL (at_ ++ run)))
            have HREL5 := Aside0.mk HREL5
            obtain ⟨x, hx⟩ : ∃ x, rd run 0 = x := ⟨_, rfl⟩
            rw [hx] at xh1 h2 h8 hrx HREL5
            have HOX := Aside0.mk (show (Lit.int .i64 x).wf = true from h2)
            have HLN := Aside0.mk h3
            have HCR := Aside0.mk hC
            have q2 := eq_true h1
            have q3 := eq_true (show (0 : Int) < (run.length : Int) by omega)
            have hat1 : (at_ ++ run).length = at_.length + run.length := List.length_append
            obtain ⟨at1, nat⟩ : ∃ a, a = at_ ++ run := ⟨_, rfl⟩
            rw [← nat] at h4 h5 h6 h7 h8 hrx hat1
            have NAT := Aside0.mk nat
            obtain ⟨y, hy⟩ : ∃ y, lastL at1 = y := ⟨_, rfl⟩
            obtain ⟨z, hz⟩ : ∃ z, (at1.length : Int) - 1 = z := ⟨_, rfl⟩
            have hy2 : rd at1 z = y := by rw [← hz]; exact hy
            rw [hy] at h4 h5 h6 h7 h8 hrx
            obtain ⟨nx, hnx⟩ : ∃ nx, nxtF l2 M y = nx := ⟨_, rfl⟩
            rw [hnx] at h7 h8 hrx
            have HNX := Aside0.mk hnx
            have HONX := Aside0.mk (show (Lit.int .i64 nx).wf = true from h7)
            have HY := Aside0.mk hy2
            have HY0 := Aside0.mk h4
            have HY1 := Aside0.mk h5
            have HY2 := Aside0.mk h6
            have HZ0 := Aside0.mk (show 0 ≤ z by omega)
            have HZ1 := Aside0.mk (show z < (at1.length : Int) by omega)
            have zw : wrap64 ((at1.length : Int) - 1) = z := by unfold wrap64; omega
            have zw2 : IntKind.i64.wrap ((at1.length : Int) - 1) = z := (i64_w _).trans zw
            have q4 := eq_true HZ0.out
            have q5 := eq_true HZ1.out
            clear h1 h2 h3 h4 h5 h6 h7 hch hl hC xh hx nat hy hz hy2 hnx hat1 HW
            rcases h8 with ⟨h8, h9⟩ | ⟨l, h8, h9⟩
            ·have hfx : mdel f x nx = none := by
              rcases hrx with ⟨_, h⟩ | ⟨l, A, c, h, _⟩
              ·exact h
              ·rw [h8] at h; cases h
             have H9 := Aside0.mk h9
             clear h8 h9 hrx HREL
             go_wp2_with (first | (at_delete; refine wp_map_del rfl _ _ 54 rfl 22 HMI.out Try.underlying3 Try.underlying54 rfl x rfl HOX.out ?_; intro w5 hM5 hg5; have HM5 := Aside0.mk hM5; have HKB5 := Aside0.mk (kb_map HKB.out hg5); have HB5 := Aside0.mk (map_belowB HB.out hg5 (Nat.le_trans HBW.out (Nat.le_of_lt (map_lt HMI.out))) HBW.out); have HS5 := Aside0.mk (Kd.S_grown HS.out hg5 (fun k_ hk e => by injection e with e; have := HBL.out; have := hk.1; omega)); have HR5 := Aside0.mk (Kd.R_grown HRA.out hg5 (fun k_ hk e => by injection e with e; have := HBL.out; have := hk.1; omega)); clear hM5 hg5 HMI HKB HB HS HRA) | ((with_reducible refine gate_builtin (b := .append) (xs := #[.tmp 77, .tmp 78]) rfl ?_); at_builtin; refine Kd.R_append_row (Value.int .i64) (0 : Int) (h1 := fun _ => rfl) (w0 := w) w.heap.size rfl (.tmp 77) (.tmp 78) 22 3 (.int .i64 0) 8 rfl Try.underlying22 (by kernel_rfl) rfl (by omega) u19 at_ run (some ah) run.length c (fun k_ => w3.heap.size ≤ k_ ∧ some k_ ≠ u14.ownBlock) rfl rfl ?aF ?aO ?aR ?aB ?aS ?aL ?_; (case aO => exact HR5.out); (case aR => exact kb_C HKB5.out HM3.out HCR.out); (case aB => exact HB5.out); (case aS => exact HB5.out.size); (case aL => have := HLN.out; omega); (case aF => exact (fun k_ hk => ⟨Nat.le_trans HKB5.out.1 hk, fun e => by have := Kd.S_lt HS5.out k_ e.symm; omega⟩)); intro v6 w6 ho hb hg hat; rw [← NAT.out] at ho; have HR6 := Aside0.mk ho; have HB6 := Aside0.mk hb; have HS6 := Aside0.mk (Kd.S_after HS5.out hg hat); have HKB6 := Aside0.mk (kb_grown HKB5.out hg (fun k_ e => (HR5.out.1 k_ e).1)); have HM6 := Aside0.mk (map_same HM5.out (hg.block b (map_lt HM5.out) (fun e => by have := (HR5.out.1 b e.symm).1; have := HBL.out; omega))); clear ho hb hg hat HR5 HB5 HS5 HKB5 HM5; obtain ⟨A6, c6, e6, l6, r6⟩ := Kd.R_reads HR6.out; obtain ⟨a6, ea6, x6⟩ := Kd.at_int r6 z HZ0.out HZ1.out; subst ea6; subst e6; rw [HY.out] at x6; clear l6 r6) | (go_at_call 36; (with_reducible refine ((show Calls Try.prog 36 #[.pointer (some ⟨g, 0, none⟩), .int .i64 y] w6 (fun e w' => e = .returned (.tuple #[.int .i64 nx, .bool (isoB (rd l2 y))]) ∧ Below w6.heap.size w6 w') from by have h1 := b_iso (kb_tx HKB6.out HM3.out HT3.out HRB.out) y HY0.out HY1.out HY2.out; rw [← HNX.out]; unfold nxtF; exact h1)).mono ?_); rintro e w7 ⟨rfl, hb⟩; have HR7 := Aside0.mk (Kd.R_below HR6.out hb); have HB7 := Aside0.mk (below_step HB6.out hb); have HS7 := Aside0.mk (Kd.S_below HS6.out hb); have HKB7 := Aside0.mk (kb_below HKB6.out hb); have HML := Aside0.mk (map_below HM6.out hb); clear hb x6) | (at_lookup; refine wp_map_look rfl _ _ 54 true rfl 22 HML.out Try.underlying3 Try.underlying54 (z := .slice none 0 0) (by kernel_rfl) rfl nx rfl HONX.out ?_; simp only [hfx, Option.getD_none, Option.isSome_none, Option.getD_some, Option.isSome_some, if_true]))
             go_roundg k1
             case measure => omega
             case rel => exact ⟨false, n, _, _, [], at1, none, 0, rfl, by first | rfl | simp, HML, HREL5, HKB7, HB7, HS7, HR7, ⟨.inr ⟨rfl, (congrArg Prod.fst H9.out).symm, (congrArg Prod.snd H9.out).symm⟩⟩⟩
            ·obtain ⟨l', A', c', h10, hfx, h11, h12⟩ : ∃ l' A' c', gdel gm x nx = some l' ∧ mdel f x nx = some (.slice A' l'.length c') ∧ l'.length ≤ c' ∧ Kd.C (Kd.int .i64) w3 A' l'.length l' := by
              rcases hrx with ⟨h, _⟩ | h
              ·rw [h8] at h; cases h
              ·exact h
             rw [h8] at h10
             obtain rfl := Option.some.inj h10
             have H9 := Aside0.mk h9
             have H12 := Aside0.mk (And.intro h11 h12)
             clear h8 h9 hrx h10 h11 h12 HREL
             go_wp2_with (first | (at_delete; refine wp_map_del rfl _ _ 54 rfl 22 HMI.out Try.underlying3 Try.underlying54 rfl x rfl HOX.out ?_; intro w5 hM5 hg5; have HM5 := Aside0.mk hM5; have HKB5 := Aside0.mk (kb_map HKB.out hg5); have HB5 := Aside0.mk (map_belowB HB.out hg5 (Nat.le_trans HBW.out (Nat.le_of_lt (map_lt HMI.out))) HBW.out); have HS5 := Aside0.mk (Kd.S_grown HS.out hg5 (fun k_ hk e => by injection e with e; have := HBL.out; have := hk.1; omega)); have HR5 := Aside0.mk (Kd.R_grown HRA.out hg5 (fun k_ hk e => by injection e with e; have := HBL.out; have := hk.1; omega)); clear hM5 hg5 HMI HKB HB HS HRA) | ((with_reducible refine gate_builtin (b := .append) (xs := #[.tmp 77, .tmp 78]) rfl ?_); at_builtin; refine Kd.R_append_row (Value.int .i64) (0 : Int) (h1 := fun _ => rfl) (w0 := w) w.heap.size rfl (.tmp 77) (.tmp 78) 22 3 (.int .i64 0) 8 rfl Try.underlying22 (by kernel_rfl) rfl (by omega) u19 at_ run (some ah) run.length c (fun k_ => w3.heap.size ≤ k_ ∧ some k_ ≠ u14.ownBlock) rfl rfl ?aF ?aO ?aR ?aB ?aS ?aL ?_; (case aO => exact HR5.out); (case aR => exact kb_C HKB5.out HM3.out HCR.out); (case aB => exact HB5.out); (case aS => exact HB5.out.size); (case aL => have := HLN.out; omega); (case aF => exact (fun k_ hk => ⟨Nat.le_trans HKB5.out.1 hk, fun e => by have := Kd.S_lt HS5.out k_ e.symm; omega⟩)); intro v6 w6 ho hb hg hat; rw [← NAT.out] at ho; have HR6 := Aside0.mk ho; have HB6 := Aside0.mk hb; have HS6 := Aside0.mk (Kd.S_after HS5.out hg hat); have HKB6 := Aside0.mk (kb_grown HKB5.out hg (fun k_ e => (HR5.out.1 k_ e).1)); have HM6 := Aside0.mk (map_same HM5.out (hg.block b (map_lt HM5.out) (fun e => by have := (HR5.out.1 b e.symm).1; have := HBL.out; omega))); clear ho hb hg hat HR5 HB5 HS5 HKB5 HM5; obtain ⟨A6, c6, e6, l6, r6⟩ := Kd.R_reads HR6.out; obtain ⟨a6, ea6, x6⟩ := Kd.at_int r6 z HZ0.out HZ1.out; subst ea6; subst e6; rw [HY.out] at x6; clear l6 r6) | (go_at_call 36; (with_reducible refine ((show Calls Try.prog 36 #[.pointer (some ⟨g, 0, none⟩), .int .i64 y] w6 (fun e w' => e = .returned (.tuple #[.int .i64 nx, .bool (isoB (rd l2 y))]) ∧ Below w6.heap.size w6 w') from by have h1 := b_iso (kb_tx HKB6.out HM3.out HT3.out HRB.out) y HY0.out HY1.out HY2.out; rw [← HNX.out]; unfold nxtF; exact h1)).mono ?_); rintro e w7 ⟨rfl, hb⟩; have HR7 := Aside0.mk (Kd.R_below HR6.out hb); have HB7 := Aside0.mk (below_step HB6.out hb); have HS7 := Aside0.mk (Kd.S_below HS6.out hb); have HKB7 := Aside0.mk (kb_below HKB6.out hb); have HML := Aside0.mk (map_below HM6.out hb); clear hb x6) | (at_lookup; refine wp_map_look rfl _ _ 54 true rfl 22 HML.out Try.underlying3 Try.underlying54 (z := .slice none 0 0) (by kernel_rfl) rfl nx rfl HONX.out ?_; simp only [hfx, Option.getD_none, Option.isSome_none, Option.getD_some, Option.isSome_some, if_true]))
             go_roundg k1
             case measure => omega
             case rel => exact ⟨true, n, _, _, l, at1, A', c', rfl, rfl, HML, HREL5, HKB7, HB7, HS7, HR7, ⟨.inl ⟨rfl, H9.out, H12.out⟩⟩⟩
          ·obtain ⟨h0, h1, h2, h3, h4, h5, h6, h7, h8, v1, v2, hv1, hv2, hs⟩ := seq_Sequences.seq_next HSQ.out
           have HGO2 := Aside0.mk (show seq_Sequences.goF l0 l2 M K a3 R (R.length - (i + 1)) gm (out ++ [⟨at_, rd l0 (rd at_ 0), dirF (rd l0 (rd at_ 0)) v1, dirF (rd l0 (lastL at_)) (behF l2 M (lastL at_) a3 v2)⟩]) = some r from hs ▸ HGO1.out)
           clear HGO1 HSQ hs HW
           obtain ⟨A9, c9, e9, l9, r9⟩ := Kd.R_reads HRA.out
           subst e9
           have HCA := Aside0.mk r9
           obtain ⟨atF, hatF⟩ : ∃ a, at_ = a := ⟨_, rfl⟩
           subst hatF
           obtain ⟨x, hx⟩ : ∃ x, rd at_ 0 = x := ⟨_, rfl⟩
           obtain ⟨y, hy⟩ : ∃ y, lastL at_ = y := ⟨_, rfl⟩
           obtain ⟨z, hz⟩ : ∃ z, (at_.length : Int) - 1 = z := ⟨_, rfl⟩
           have hy2 : rd at_ z = y := by rw [← hz]; exact hy
           rw [hx] at h1 h2 h7 hv1
           rw [hy] at h3 h4 h5 h6 h8 hv2
           rw [hx, hy] at HGO2
           have HX := Aside0.mk hx
           have HY := Aside0.mk hy2
           have HZ := Aside0.mk (show wrap64 ((at_.length : Int) - 1) = z by have h99 := Kd.C_max r9; unfold wrap64; omega)
           have HZ0 := Aside0.mk (show 0 ≤ z by omega)
           have HZ1 := Aside0.mk (show z < (at_.length : Int) by omega)
           have HX0 := Aside0.mk (And.intro h1 h2)
           have HY0 := Aside0.mk (And.intro h3 (And.intro h4 (And.intro h5 h6)))
           have HWX := Aside0.mk (show (Lit.int .i64 x).wf = true from h7)
           have HWY := Aside0.mk (show (Lit.int .i64 y).wf = true from h8)
           have HV1 := Aside0.mk hv1
           have HV2 := Aside0.mk hv2
           clear h0 h1 h2 h3 h4 h5 h6 h7 h8 hv1 hv2 l9 r9 hx hy hz hy2
           go_wp2_with (first | (go_at_call 37; (with_reducible refine (p_seq (kb_tx HKB.out HM3.out HT3.out HRB.out) HCA.out x y z _ _ v1 v2 HZ.out HZ0.out HZ1.out HX.out HY.out HX0.out.1 HX0.out.2 HY0.out.1 HY0.out.2.1 HY0.out.2.2.1 HY0.out.2.2.2 HWX.out HWY.out (rk_is K x K.length) (rk_is K y K.length) HV1.out HV2.out).mono ?_); rintro e w8 ⟨rfl, hb⟩; have HRA8 := Aside0.mk (Kd.R_below HRA.out hb); have HB8 := Aside0.mk (below_step HB.out hb); have HS8 := Aside0.mk (Kd.S_below HS.out hb); have HKB8 := Aside0.mk (kb_below HKB.out hb); have HMI8 := Aside0.mk (map_below HMI.out hb); clear hb) | ((with_reducible refine gate_builtin (b := .append) (xs := #[.tmp 97, .tmp 101]) rfl ?_); at_builtin; refine Kd.S_append k42 (w0 := w) w.heap.size rfl (.tmp 97) (.tmp 101) 27 42 (.agg #[(.slice none 0 0), (.int .i64 0), (.int .i64 0), (.int .i64 0)]) 48 rfl Try.underlying27 (by kernel_rfl) rfl (by decide) (by omega) u14 out ⟨at_, rd l0 x, dirF (rd l0 x) v1, dirF (rd l0 y) (behF l2 M y a3 v2)⟩ [.slice A9 at_.length c9, .int .i64 (rd l0 x), .int .i64 (dirF (rd l0 x) v1), .int .i64 (dirF (rd l0 y) (behF l2 M y a3 v2))] (fun k_ => w3.heap.size ≤ k_) (fun k_ => some k_ = (Value.slice A9 at_.length c9).ownBlock) rfl rfl ?aP ?aQ ?aF ?aO ?aB ?aS ?aL ?_; (case aP => exact k42_mkM _ _ _ _ (Kd.R_mono (Kd.R_tight rfl HRA8.out) (fun _ e => e))); (case aQ => exact (fun k_ hk => ⟨(HRA8.out.1 k_ hk.symm).1, (HRA8.out.1 k_ hk.symm).2⟩)); (case aF => exact (fun k_ hk => Nat.le_trans HKB8.out.1 hk)); (case aO => exact Kd.S_mono HS8.out (fun k_ hk => ⟨hk.1, hk.2⟩)); (case aB => exact HB8.out); (case aS => exact HB8.out.size); (case aL => have := HLO.out; omega); intro v9 w9 ho hb hg hat; have HS9 := Aside0.mk ho; have HB9 := Aside0.mk hb; have HKB9 := Aside0.mk (kb_grown HKB8.out hg (fun k_ e => (Kd.S_R HS8.out).1 k_ e |>.1)); have HMI9 := Aside0.mk (map_same HMI8.out (hg.block b (map_lt HMI8.out) (fun e => by have := ((Kd.S_R HS8.out).1 b e.symm).1; have := HBL.out; omega))); clear ho hb hg hat HS8 HB8 HKB8 HMI8 HRA8))
           go_roundg (R.length - (i + 1))
           case measure => have := HI.out; have := HLT.out; omega
           case rel => exact ⟨i + 1, n, gm, f, _, by first | rfl | go_num | rw [hw], ⟨by have := HLT.out; omega, rfl⟩, HMI9, HREL, HKB9, HB9, HS9, HGO2⟩
        ·rw [if_neg hlo] at hgo; cases hgo
      ·rw [if_neg h2] at hgo; cases hgo
     ·rw [if_neg h1] at hgo; cases hgo
    ·have b0 : decide ((i : Int) < (nR : Int)) = false := decide_eq_false (by omega)
     have b1 : decide (i < nR) = false := decide_eq_false hlt
     have hik : i = R.length := by have := HI.out.1; omega
     have hgo := HGO.out
     rw [show R.length - i = 0 by omega, seq_Sequences.goF] at hgo
     obtain rfl := Option.some.inj hgo
     clear hlt hgo
     go_wp2
     go_ret
     exact ⟨_, by first | rfl | simp [*], Kd.S_mono HS.out (fun _ _ => trivial), HB.out⟩
theorem seq_Sequences.calls (k : Nat) (A0 : Option Addr) (c0 : Nat) (l0 : List Int) (A1 : Option Addr) (c1 : Nat) (l1 : List Int) (A2 : Option Addr) (c2 : Nat) (l2 : List Int) (a3 : Int) (r : List (S42)) (w : World) (hr0 : Kd.C (Kd.int .i64) w A0 l0.length l0) (hc0 : l0.length ≤ c0) (hr1 : Kd.C (Kd.int .i64) w A1 l1.length l1) (hc1 : l1.length ≤ c1) (hr2 : Kd.C (Kd.int .i64) w A2 l2.length l2) (hc2 : l2.length ≤ c2) (h : seq_Sequences.f k l0 l1 l2 a3 = some r) :
  Calls Try.prog 13 #[.slice A0 l0.length c0, .slice A1 l1.length c1, .slice A2 l2.length c2, .int .i64 a3] w fun e w' => ∃ v0_ : Value, e = .returned (v0_) ∧ Kd.S k42 42 w' w.heap.size (fun _ => True) v0_ r ∧ Below w.heap.size w w' := by
 unfold seq_Sequences.f at h
 by_cases e1 : (l0.length : Int) = (l1.length : Int)
 ·rw [if_pos e1] at h
  by_cases e2 : (l2.length : Int) = (l1.length : Int)
  ·rw [if_pos e2] at h
   obtain ⟨M, hM, h⟩ := Option.bind_eq_some_iff.mp h
   obtain ⟨R, hR, h⟩ := Option.bind_eq_some_iff.mp h
   obtain ⟨K, hK, h⟩ := Option.bind_eq_some_iff.mp h
   by_cases h1 : R.length ≤ 17592186043000
   ·rw [if_pos h1] at h
    by_cases h2 : K.length ≤ 17592186043000
    ·rw [if_pos h2] at h
     by_cases h3 : K.all okI = true
     ·rw [if_pos h3] at h
      by_cases h4 : seq_Sequences.headsF R = true
      ·rw [if_pos h4] at h
       exact seq_Sequences.main k A0 c0 l0 A1 c1 l1 A2 c2 l2 a3 r w hr0 hc0 hr1 hc1 hr2 hc2 M K R e1 e2 hM hR hK h1 h2 h3 h4 h
      ·rw [if_neg h4] at h; cases h
     ·rw [if_neg h3] at h; cases h
    ·rw [if_neg h2] at h; cases h
   ·rw [if_neg h1] at h; cases h
  ·rw [if_neg e2] at h
   obtain rfl := Option.some.inj h
   exact seq_Sequences.off2 k A0 c0 l0 A1 c1 l1 A2 c2 l2 a3 w hr0 hc0 hr1 hc1 hr2 hc2 e1 e2
 ·rw [if_neg e1] at h
  obtain rfl := Option.some.inj h
  exact seq_Sequences.off1 k A0 c0 l0 A1 c1 l1 A2 c2 l2 a3 w hr0 hc0 hr1 hc1 hr2 hc2 e1
end
def slices_Equal_int_int.l0 : Nat → List Int → List Int → Int → Int → Option (Bool)
  | 0, _, _, _, _ => none
  | k + 1, x0, x1, x12, x13 => if x13 < x12 then (if 0 ≤ x13 then (if x13 < (x0.length : Int) then (if x13 < (x1.length : Int) then (if (rd x0 x13) = (rd x1 x13) then (slices_Equal_int_int.l0 k x0 x1 x12 (wrap64 (x13 + 1))) else (some false)) else (none)) else (none)) else (none)) else (some true)
def slices_Equal_int_int.f (k : Nat) (l0 : List Int) (l1 : List Int) : Option (Bool) := if (l0.length : Int) = (l1.length : Int) then (slices_Equal_int_int.l0 k l0 l1 (l0.length : Int) 0) else (some false)
theorem slices_Equal_int_int.mono_l : ∀ k, (∀ y0 y1 y2 y3, LeO (slices_Equal_int_int.l0 k y0 y1 y2 y3) (slices_Equal_int_int.l0 (k + 1) y0 y1 y2 y3))
  | 0 => fun _ _ _ _ r h => by simp [slices_Equal_int_int.l0] at h
  | k + 1 => by
    have ih0 := slices_Equal_int_int.mono_l k
    · intro y0 y1 y2 y3
      unfold slices_Equal_int_int.l0
      repeat' first
      | (with_reducible exact ih0 _ _ _ _)
      | (with_reducible exact LeO.refl _)
      | (with_reducible exact LeO.none _)
      | (with_reducible refine LeO.ite ?_ ?_)
      | (with_reducible refine LeO.bind ?_ (fun _ => ?_))
      | exact ih0 _ _ _ _
      | exact LeO.none _
      | refine LeO.ite ?_ ?_
      | refine LeO.bind ?_ (fun _ => ?_)
theorem slices_Equal_int_int.mono : ∀ a0 a1 k, LeO (slices_Equal_int_int.f k a0 a1) (slices_Equal_int_int.f (k + 1) a0 a1) := by
  intro a0 a1 k
  have ih0 := slices_Equal_int_int.mono_l k
  unfold slices_Equal_int_int.f
  repeat' first
      | (with_reducible exact ih0 _ _ _ _)
      | (with_reducible exact LeO.refl _)
      | (with_reducible exact LeO.none _)
      | (with_reducible refine LeO.ite ?_ ?_)
      | (with_reducible refine LeO.bind ?_ (fun _ => ?_))
      | exact ih0 _ _ _ _
      | exact LeO.none _
      | refine LeO.ite ?_ ?_
      | refine LeO.bind ?_ (fun _ => ?_)
set_option maxHeartbeats 8000000 in
set_option maxRecDepth 100000 in
theorem slices_Equal_int_int.calls (k : Nat) (A0 : Option Addr) (c0 : Nat) (l0 : List Int) (A1 : Option Addr) (c1 : Nat) (l1 : List Int) (r : Bool) (w : World) (hr0 : Kd.C (Kd.int .i64) w A0 l0.length l0) (hc0 : l0.length ≤ c0) (hr1 : Kd.C (Kd.int .i64) w A1 l1.length l1) (hc1 : l1.length ≤ c1) (h : slices_Equal_int_int.f k l0 l1 = some r) :
    Calls Try.prog 19 #[.slice A0 l0.length c0, .slice A1 l1.length c1] w fun e w' => e = .returned (.bool r) ∧ Drawn0 w w' := by
  have HR0 := Aside0.mk hr0
  have HC0 := Aside0.mk hc0
  clear hr0 hc0
  have HR1 := Aside0.mk hr1
  have HC1 := Aside0.mk hc1
  clear hr1 hc1
  have H : (if (l0.length : Int) = (l1.length : Int) then (slices_Equal_int_int.l0 k l0 l1 (l0.length : Int) 0) else (some false)) = some r := h
  clear h
  by_cases c3 : (l0.length : Int) = (l1.length : Int)
  · rw [if_pos c3] at H
    have c3b0 : ((l0.length : Int) == (l1.length : Int)) = true := beq_iff_eq.mpr c3
    have c3b1 : ((l0.length : Int) != (l1.length : Int)) = false := bne_eq_false_iff_eq.mpr c3
    have c3b2 : (l0.length == l1.length) = true := by first | simpa using c3 | (simp at c3 ⊢; omega)
    clear c3
    have H' := Aside0.mk H
    clear H
    go_enter Try.func19, Try.ntmps19
    go_wp2
    repeat (go_quiet (fail); try go_wp2)
    go_loopg [13] k (fun kq v13 w' => ∃ (x13_1 : Int), v13 = .int .i64 x13_1 ∧ Aside0 (slices_Equal_int_int.l0 kq l0 l1 (l0.length : Int) x13_1 = some r) ∧ Aside0 (kq ≤ k) ∧ Drawn0 w w')
    case atStart => exact ⟨(0), (by first | rfl | (simp; done) | (simp [*]; done)), H', ⟨Nat.le_refl _⟩, by repeat (first | exact Drawn0.refl _ | apply Drawn0.step)⟩
    case round =>
      clear H'
      try clear c1
      try clear p2
      try clear c3
      try clear c3b0
      try clear c3b1
      try clear c3b2
      obtain ⟨x13_1, rfl, HA, HK1, ⟨m1, rfl⟩⟩ := hrel
      cases gk with
      | zero => exact absurd HA.out (by simp [slices_Equal_int_int.l0])
      | succ k1 =>
        have H := HA.out
        clear HA
        simp only [slices_Equal_int_int.l0] at H
        by_cases c4 : x13_1 < (l0.length : Int)
        · rw [if_pos c4] at H
          have c4b0 : decide (x13_1 < (l0.length : Int)) = true := decide_eq_true c4
          clear c4
          by_cases c5 : 0 ≤ x13_1
          · rw [if_pos c5] at H
            have c5b0 : decide (0 ≤ x13_1) = true := decide_eq_true c5
            clear c5
            by_cases c6 : x13_1 < (l0.length : Int)
            · rw [if_pos c6] at H
              have c6b0 : decide (x13_1 < (l0.length : Int)) = true := decide_eq_true c6
              clear c6
              by_cases c7 : x13_1 < (l1.length : Int)
              · rw [if_pos c7] at H
                have c7b0 : decide (x13_1 < (l1.length : Int)) = true := decide_eq_true c7
                clear c7
                by_cases c8 : (rd l0 x13_1) = (rd l1 x13_1)
                · rw [if_pos c8] at H
                  have c8b0 : ((rd l0 x13_1) == (rd l1 x13_1)) = true := beq_iff_eq.mpr c8
                  have c8b1 : ((rd l0 x13_1) != (rd l1 x13_1)) = false := bne_eq_false_iff_eq.mpr c8
                  clear c8
                  have H' := Aside0.mk H
                  clear H
                  have p173 : 0 ≤ (x13_1 : Int) := of_decide_eq_true (by first | (with_reducible assumption) | assumption)
                  have q173 : x13_1 < (l0.length : Int) := of_decide_eq_true (by first | (with_reducible assumption) | assumption)
                  obtain ⟨ad173, e173, hx173_0⟩ := Kd.at_int HR0.out x13_1 p173 q173
                  cases e173
                  replace p173 := eq_true p173
                  replace q173 := eq_true q173
                  have p174 : 0 ≤ (x13_1 : Int) := of_decide_eq_true (by first | (with_reducible assumption) | assumption)
                  have q174 : x13_1 < (l1.length : Int) := of_decide_eq_true (by first | (with_reducible assumption) | assumption)
                  obtain ⟨ad174, e174, hx174_0⟩ := Kd.at_int HR1.out x13_1 p174 q174
                  cases e174
                  replace p174 := eq_true p174
                  replace q174 := eq_true q174
                  go_wp2
                  repeat (go_quiet (fail); try go_wp2)
                  go_roundg k1
                  case measure => have := HK1.out; omega
                  case rel => exact ⟨(wrap64 (x13_1 + 1)), (by first | rfl | (simp; done) | (simp [*]; done)), H', ⟨by have := HK1.out; omega⟩, by repeat (first | exact Drawn0.refl _ | apply Drawn0.step)⟩
                · rw [if_neg c8] at H
                  have c8b0 : ((rd l0 x13_1) == (rd l1 x13_1)) = false := beq_eq_false_iff_ne.mpr c8
                  have c8b1 : ((rd l0 x13_1) != (rd l1 x13_1)) = true := bne_iff_ne.mpr c8
                  obtain rfl := Option.some.inj H
                  have p173 : 0 ≤ (x13_1 : Int) := of_decide_eq_true (by first | (with_reducible assumption) | assumption)
                  have q173 : x13_1 < (l0.length : Int) := of_decide_eq_true (by first | (with_reducible assumption) | assumption)
                  obtain ⟨ad173, e173, hx173_0⟩ := Kd.at_int HR0.out x13_1 p173 q173
                  cases e173
                  replace p173 := eq_true p173
                  replace q173 := eq_true q173
                  have p174 : 0 ≤ (x13_1 : Int) := of_decide_eq_true (by first | (with_reducible assumption) | assumption)
                  have q174 : x13_1 < (l1.length : Int) := of_decide_eq_true (by first | (with_reducible assumption) | assumption)
                  obtain ⟨ad174, e174, hx174_0⟩ := Kd.at_int HR1.out x13_1 p174 q174
                  cases e174
                  replace p174 := eq_true p174
                  replace q174 := eq_true q174
                  go_wp2
                  repeat (go_quiet (fail); try go_wp2)
                  go_ret
                  exact ⟨by first | rfl | (simp; done) | (simp [*]; done), by repeat (first | exact Drawn0.refl _ | apply Drawn0.step)⟩
              · rw [if_neg c7] at H
                exact absurd H (by simp)
            · rw [if_neg c6] at H
              exact absurd H (by simp)
          · rw [if_neg c5] at H
            exact absurd H (by simp)
        · rw [if_neg c4] at H
          have c4b0 : decide (x13_1 < (l0.length : Int)) = false := decide_eq_false c4
          clear c4
          obtain rfl := Option.some.inj H
          go_wp2
          repeat (go_quiet (fail); try go_wp2)
          go_ret
          exact ⟨by first | rfl | (simp; done) | (simp [*]; done), by repeat (first | exact Drawn0.refl _ | apply Drawn0.step)⟩
  · rw [if_neg c3] at H
    have c3b0 : ((l0.length : Int) == (l1.length : Int)) = false := beq_eq_false_iff_ne.mpr c3
    have c3b1 : ((l0.length : Int) != (l1.length : Int)) = true := bne_iff_ne.mpr c3
    have c3b2 : (l0.length == l1.length) = false := by first | simpa using c3 | (simp at c3 ⊢; omega)
    obtain rfl := Option.some.inj H
    go_enter Try.func19, Try.ntmps19
    go_wp2
    repeat (go_quiet (fail); try go_wp2)
    go_ret
    exact ⟨by first | rfl | (simp; done) | (simp [*]; done), by repeat (first | exact Drawn0.refl _ | apply Drawn0.step)⟩
def naskhlaw23_awake.f (k : Nat)  : Option (Bool) := (some (([0, 1, 0] : List Int) : List Int)).bind fun y175 => ((seq_Sequences.f k (([0, 1, 0] : List Int)) y175 y175 0).bind fun t181 => (if (t181.length : Int) = 3 then (if 1 < (t181.length : Int) then ((slices_Equal_int_int.f k ((rd_T42 t181 1).f0) (([1] : List Int))).bind fun t188 => (if t188 = true then (if ((rd_T42 t181 1).f2) = 1 then (if ((rd_T42 t181 1).f3) = 1 then (some (((rd_T42 t181 1).f1) == 1)) else (some false)) else (some false)) else (some false))) else (none)) else (some false)))
theorem naskhlaw23_awake.mono : ∀ k, LeO (naskhlaw23_awake.f k ) (naskhlaw23_awake.f (k + 1) ) := by
  intro  k
  unfold naskhlaw23_awake.f
  repeat' first
      | (with_reducible exact seq_Sequences.mono _ _ _ _ _)
      | (with_reducible exact slices_Equal_int_int.mono _ _ _)
      | (with_reducible exact LeO.refl _)
      | (with_reducible exact LeO.none _)
      | (with_reducible refine LeO.ite ?_ ?_)
      | (with_reducible refine LeO.bind ?_ (fun _ => ?_))
      | exact seq_Sequences.mono _ _ _ _ _
      | exact slices_Equal_int_int.mono _ _ _
      | exact LeO.none _
      | refine LeO.ite ?_ ?_
      | refine LeO.bind ?_ (fun _ => ?_)
set_option maxHeartbeats 8000000 in
set_option maxRecDepth 100000 in
theorem naskhlaw23_awake.calls (k : Nat)  (r : Bool) (w : World) (h : naskhlaw23_awake.f k  = some r) :
    Calls Try.prog 10 #[] w fun e w' => e = .returned (.bool r) ∧ Below w.heap.size w w' := by
  have HB := Aside0.mk (Below.refl w.heap.size w)
  have H : ((some (([0, 1, 0] : List Int) : List Int)).bind fun y175 => ((seq_Sequences.f k (([0, 1, 0] : List Int)) y175 y175 0).bind fun t181 => (if (t181.length : Int) = 3 then (if 1 < (t181.length : Int) then ((slices_Equal_int_int.f k ((rd_T42 t181 1).f0) (([1] : List Int))).bind fun t188 => (if t188 = true then (if ((rd_T42 t181 1).f2) = 1 then (if ((rd_T42 t181 1).f3) = 1 then (some (((rd_T42 t181 1).f1) == 1)) else (some false)) else (some false)) else (some false))) else (none)) else (some false)))) = some r := h
  clear h
  obtain ⟨y175, hy175⟩ : ∃ y_ : List Int, y_ = (([0, 1, 0] : List Int)) := ⟨_, rfl⟩
  replace H : ((seq_Sequences.f k (([0, 1, 0] : List Int)) y175 y175 0).bind fun t181 => (if (t181.length : Int) = 3 then (if 1 < (t181.length : Int) then ((slices_Equal_int_int.f k ((rd_T42 t181 1).f0) (([1] : List Int))).bind fun t188 => (if t188 = true then (if ((rd_T42 t181 1).f2) = 1 then (if ((rd_T42 t181 1).f3) = 1 then (some (((rd_T42 t181 1).f1) == 1)) else (some false)) else (some false)) else (some false))) else (none)) else (some false))) = some r := by first | (rw [hy175]; with_reducible exact H) | (have H2_ := (Option.bind_some _ _).symm.trans H; rw [hy175]; with_reducible exact H2_) | (have H2_ := (Option.bind_some _ _).symm.trans H; with_reducible exact H2_) | with_reducible exact H | (rw [hy175]; exact H) | exact H
  have Ny175 := Aside0.mk hy175
  clear hy175
  obtain ⟨y178, hy178⟩ : ∃ y_ : List Int, y_ = (([0, 1, 0] : List Int)) := ⟨_, rfl⟩
  replace H : ((seq_Sequences.f k y178 y175 y175 0).bind fun t181 => (if (t181.length : Int) = 3 then (if 1 < (t181.length : Int) then ((slices_Equal_int_int.f k ((rd_T42 t181 1).f0) (([1] : List Int))).bind fun t188 => (if t188 = true then (if ((rd_T42 t181 1).f2) = 1 then (if ((rd_T42 t181 1).f3) = 1 then (some (((rd_T42 t181 1).f1) == 1)) else (some false)) else (some false)) else (some false))) else (none)) else (some false))) = some r := by first | (rw [hy178]; with_reducible exact H) | (have H2_ := (Option.bind_some _ _).symm.trans H; rw [hy178]; with_reducible exact H2_) | (have H2_ := (Option.bind_some _ _).symm.trans H; with_reducible exact H2_) | with_reducible exact H | (rw [hy178]; exact H) | exact H
  have Ny178 := Aside0.mk hy178
  clear hy178
  replace H := Option.bind_eq_some_iff.mp H
  obtain ⟨t181, A10, H⟩ := H
  replace H : (if (t181.length : Int) = 3 then (if 1 < (t181.length : Int) then ((slices_Equal_int_int.f k ((rd_T42 t181 1).f0) (([1] : List Int))).bind fun t188 => (if t188 = true then (if ((rd_T42 t181 1).f2) = 1 then (if ((rd_T42 t181 1).f3) = 1 then (some (((rd_T42 t181 1).f1) == 1)) else (some false)) else (some false)) else (some false))) else (none)) else (some false)) = some r := H
  have A1 := Aside0.mk A10
  clear A10
  by_cases c2 : (t181.length : Int) = 3
  · rw [if_pos c2] at H
    have c2b0 : ((t181.length : Int) == 3) = true := beq_iff_eq.mpr c2
    have c2b1 : ((t181.length : Int) != 3) = false := bne_eq_false_iff_eq.mpr c2
    clear c2
    by_cases c3 : 1 < (t181.length : Int)
    · rw [if_pos c3] at H
      have c3b0 : decide (1 < (t181.length : Int)) = true := decide_eq_true c3
      have c3b1 : decide (1 < t181.length) = true := decide_eq_true (by omega)
      clear c3
      obtain ⟨y185, hy185⟩ : ∃ y_ : List Int, y_ = (([1] : List Int)) := ⟨_, rfl⟩
      replace H : ((slices_Equal_int_int.f k ((rd_T42 t181 1).f0) y185).bind fun t188 => (if t188 = true then (if ((rd_T42 t181 1).f2) = 1 then (if ((rd_T42 t181 1).f3) = 1 then (some (((rd_T42 t181 1).f1) == 1)) else (some false)) else (some false)) else (some false))) = some r := by first | (rw [hy185]; with_reducible exact H) | (have H2_ := (Option.bind_some _ _).symm.trans H; rw [hy185]; with_reducible exact H2_) | (have H2_ := (Option.bind_some _ _).symm.trans H; with_reducible exact H2_) | with_reducible exact H | (rw [hy185]; exact H) | exact H
      have Ny185 := Aside0.mk hy185
      clear hy185
      replace H := Option.bind_eq_some_iff.mp H
      obtain ⟨t188, A40, H⟩ := H
      replace H : (if t188 = true then (if ((rd_T42 t181 1).f2) = 1 then (if ((rd_T42 t181 1).f3) = 1 then (some (((rd_T42 t181 1).f1) == 1)) else (some false)) else (some false)) else (some false)) = some r := H
      have A4 := Aside0.mk A40
      clear A40
      by_cases c5 : t188 = true
      · subst c5
        have H1 : (if ((rd_T42 t181 1).f2) = 1 then (if ((rd_T42 t181 1).f3) = 1 then (some (((rd_T42 t181 1).f1) == 1)) else (some false)) else (some false)) = some r := by rw [if_pos rfl] at H; exact H
        clear H
        have H := H1
        clear H1
        by_cases c6 : ((rd_T42 t181 1).f2) = 1
        · rw [if_pos c6] at H
          have c6b0 : (((rd_T42 t181 1).f2) == 1) = true := beq_iff_eq.mpr c6
          have c6b1 : (((rd_T42 t181 1).f2) != 1) = false := bne_eq_false_iff_eq.mpr c6
          clear c6
          by_cases c7 : ((rd_T42 t181 1).f3) = 1
          · rw [if_pos c7] at H
            have c7b0 : (((rd_T42 t181 1).f3) == 1) = true := beq_iff_eq.mpr c7
            have c7b1 : (((rd_T42 t181 1).f3) != 1) = false := bne_eq_false_iff_eq.mpr c7
            clear c7
            obtain rfl := Option.some.inj H
            go_enter Try.func10, Try.ntmps10
            go_wp2_with (first | ((with_reducible refine gate_dst (N := 3) rfl ?_); (try (refine gate_guard (by rfl) ?_; dsimp only)); refine Kd.R_lit (Kd.int .i64) _ 3 ?hg (N := 3) ?hd (xs := ([0, 1, 0] : List Int)) (inner := [.int .i64 0, .int .i64 1, .int .i64 0]) (ok := fun _ => True) (okp := fun _ => True) ?hr ?hp (fun _ hk => hk) trivial (Below.refl _ _) (Nat.le_refl _) (by simp) ?_; (case hd => rfl); (case hg => rfl); (case hr => first | (go_simp; done) | (go_simp; rfl)); (case hp => exact (Reps.one (show Kd.M (Kd.int .i64) _ _ _ 0 [.int .i64 0] from rfl) (Reps.one (show Kd.M (Kd.int .i64) _ _ _ 1 [.int .i64 1] from rfl) (Reps.one (show Kd.M (Kd.int .i64) _ _ _ 0 [.int .i64 0] from rfl) (Reps.none _ _))))); intro v176 w8 ho9 hb hg_ hnew_; clear hg_ hnew_; (first | rw [← Ny175.out] at ho9 | (simp only [Int.reduceToNat] at ho9; rw [← Ny175.out] at ho9)); have n0_ := Aside0.mk (Kd.R_lower ho9 (below_size (by repeat (first | (with_reducible first | exact HB.out | apply below_alloc | apply pw_below_drewN | apply below_drew1) | exact HB.out)))); have n1_ := Aside0.mk (below_step (by repeat (first | (with_reducible first | exact HB.out | apply below_alloc | apply pw_below_drewN | apply below_drew1) | exact HB.out)) hb); clear HB; have HO177 := n0_; have HB := n1_; clear n0_ n1_; clear hb ho9) | ((with_reducible refine gate_dst (N := 4) rfl ?_); (try (refine gate_guard (by rfl) ?_; dsimp only)); refine Kd.R_lit (Kd.int .i64) _ 3 ?hg (N := 4) ?hd (xs := ([0, 1, 0] : List Int)) (inner := [.int .i64 0, .int .i64 1, .int .i64 0]) (ok := fun _ => True) (okp := fun _ => True) ?hr ?hp (fun _ hk => hk) trivial (Below.refl _ _) (Nat.le_refl _) (by simp) ?_; (case hd => rfl); (case hg => rfl); (case hr => first | (go_simp; done) | (go_simp; rfl)); (case hp => exact (Reps.one (show Kd.M (Kd.int .i64) _ _ _ 0 [.int .i64 0] from rfl) (Reps.one (show Kd.M (Kd.int .i64) _ _ _ 1 [.int .i64 1] from rfl) (Reps.one (show Kd.M (Kd.int .i64) _ _ _ 0 [.int .i64 0] from rfl) (Reps.none _ _))))); intro v179 w10 ho11 hb hg_ hnew_; clear hg_ hnew_; (first | rw [← Ny178.out] at ho11 | (simp only [Int.reduceToNat] at ho11; rw [← Ny178.out] at ho11)); have n0_ := Aside0.mk (Kd.R_elder' (by (with_reducible repeat (first | apply Kd.R_alloc | apply Kd.R_drewN | apply Kd.R_drew)); exact HO177.out) (Kd.R_base ho11) hb); have n1_ := Aside0.mk (Kd.R_lower (Kd.R_new' ho11 (Kd.R_lt (by (with_reducible repeat (first | apply Kd.R_alloc | apply Kd.R_drewN | apply Kd.R_drew)); exact HO177.out))) (below_size (by repeat (first | (with_reducible first | exact HB.out | apply below_alloc | apply pw_below_drewN | apply below_drew1) | exact HB.out)))); have n2_ := Aside0.mk (below_step (by repeat (first | (with_reducible first | exact HB.out | apply below_alloc | apply pw_below_drewN | apply below_drew1) | exact HB.out)) hb); clear HO177; clear HB; have HO177 := n0_; have HO180 := n1_; have HB := n2_; clear n0_ n1_ n2_; clear hb ho11; obtain ⟨Ao12, co12, eo12⟩ := Kd.R_slice HO180.out; subst eo12; obtain ⟨Ao13, co13, eo13⟩ := Kd.R_slice HO177.out; subst eo13) | ((with_reducible refine gate_callee (f := 13) rfl ?_); refine goesL_ (some 7) rfl rfl Try.func13 (by kernel_rfl) rfl #[.slice Ao12 y178.length co12, .slice Ao13 y175.length co13, .slice Ao13 y175.length co13, .int .i64 0] rfl (by (try simp only [List.map_toArray, List.map_cons, List.map_nil]); first | done | rfl | (simp only [List.length_drop, List.length_take]; rfl)) ?_; (with_reducible refine (seq_Sequences.calls k _ _ y178 _ _ y175 _ _ y175 0 t181 _ ?side1 ?side2 ?side3 ?side4 ?side5 ?side6 A1.out).mono ?_); (case side1 => repeat (first | exact (Kd.R_reads' HO180.out).2.2 | (with_reducible refine Kd.C_alloc ?_ _) | (with_reducible refine Kd.C_drewN ?_ _) | (with_reducible refine Kd.C_drew ?_))); (case side2 => exact (Kd.R_reads' HO180.out).2.1); (case side3 => repeat (first | exact (Kd.R_reads' HO177.out).2.2 | (with_reducible refine Kd.C_alloc ?_ _) | (with_reducible refine Kd.C_drewN ?_ _) | (with_reducible refine Kd.C_drew ?_))); (case side4 => exact (Kd.R_reads' HO177.out).2.1); (case side5 => repeat (first | exact (Kd.R_reads' HO177.out).2.2 | (with_reducible refine Kd.C_alloc ?_ _) | (with_reducible refine Kd.C_drewN ?_ _) | (with_reducible refine Kd.C_drew ?_))); (case side6 => exact (Kd.R_reads' HO177.out).2.1); rintro e w14 ⟨v182, rfl, ho0, hb⟩; refine ⟨_, rfl, ?_⟩; have n0_ := Aside0.mk (Kd.R_below (by (with_reducible repeat (first | apply Kd.R_alloc | apply Kd.R_drewN | apply Kd.R_drew)); exact HO177.out) hb); have n1_ := Aside0.mk (Kd.R_below (by (with_reducible repeat (first | apply Kd.R_alloc | apply Kd.R_drewN | apply Kd.R_drew)); exact HO180.out) hb); have n2_ := Aside0.mk (Kd.S_lower (Kd.S_new' (Kd.S_new' ho0 (Kd.R_lt (by (with_reducible repeat (first | apply Kd.R_alloc | apply Kd.R_drewN | apply Kd.R_drew)); exact HO177.out))) (Kd.R_lt (by (with_reducible repeat (first | apply Kd.R_alloc | apply Kd.R_drewN | apply Kd.R_drew)); exact HO180.out))) (below_size (by repeat (first | (with_reducible first | exact HB.out | apply below_alloc | apply pw_below_drewN | apply below_drew1) | exact HB.out)))); have n3_ := Aside0.mk (below_step (by repeat (first | (with_reducible first | exact HB.out | apply below_alloc | apply pw_below_drewN | apply below_drew1) | exact HB.out)) hb); clear HO177; clear HO180; clear HB; have HO177 := n0_; have HO180 := n1_; have HO183 := n2_; have HB := n3_; clear n0_ n1_ n2_ n3_; (try clear hb); (try clear hb2); (try clear hk); (try clear hi); (try clear ho0); obtain ⟨Ao15, co15, eo15⟩ := Kd.S_slice HO183.out; subst eo15; have p184 : 0 ≤ (1 : Int) := (by omega); have q184 : 1 < (t181.length : Int) := of_decide_eq_true (by first | (with_reducible assumption) | assumption); obtain ⟨ad184, A184_0, c184_0, e184, hx184_0, hx184_1, hx184_2, hx184_3, hl184_0, hi184_0⟩ := at_T42 (Kd.S_reads' HO183.out).2.2 1 p184 q184; cases e184; obtain ⟨ce184, hce184, hMe184, hcc184⟩ := Kd.S_get HO183.out z42 1 p184 (by first | exact q184 | exact of_decide_eq_true (by first | (with_reducible assumption) | assumption) | (have e_ := (Kd.S_reads' HO183.out).1; omega)); obtain ⟨ve184_0, rfl, ge184_0⟩ := k42_openM hMe184; have hv184_0 := hcc184 0 _ rfl; rw [Nat.add_zero] at hv184_0; replace hv184_0 := Option.some.inj (hv184_0.symm.trans hx184_0); rw [hv184_0] at ge184_0; have HL184_0 := Aside0.mk (show Kd.R (Kd.int .i64) 3 _ _ _ _ ((rd_T42 t181 1).f0) from ge184_0); clear hv184_0 ge184_0; clear hcc184 hce184; (try simp only [show (1 : Int).toNat = 1 from rfl, Nat.reduceMul, Nat.reduceEqDiff, Go.Addr.add, ↓reduceIte] at hx184_0); (try simp only [show (1 : Int).toNat = 1 from rfl, Nat.reduceMul, Nat.reduceEqDiff, Go.Addr.add, ↓reduceIte] at hx184_1); (try simp only [show (1 : Int).toNat = 1 from rfl, Nat.reduceMul, Nat.reduceEqDiff, Go.Addr.add, ↓reduceIte] at hx184_2); (try simp only [show (1 : Int).toNat = 1 from rfl, Nat.reduceMul, Nat.reduceEqDiff, Go.Addr.add, ↓reduceIte] at hx184_3); have qi184 : (1 < t181.length) = True := eq_true (by omega); (try rw [show ((1 : Int)).toNat = 1 from rfl] at hx184_0); (try rw [show 1 * 4 = 4 from rfl] at hx184_0); (try rw [show ((1 : Int)).toNat = 1 from rfl] at hx184_1); (try rw [show 1 * 4 = 4 from rfl] at hx184_1); (try rw [show ((1 : Int)).toNat = 1 from rfl] at hx184_2); (try rw [show 1 * 4 = 4 from rfl] at hx184_2); (try rw [show ((1 : Int)).toNat = 1 from rfl] at hx184_3); (try rw [show 1 * 4 = 4 from rfl] at hx184_3); have HR184_0 := Aside0.mk hi184_0; have HC184_0 := Aside0.mk hl184_0; clear hi184_0 hl184_0; replace p184 := eq_true p184; replace q184 := eq_true q184) | ((with_reducible refine gate_dst (N := 16) rfl ?_); (try (refine gate_guard (by rfl) ?_; dsimp only)); refine Kd.R_lit (Kd.int .i64) _ 3 ?hg (N := 16) ?hd (xs := ([1] : List Int)) (inner := [.int .i64 1]) (ok := fun _ => True) (okp := fun _ => True) ?hr ?hp (fun _ hk => hk) trivial (Below.refl _ _) (Nat.le_refl _) (by simp) ?_; (case hd => rfl); (case hg => rfl); (case hr => first | (go_simp; done) | (go_simp; rfl)); (case hp => exact (Reps.one (show Kd.M (Kd.int .i64) _ _ _ 1 [.int .i64 1] from rfl) (Reps.none _ _))); intro v186 w16 ho17 hb hg_ hnew_; clear hg_ hnew_; (first | rw [← Ny185.out] at ho17 | (simp only [Int.reduceToNat] at ho17; rw [← Ny185.out] at ho17)); have n0_ := Aside0.mk (Kd.R_elder' (by (with_reducible repeat (first | apply Kd.R_alloc | apply Kd.R_drewN | apply Kd.R_drew)); exact HO177.out) (Kd.R_base ho17) hb); have n1_ := Aside0.mk (Kd.R_elder' (by (with_reducible repeat (first | apply Kd.R_alloc | apply Kd.R_drewN | apply Kd.R_drew)); exact HO180.out) (Kd.R_base ho17) hb); have n2_ := Aside0.mk (Kd.S_elder' (by (with_reducible repeat (first | apply Kd.S_alloc | apply Kd.S_drewN | apply Kd.S_drew)); exact HO183.out) (Kd.R_base ho17) hb); have n3_ := Aside0.mk (Kd.R_elder' (by (with_reducible repeat (first | apply Kd.R_alloc | apply Kd.R_drewN | apply Kd.R_drew)); exact HL184_0.out) (Kd.R_base ho17) hb); have n4_ := Aside0.mk (Kd.R_lower (Kd.R_new' (Kd.R_new' (Kd.R_new' ho17 (Kd.R_lt (by (with_reducible repeat (first | apply Kd.R_alloc | apply Kd.R_drewN | apply Kd.R_drew)); exact HO177.out))) (Kd.R_lt (by (with_reducible repeat (first | apply Kd.R_alloc | apply Kd.R_drewN | apply Kd.R_drew)); exact HO180.out))) (Kd.R_lt (by (with_reducible repeat (first | apply Kd.R_alloc | apply Kd.R_drewN | apply Kd.R_drew)); exact HL184_0.out))) (below_size (by repeat (first | (with_reducible first | exact HB.out | apply below_alloc | apply pw_below_drewN | apply below_drew1) | exact HB.out)))); have n5_ := Aside0.mk (Kd.C_below (by repeat (first | (with_reducible exact HR184_0.out) | (with_reducible refine Kd.C_alloc ?_ _) | (with_reducible refine Kd.C_drewN ?_ _) | (with_reducible refine Kd.C_drew ?_) | exact HR184_0.out)) hb); have n6_ := Aside0.mk (below_step (by repeat (first | (with_reducible first | exact HB.out | apply below_alloc | apply pw_below_drewN | apply below_drew1) | exact HB.out)) hb); clear HO177; clear HO180; clear HO183; clear HL184_0; clear HR184_0; clear HB; have HO177 := n0_; have HO180 := n1_; have HO183 := n2_; have HL184_0 := n3_; have HO187 := n4_; have HR184_0 := n5_; have HB := n6_; clear n0_ n1_ n2_ n3_ n4_ n5_ n6_; clear hb ho17; obtain ⟨Ao18, co18, eo18⟩ := Kd.R_slice HO187.out; subst eo18) | (go_at_call 19; (with_reducible refine (slices_Equal_int_int.calls k _ _ ((rd_T42 t181 1).f0) _ _ y185 true _ ?side1 ?side2 ?side3 ?side4 A4.out).mono ?_); (case side1 => repeat (first | exact (by repeat (first | (with_reducible exact HR184_0.out) | (with_reducible refine Kd.C_alloc ?_ _) | (with_reducible refine Kd.C_drewN ?_ _) | (with_reducible refine Kd.C_drew ?_) | exact HR184_0.out)) | (with_reducible refine Kd.C_alloc ?_ _) | (with_reducible refine Kd.C_drewN ?_ _) | (with_reducible refine Kd.C_drew ?_))); (case side2 => exact HC184_0.out); (case side3 => repeat (first | exact (Kd.R_reads' HO187.out).2.2 | (with_reducible refine Kd.C_alloc ?_ _) | (with_reducible refine Kd.C_drewN ?_ _) | (with_reducible refine Kd.C_drew ?_))); (case side4 => exact (Kd.R_reads' HO187.out).2.1); rintro e w' ⟨rfl, ⟨nd, rfl⟩⟩; have p189 : 0 ≤ (1 : Int) := (by omega); have q189 : 1 < (t181.length : Int) := of_decide_eq_true (by first | (with_reducible assumption) | assumption); obtain ⟨ad189, A189_0, c189_0, e189, hx189_0, hx189_1, hx189_2, hx189_3, hl189_0, hi189_0⟩ := at_T42 (Kd.S_reads' HO183.out).2.2 1 p189 q189; obtain rfl : ad184 = ad189 := (by injection e189); obtain ⟨ce189, hce189, hMe189, hcc189⟩ := Kd.S_get HO183.out z42 1 p189 (by first | exact q189 | exact of_decide_eq_true (by first | (with_reducible assumption) | assumption) | (have e_ := (Kd.S_reads' HO183.out).1; omega)); obtain ⟨ve189_0, rfl, ge189_0⟩ := k42_openM hMe189; have hv189_0 := hcc189 0 _ rfl; rw [Nat.add_zero] at hv189_0; replace hv189_0 := Option.some.inj (hv189_0.symm.trans hx189_0); rw [hv189_0] at ge189_0; have HL189_0 := Aside0.mk (show Kd.R (Kd.int .i64) 3 _ _ _ _ ((rd_T42 t181 1).f0) from ge189_0); clear hv189_0 ge189_0; clear hcc189 hce189; (try simp only [show (1 : Int).toNat = 1 from rfl, Nat.reduceMul, Nat.reduceEqDiff, Go.Addr.add, ↓reduceIte] at hx189_0); (try simp only [show (1 : Int).toNat = 1 from rfl, Nat.reduceMul, Nat.reduceEqDiff, Go.Addr.add, ↓reduceIte] at hx189_1); (try simp only [show (1 : Int).toNat = 1 from rfl, Nat.reduceMul, Nat.reduceEqDiff, Go.Addr.add, ↓reduceIte] at hx189_2); (try simp only [show (1 : Int).toNat = 1 from rfl, Nat.reduceMul, Nat.reduceEqDiff, Go.Addr.add, ↓reduceIte] at hx189_3); have qi189 : (1 < t181.length) = True := eq_true (by omega); (try rw [show ((1 : Int)).toNat = 1 from rfl] at hx189_0); (try rw [show 1 * 4 = 4 from rfl] at hx189_0); (try rw [show ((1 : Int)).toNat = 1 from rfl] at hx189_1); (try rw [show 1 * 4 = 4 from rfl] at hx189_1); (try rw [show ((1 : Int)).toNat = 1 from rfl] at hx189_2); (try rw [show 1 * 4 = 4 from rfl] at hx189_2); (try rw [show ((1 : Int)).toNat = 1 from rfl] at hx189_3); (try rw [show 1 * 4 = 4 from rfl] at hx189_3); have HR189_0 := Aside0.mk hi189_0; have HC189_0 := Aside0.mk hl189_0; clear hi189_0 hl189_0; replace p189 := eq_true p189; replace q189 := eq_true q189; have p190 : 0 ≤ (1 : Int) := (by omega); have q190 : 1 < (t181.length : Int) := of_decide_eq_true (by first | (with_reducible assumption) | assumption); obtain ⟨ad190, A190_0, c190_0, e190, hx190_0, hx190_1, hx190_2, hx190_3, hl190_0, hi190_0⟩ := at_T42 (Kd.S_reads' HO183.out).2.2 1 p190 q190; obtain rfl : ad184 = ad190 := (by injection e190); obtain ⟨ce190, hce190, hMe190, hcc190⟩ := Kd.S_get HO183.out z42 1 p190 (by first | exact q190 | exact of_decide_eq_true (by first | (with_reducible assumption) | assumption) | (have e_ := (Kd.S_reads' HO183.out).1; omega)); obtain ⟨ve190_0, rfl, ge190_0⟩ := k42_openM hMe190; have hv190_0 := hcc190 0 _ rfl; rw [Nat.add_zero] at hv190_0; replace hv190_0 := Option.some.inj (hv190_0.symm.trans hx190_0); rw [hv190_0] at ge190_0; have HL190_0 := Aside0.mk (show Kd.R (Kd.int .i64) 3 _ _ _ _ ((rd_T42 t181 1).f0) from ge190_0); clear hv190_0 ge190_0; clear hcc190 hce190; (try simp only [show (1 : Int).toNat = 1 from rfl, Nat.reduceMul, Nat.reduceEqDiff, Go.Addr.add, ↓reduceIte] at hx190_0); (try simp only [show (1 : Int).toNat = 1 from rfl, Nat.reduceMul, Nat.reduceEqDiff, Go.Addr.add, ↓reduceIte] at hx190_1); (try simp only [show (1 : Int).toNat = 1 from rfl, Nat.reduceMul, Nat.reduceEqDiff, Go.Addr.add, ↓reduceIte] at hx190_2); (try simp only [show (1 : Int).toNat = 1 from rfl, Nat.reduceMul, Nat.reduceEqDiff, Go.Addr.add, ↓reduceIte] at hx190_3); have qi190 : (1 < t181.length) = True := eq_true (by omega); (try rw [show ((1 : Int)).toNat = 1 from rfl] at hx190_0); (try rw [show 1 * 4 = 4 from rfl] at hx190_0); (try rw [show ((1 : Int)).toNat = 1 from rfl] at hx190_1); (try rw [show 1 * 4 = 4 from rfl] at hx190_1); (try rw [show ((1 : Int)).toNat = 1 from rfl] at hx190_2); (try rw [show 1 * 4 = 4 from rfl] at hx190_2); (try rw [show ((1 : Int)).toNat = 1 from rfl] at hx190_3); (try rw [show 1 * 4 = 4 from rfl] at hx190_3); have HR190_0 := Aside0.mk hi190_0; have HC190_0 := Aside0.mk hl190_0; clear hi190_0 hl190_0; replace p190 := eq_true p190; replace q190 := eq_true q190; have ea_ := Option.some.inj (hx189_0.symm.trans hx190_0); injection ea_ with ea_ en_ ec_; subst ea_; subst ec_; clear en_; have p191 : 0 ≤ (1 : Int) := (by omega); have q191 : 1 < (t181.length : Int) := of_decide_eq_true (by first | (with_reducible assumption) | assumption); obtain ⟨ad191, A191_0, c191_0, e191, hx191_0, hx191_1, hx191_2, hx191_3, hl191_0, hi191_0⟩ := at_T42 (Kd.S_reads' HO183.out).2.2 1 p191 q191; obtain rfl : ad184 = ad191 := (by injection e191); obtain ⟨ce191, hce191, hMe191, hcc191⟩ := Kd.S_get HO183.out z42 1 p191 (by first | exact q191 | exact of_decide_eq_true (by first | (with_reducible assumption) | assumption) | (have e_ := (Kd.S_reads' HO183.out).1; omega)); obtain ⟨ve191_0, rfl, ge191_0⟩ := k42_openM hMe191; have hv191_0 := hcc191 0 _ rfl; rw [Nat.add_zero] at hv191_0; replace hv191_0 := Option.some.inj (hv191_0.symm.trans hx191_0); rw [hv191_0] at ge191_0; have HL191_0 := Aside0.mk (show Kd.R (Kd.int .i64) 3 _ _ _ _ ((rd_T42 t181 1).f0) from ge191_0); clear hv191_0 ge191_0; clear hcc191 hce191; (try simp only [show (1 : Int).toNat = 1 from rfl, Nat.reduceMul, Nat.reduceEqDiff, Go.Addr.add, ↓reduceIte] at hx191_0); (try simp only [show (1 : Int).toNat = 1 from rfl, Nat.reduceMul, Nat.reduceEqDiff, Go.Addr.add, ↓reduceIte] at hx191_1); (try simp only [show (1 : Int).toNat = 1 from rfl, Nat.reduceMul, Nat.reduceEqDiff, Go.Addr.add, ↓reduceIte] at hx191_2); (try simp only [show (1 : Int).toNat = 1 from rfl, Nat.reduceMul, Nat.reduceEqDiff, Go.Addr.add, ↓reduceIte] at hx191_3); have qi191 : (1 < t181.length) = True := eq_true (by omega); (try rw [show ((1 : Int)).toNat = 1 from rfl] at hx191_0); (try rw [show 1 * 4 = 4 from rfl] at hx191_0); (try rw [show ((1 : Int)).toNat = 1 from rfl] at hx191_1); (try rw [show 1 * 4 = 4 from rfl] at hx191_1); (try rw [show ((1 : Int)).toNat = 1 from rfl] at hx191_2); (try rw [show 1 * 4 = 4 from rfl] at hx191_2); (try rw [show ((1 : Int)).toNat = 1 from rfl] at hx191_3); (try rw [show 1 * 4 = 4 from rfl] at hx191_3); have HR191_0 := Aside0.mk hi191_0; have HC191_0 := Aside0.mk hl191_0; clear hi191_0 hl191_0; replace p191 := eq_true p191; replace q191 := eq_true q191; have ea_ := Option.some.inj (hx189_0.symm.trans hx191_0); injection ea_ with ea_ en_ ec_; subst ea_; subst ec_; clear en_))
            go_ret
            exact ⟨by first | rfl | (simp [errW_none, errW_some] <;> rfl) | (simp [*, errW_none, errW_some] <;> rfl), by repeat (first | (with_reducible first | exact HB.out | apply below_alloc | apply pw_below_drewN | apply below_drew1) | exact HB.out)⟩
          · rw [if_neg c7] at H
            have c7b0 : (((rd_T42 t181 1).f3) == 1) = false := beq_eq_false_iff_ne.mpr c7
            have c7b1 : (((rd_T42 t181 1).f3) != 1) = true := bne_iff_ne.mpr c7
            obtain rfl := Option.some.inj H
            go_enter Try.func10, Try.ntmps10
            go_wp2_with (first | ((with_reducible refine gate_dst (N := 3) rfl ?_); (try (refine gate_guard (by rfl) ?_; dsimp only)); refine Kd.R_lit (Kd.int .i64) _ 3 ?hg (N := 3) ?hd (xs := ([0, 1, 0] : List Int)) (inner := [.int .i64 0, .int .i64 1, .int .i64 0]) (ok := fun _ => True) (okp := fun _ => True) ?hr ?hp (fun _ hk => hk) trivial (Below.refl _ _) (Nat.le_refl _) (by simp) ?_; (case hd => rfl); (case hg => rfl); (case hr => first | (go_simp; done) | (go_simp; rfl)); (case hp => exact (Reps.one (show Kd.M (Kd.int .i64) _ _ _ 0 [.int .i64 0] from rfl) (Reps.one (show Kd.M (Kd.int .i64) _ _ _ 1 [.int .i64 1] from rfl) (Reps.one (show Kd.M (Kd.int .i64) _ _ _ 0 [.int .i64 0] from rfl) (Reps.none _ _))))); intro v176 w19 ho20 hb hg_ hnew_; clear hg_ hnew_; (first | rw [← Ny175.out] at ho20 | (simp only [Int.reduceToNat] at ho20; rw [← Ny175.out] at ho20)); have n0_ := Aside0.mk (Kd.R_lower ho20 (below_size (by repeat (first | (with_reducible first | exact HB.out | apply below_alloc | apply pw_below_drewN | apply below_drew1) | exact HB.out)))); have n1_ := Aside0.mk (below_step (by repeat (first | (with_reducible first | exact HB.out | apply below_alloc | apply pw_below_drewN | apply below_drew1) | exact HB.out)) hb); clear HB; have HO177 := n0_; have HB := n1_; clear n0_ n1_; clear hb ho20) | ((with_reducible refine gate_dst (N := 4) rfl ?_); (try (refine gate_guard (by rfl) ?_; dsimp only)); refine Kd.R_lit (Kd.int .i64) _ 3 ?hg (N := 4) ?hd (xs := ([0, 1, 0] : List Int)) (inner := [.int .i64 0, .int .i64 1, .int .i64 0]) (ok := fun _ => True) (okp := fun _ => True) ?hr ?hp (fun _ hk => hk) trivial (Below.refl _ _) (Nat.le_refl _) (by simp) ?_; (case hd => rfl); (case hg => rfl); (case hr => first | (go_simp; done) | (go_simp; rfl)); (case hp => exact (Reps.one (show Kd.M (Kd.int .i64) _ _ _ 0 [.int .i64 0] from rfl) (Reps.one (show Kd.M (Kd.int .i64) _ _ _ 1 [.int .i64 1] from rfl) (Reps.one (show Kd.M (Kd.int .i64) _ _ _ 0 [.int .i64 0] from rfl) (Reps.none _ _))))); intro v179 w21 ho22 hb hg_ hnew_; clear hg_ hnew_; (first | rw [← Ny178.out] at ho22 | (simp only [Int.reduceToNat] at ho22; rw [← Ny178.out] at ho22)); have n0_ := Aside0.mk (Kd.R_elder' (by (with_reducible repeat (first | apply Kd.R_alloc | apply Kd.R_drewN | apply Kd.R_drew)); exact HO177.out) (Kd.R_base ho22) hb); have n1_ := Aside0.mk (Kd.R_lower (Kd.R_new' ho22 (Kd.R_lt (by (with_reducible repeat (first | apply Kd.R_alloc | apply Kd.R_drewN | apply Kd.R_drew)); exact HO177.out))) (below_size (by repeat (first | (with_reducible first | exact HB.out | apply below_alloc | apply pw_below_drewN | apply below_drew1) | exact HB.out)))); have n2_ := Aside0.mk (below_step (by repeat (first | (with_reducible first | exact HB.out | apply below_alloc | apply pw_below_drewN | apply below_drew1) | exact HB.out)) hb); clear HO177; clear HB; have HO177 := n0_; have HO180 := n1_; have HB := n2_; clear n0_ n1_ n2_; clear hb ho22; obtain ⟨Ao23, co23, eo23⟩ := Kd.R_slice HO180.out; subst eo23; obtain ⟨Ao24, co24, eo24⟩ := Kd.R_slice HO177.out; subst eo24) | ((with_reducible refine gate_callee (f := 13) rfl ?_); refine goesL_ (some 7) rfl rfl Try.func13 (by kernel_rfl) rfl #[.slice Ao23 y178.length co23, .slice Ao24 y175.length co24, .slice Ao24 y175.length co24, .int .i64 0] rfl (by (try simp only [List.map_toArray, List.map_cons, List.map_nil]); first | done | rfl | (simp only [List.length_drop, List.length_take]; rfl)) ?_; (with_reducible refine (seq_Sequences.calls k _ _ y178 _ _ y175 _ _ y175 0 t181 _ ?side1 ?side2 ?side3 ?side4 ?side5 ?side6 A1.out).mono ?_); (case side1 => repeat (first | exact (Kd.R_reads' HO180.out).2.2 | (with_reducible refine Kd.C_alloc ?_ _) | (with_reducible refine Kd.C_drewN ?_ _) | (with_reducible refine Kd.C_drew ?_))); (case side2 => exact (Kd.R_reads' HO180.out).2.1); (case side3 => repeat (first | exact (Kd.R_reads' HO177.out).2.2 | (with_reducible refine Kd.C_alloc ?_ _) | (with_reducible refine Kd.C_drewN ?_ _) | (with_reducible refine Kd.C_drew ?_))); (case side4 => exact (Kd.R_reads' HO177.out).2.1); (case side5 => repeat (first | exact (Kd.R_reads' HO177.out).2.2 | (with_reducible refine Kd.C_alloc ?_ _) | (with_reducible refine Kd.C_drewN ?_ _) | (with_reducible refine Kd.C_drew ?_))); (case side6 => exact (Kd.R_reads' HO177.out).2.1); rintro e w25 ⟨v182, rfl, ho0, hb⟩; refine ⟨_, rfl, ?_⟩; have n0_ := Aside0.mk (Kd.R_below (by (with_reducible repeat (first | apply Kd.R_alloc | apply Kd.R_drewN | apply Kd.R_drew)); exact HO177.out) hb); have n1_ := Aside0.mk (Kd.R_below (by (with_reducible repeat (first | apply Kd.R_alloc | apply Kd.R_drewN | apply Kd.R_drew)); exact HO180.out) hb); have n2_ := Aside0.mk (Kd.S_lower (Kd.S_new' (Kd.S_new' ho0 (Kd.R_lt (by (with_reducible repeat (first | apply Kd.R_alloc | apply Kd.R_drewN | apply Kd.R_drew)); exact HO177.out))) (Kd.R_lt (by (with_reducible repeat (first | apply Kd.R_alloc | apply Kd.R_drewN | apply Kd.R_drew)); exact HO180.out))) (below_size (by repeat (first | (with_reducible first | exact HB.out | apply below_alloc | apply pw_below_drewN | apply below_drew1) | exact HB.out)))); have n3_ := Aside0.mk (below_step (by repeat (first | (with_reducible first | exact HB.out | apply below_alloc | apply pw_below_drewN | apply below_drew1) | exact HB.out)) hb); clear HO177; clear HO180; clear HB; have HO177 := n0_; have HO180 := n1_; have HO183 := n2_; have HB := n3_; clear n0_ n1_ n2_ n3_; (try clear hb); (try clear hb2); (try clear hk); (try clear hi); (try clear ho0); obtain ⟨Ao26, co26, eo26⟩ := Kd.S_slice HO183.out; subst eo26; have p184 : 0 ≤ (1 : Int) := (by omega); have q184 : 1 < (t181.length : Int) := of_decide_eq_true (by first | (with_reducible assumption) | assumption); obtain ⟨ad184, A184_0, c184_0, e184, hx184_0, hx184_1, hx184_2, hx184_3, hl184_0, hi184_0⟩ := at_T42 (Kd.S_reads' HO183.out).2.2 1 p184 q184; cases e184; obtain ⟨ce184, hce184, hMe184, hcc184⟩ := Kd.S_get HO183.out z42 1 p184 (by first | exact q184 | exact of_decide_eq_true (by first | (with_reducible assumption) | assumption) | (have e_ := (Kd.S_reads' HO183.out).1; omega)); obtain ⟨ve184_0, rfl, ge184_0⟩ := k42_openM hMe184; have hv184_0 := hcc184 0 _ rfl; rw [Nat.add_zero] at hv184_0; replace hv184_0 := Option.some.inj (hv184_0.symm.trans hx184_0); rw [hv184_0] at ge184_0; have HL184_0 := Aside0.mk (show Kd.R (Kd.int .i64) 3 _ _ _ _ ((rd_T42 t181 1).f0) from ge184_0); clear hv184_0 ge184_0; clear hcc184 hce184; (try simp only [show (1 : Int).toNat = 1 from rfl, Nat.reduceMul, Nat.reduceEqDiff, Go.Addr.add, ↓reduceIte] at hx184_0); (try simp only [show (1 : Int).toNat = 1 from rfl, Nat.reduceMul, Nat.reduceEqDiff, Go.Addr.add, ↓reduceIte] at hx184_1); (try simp only [show (1 : Int).toNat = 1 from rfl, Nat.reduceMul, Nat.reduceEqDiff, Go.Addr.add, ↓reduceIte] at hx184_2); (try simp only [show (1 : Int).toNat = 1 from rfl, Nat.reduceMul, Nat.reduceEqDiff, Go.Addr.add, ↓reduceIte] at hx184_3); have qi184 : (1 < t181.length) = True := eq_true (by omega); (try rw [show ((1 : Int)).toNat = 1 from rfl] at hx184_0); (try rw [show 1 * 4 = 4 from rfl] at hx184_0); (try rw [show ((1 : Int)).toNat = 1 from rfl] at hx184_1); (try rw [show 1 * 4 = 4 from rfl] at hx184_1); (try rw [show ((1 : Int)).toNat = 1 from rfl] at hx184_2); (try rw [show 1 * 4 = 4 from rfl] at hx184_2); (try rw [show ((1 : Int)).toNat = 1 from rfl] at hx184_3); (try rw [show 1 * 4 = 4 from rfl] at hx184_3); have HR184_0 := Aside0.mk hi184_0; have HC184_0 := Aside0.mk hl184_0; clear hi184_0 hl184_0; replace p184 := eq_true p184; replace q184 := eq_true q184) | ((with_reducible refine gate_dst (N := 16) rfl ?_); (try (refine gate_guard (by rfl) ?_; dsimp only)); refine Kd.R_lit (Kd.int .i64) _ 3 ?hg (N := 16) ?hd (xs := ([1] : List Int)) (inner := [.int .i64 1]) (ok := fun _ => True) (okp := fun _ => True) ?hr ?hp (fun _ hk => hk) trivial (Below.refl _ _) (Nat.le_refl _) (by simp) ?_; (case hd => rfl); (case hg => rfl); (case hr => first | (go_simp; done) | (go_simp; rfl)); (case hp => exact (Reps.one (show Kd.M (Kd.int .i64) _ _ _ 1 [.int .i64 1] from rfl) (Reps.none _ _))); intro v186 w27 ho28 hb hg_ hnew_; clear hg_ hnew_; (first | rw [← Ny185.out] at ho28 | (simp only [Int.reduceToNat] at ho28; rw [← Ny185.out] at ho28)); have n0_ := Aside0.mk (Kd.R_elder' (by (with_reducible repeat (first | apply Kd.R_alloc | apply Kd.R_drewN | apply Kd.R_drew)); exact HO177.out) (Kd.R_base ho28) hb); have n1_ := Aside0.mk (Kd.R_elder' (by (with_reducible repeat (first | apply Kd.R_alloc | apply Kd.R_drewN | apply Kd.R_drew)); exact HO180.out) (Kd.R_base ho28) hb); have n2_ := Aside0.mk (Kd.S_elder' (by (with_reducible repeat (first | apply Kd.S_alloc | apply Kd.S_drewN | apply Kd.S_drew)); exact HO183.out) (Kd.R_base ho28) hb); have n3_ := Aside0.mk (Kd.R_elder' (by (with_reducible repeat (first | apply Kd.R_alloc | apply Kd.R_drewN | apply Kd.R_drew)); exact HL184_0.out) (Kd.R_base ho28) hb); have n4_ := Aside0.mk (Kd.R_lower (Kd.R_new' (Kd.R_new' (Kd.R_new' ho28 (Kd.R_lt (by (with_reducible repeat (first | apply Kd.R_alloc | apply Kd.R_drewN | apply Kd.R_drew)); exact HO177.out))) (Kd.R_lt (by (with_reducible repeat (first | apply Kd.R_alloc | apply Kd.R_drewN | apply Kd.R_drew)); exact HO180.out))) (Kd.R_lt (by (with_reducible repeat (first | apply Kd.R_alloc | apply Kd.R_drewN | apply Kd.R_drew)); exact HL184_0.out))) (below_size (by repeat (first | (with_reducible first | exact HB.out | apply below_alloc | apply pw_below_drewN | apply below_drew1) | exact HB.out)))); have n5_ := Aside0.mk (Kd.C_below (by repeat (first | (with_reducible exact HR184_0.out) | (with_reducible refine Kd.C_alloc ?_ _) | (with_reducible refine Kd.C_drewN ?_ _) | (with_reducible refine Kd.C_drew ?_) | exact HR184_0.out)) hb); have n6_ := Aside0.mk (below_step (by repeat (first | (with_reducible first | exact HB.out | apply below_alloc | apply pw_below_drewN | apply below_drew1) | exact HB.out)) hb); clear HO177; clear HO180; clear HO183; clear HL184_0; clear HR184_0; clear HB; have HO177 := n0_; have HO180 := n1_; have HO183 := n2_; have HL184_0 := n3_; have HO187 := n4_; have HR184_0 := n5_; have HB := n6_; clear n0_ n1_ n2_ n3_ n4_ n5_ n6_; clear hb ho28; obtain ⟨Ao29, co29, eo29⟩ := Kd.R_slice HO187.out; subst eo29) | (go_at_call 19; (with_reducible refine (slices_Equal_int_int.calls k _ _ ((rd_T42 t181 1).f0) _ _ y185 true _ ?side1 ?side2 ?side3 ?side4 A4.out).mono ?_); (case side1 => repeat (first | exact (by repeat (first | (with_reducible exact HR184_0.out) | (with_reducible refine Kd.C_alloc ?_ _) | (with_reducible refine Kd.C_drewN ?_ _) | (with_reducible refine Kd.C_drew ?_) | exact HR184_0.out)) | (with_reducible refine Kd.C_alloc ?_ _) | (with_reducible refine Kd.C_drewN ?_ _) | (with_reducible refine Kd.C_drew ?_))); (case side2 => exact HC184_0.out); (case side3 => repeat (first | exact (Kd.R_reads' HO187.out).2.2 | (with_reducible refine Kd.C_alloc ?_ _) | (with_reducible refine Kd.C_drewN ?_ _) | (with_reducible refine Kd.C_drew ?_))); (case side4 => exact (Kd.R_reads' HO187.out).2.1); rintro e w' ⟨rfl, ⟨nd, rfl⟩⟩; have p189 : 0 ≤ (1 : Int) := (by omega); have q189 : 1 < (t181.length : Int) := of_decide_eq_true (by first | (with_reducible assumption) | assumption); obtain ⟨ad189, A189_0, c189_0, e189, hx189_0, hx189_1, hx189_2, hx189_3, hl189_0, hi189_0⟩ := at_T42 (Kd.S_reads' HO183.out).2.2 1 p189 q189; obtain rfl : ad184 = ad189 := (by injection e189); obtain ⟨ce189, hce189, hMe189, hcc189⟩ := Kd.S_get HO183.out z42 1 p189 (by first | exact q189 | exact of_decide_eq_true (by first | (with_reducible assumption) | assumption) | (have e_ := (Kd.S_reads' HO183.out).1; omega)); obtain ⟨ve189_0, rfl, ge189_0⟩ := k42_openM hMe189; have hv189_0 := hcc189 0 _ rfl; rw [Nat.add_zero] at hv189_0; replace hv189_0 := Option.some.inj (hv189_0.symm.trans hx189_0); rw [hv189_0] at ge189_0; have HL189_0 := Aside0.mk (show Kd.R (Kd.int .i64) 3 _ _ _ _ ((rd_T42 t181 1).f0) from ge189_0); clear hv189_0 ge189_0; clear hcc189 hce189; (try simp only [show (1 : Int).toNat = 1 from rfl, Nat.reduceMul, Nat.reduceEqDiff, Go.Addr.add, ↓reduceIte] at hx189_0); (try simp only [show (1 : Int).toNat = 1 from rfl, Nat.reduceMul, Nat.reduceEqDiff, Go.Addr.add, ↓reduceIte] at hx189_1); (try simp only [show (1 : Int).toNat = 1 from rfl, Nat.reduceMul, Nat.reduceEqDiff, Go.Addr.add, ↓reduceIte] at hx189_2); (try simp only [show (1 : Int).toNat = 1 from rfl, Nat.reduceMul, Nat.reduceEqDiff, Go.Addr.add, ↓reduceIte] at hx189_3); have qi189 : (1 < t181.length) = True := eq_true (by omega); (try rw [show ((1 : Int)).toNat = 1 from rfl] at hx189_0); (try rw [show 1 * 4 = 4 from rfl] at hx189_0); (try rw [show ((1 : Int)).toNat = 1 from rfl] at hx189_1); (try rw [show 1 * 4 = 4 from rfl] at hx189_1); (try rw [show ((1 : Int)).toNat = 1 from rfl] at hx189_2); (try rw [show 1 * 4 = 4 from rfl] at hx189_2); (try rw [show ((1 : Int)).toNat = 1 from rfl] at hx189_3); (try rw [show 1 * 4 = 4 from rfl] at hx189_3); have HR189_0 := Aside0.mk hi189_0; have HC189_0 := Aside0.mk hl189_0; clear hi189_0 hl189_0; replace p189 := eq_true p189; replace q189 := eq_true q189; have p190 : 0 ≤ (1 : Int) := (by omega); have q190 : 1 < (t181.length : Int) := of_decide_eq_true (by first | (with_reducible assumption) | assumption); obtain ⟨ad190, A190_0, c190_0, e190, hx190_0, hx190_1, hx190_2, hx190_3, hl190_0, hi190_0⟩ := at_T42 (Kd.S_reads' HO183.out).2.2 1 p190 q190; obtain rfl : ad184 = ad190 := (by injection e190); obtain ⟨ce190, hce190, hMe190, hcc190⟩ := Kd.S_get HO183.out z42 1 p190 (by first | exact q190 | exact of_decide_eq_true (by first | (with_reducible assumption) | assumption) | (have e_ := (Kd.S_reads' HO183.out).1; omega)); obtain ⟨ve190_0, rfl, ge190_0⟩ := k42_openM hMe190; have hv190_0 := hcc190 0 _ rfl; rw [Nat.add_zero] at hv190_0; replace hv190_0 := Option.some.inj (hv190_0.symm.trans hx190_0); rw [hv190_0] at ge190_0; have HL190_0 := Aside0.mk (show Kd.R (Kd.int .i64) 3 _ _ _ _ ((rd_T42 t181 1).f0) from ge190_0); clear hv190_0 ge190_0; clear hcc190 hce190; (try simp only [show (1 : Int).toNat = 1 from rfl, Nat.reduceMul, Nat.reduceEqDiff, Go.Addr.add, ↓reduceIte] at hx190_0); (try simp only [show (1 : Int).toNat = 1 from rfl, Nat.reduceMul, Nat.reduceEqDiff, Go.Addr.add, ↓reduceIte] at hx190_1); (try simp only [show (1 : Int).toNat = 1 from rfl, Nat.reduceMul, Nat.reduceEqDiff, Go.Addr.add, ↓reduceIte] at hx190_2); (try simp only [show (1 : Int).toNat = 1 from rfl, Nat.reduceMul, Nat.reduceEqDiff, Go.Addr.add, ↓reduceIte] at hx190_3); have qi190 : (1 < t181.length) = True := eq_true (by omega); (try rw [show ((1 : Int)).toNat = 1 from rfl] at hx190_0); (try rw [show 1 * 4 = 4 from rfl] at hx190_0); (try rw [show ((1 : Int)).toNat = 1 from rfl] at hx190_1); (try rw [show 1 * 4 = 4 from rfl] at hx190_1); (try rw [show ((1 : Int)).toNat = 1 from rfl] at hx190_2); (try rw [show 1 * 4 = 4 from rfl] at hx190_2); (try rw [show ((1 : Int)).toNat = 1 from rfl] at hx190_3); (try rw [show 1 * 4 = 4 from rfl] at hx190_3); have HR190_0 := Aside0.mk hi190_0; have HC190_0 := Aside0.mk hl190_0; clear hi190_0 hl190_0; replace p190 := eq_true p190; replace q190 := eq_true q190; have ea_ := Option.some.inj (hx189_0.symm.trans hx190_0); injection ea_ with ea_ en_ ec_; subst ea_; subst ec_; clear en_))
            go_ret
            exact ⟨by first | rfl | (simp [errW_none, errW_some] <;> rfl) | (simp [*, errW_none, errW_some] <;> rfl), by repeat (first | (with_reducible first | exact HB.out | apply below_alloc | apply pw_below_drewN | apply below_drew1) | exact HB.out)⟩
        · rw [if_neg c6] at H
          have c6b0 : (((rd_T42 t181 1).f2) == 1) = false := beq_eq_false_iff_ne.mpr c6
          have c6b1 : (((rd_T42 t181 1).f2) != 1) = true := bne_iff_ne.mpr c6
          obtain rfl := Option.some.inj H
          go_enter Try.func10, Try.ntmps10
          go_wp2_with (first | ((with_reducible refine gate_dst (N := 3) rfl ?_); (try (refine gate_guard (by rfl) ?_; dsimp only)); refine Kd.R_lit (Kd.int .i64) _ 3 ?hg (N := 3) ?hd (xs := ([0, 1, 0] : List Int)) (inner := [.int .i64 0, .int .i64 1, .int .i64 0]) (ok := fun _ => True) (okp := fun _ => True) ?hr ?hp (fun _ hk => hk) trivial (Below.refl _ _) (Nat.le_refl _) (by simp) ?_; (case hd => rfl); (case hg => rfl); (case hr => first | (go_simp; done) | (go_simp; rfl)); (case hp => exact (Reps.one (show Kd.M (Kd.int .i64) _ _ _ 0 [.int .i64 0] from rfl) (Reps.one (show Kd.M (Kd.int .i64) _ _ _ 1 [.int .i64 1] from rfl) (Reps.one (show Kd.M (Kd.int .i64) _ _ _ 0 [.int .i64 0] from rfl) (Reps.none _ _))))); intro v176 w30 ho31 hb hg_ hnew_; clear hg_ hnew_; (first | rw [← Ny175.out] at ho31 | (simp only [Int.reduceToNat] at ho31; rw [← Ny175.out] at ho31)); have n0_ := Aside0.mk (Kd.R_lower ho31 (below_size (by repeat (first | (with_reducible first | exact HB.out | apply below_alloc | apply pw_below_drewN | apply below_drew1) | exact HB.out)))); have n1_ := Aside0.mk (below_step (by repeat (first | (with_reducible first | exact HB.out | apply below_alloc | apply pw_below_drewN | apply below_drew1) | exact HB.out)) hb); clear HB; have HO177 := n0_; have HB := n1_; clear n0_ n1_; clear hb ho31) | ((with_reducible refine gate_dst (N := 4) rfl ?_); (try (refine gate_guard (by rfl) ?_; dsimp only)); refine Kd.R_lit (Kd.int .i64) _ 3 ?hg (N := 4) ?hd (xs := ([0, 1, 0] : List Int)) (inner := [.int .i64 0, .int .i64 1, .int .i64 0]) (ok := fun _ => True) (okp := fun _ => True) ?hr ?hp (fun _ hk => hk) trivial (Below.refl _ _) (Nat.le_refl _) (by simp) ?_; (case hd => rfl); (case hg => rfl); (case hr => first | (go_simp; done) | (go_simp; rfl)); (case hp => exact (Reps.one (show Kd.M (Kd.int .i64) _ _ _ 0 [.int .i64 0] from rfl) (Reps.one (show Kd.M (Kd.int .i64) _ _ _ 1 [.int .i64 1] from rfl) (Reps.one (show Kd.M (Kd.int .i64) _ _ _ 0 [.int .i64 0] from rfl) (Reps.none _ _))))); intro v179 w32 ho33 hb hg_ hnew_; clear hg_ hnew_; (first | rw [← Ny178.out] at ho33 | (simp only [Int.reduceToNat] at ho33; rw [← Ny178.out] at ho33)); have n0_ := Aside0.mk (Kd.R_elder' (by (with_reducible repeat (first | apply Kd.R_alloc | apply Kd.R_drewN | apply Kd.R_drew)); exact HO177.out) (Kd.R_base ho33) hb); have n1_ := Aside0.mk (Kd.R_lower (Kd.R_new' ho33 (Kd.R_lt (by (with_reducible repeat (first | apply Kd.R_alloc | apply Kd.R_drewN | apply Kd.R_drew)); exact HO177.out))) (below_size (by repeat (first | (with_reducible first | exact HB.out | apply below_alloc | apply pw_below_drewN | apply below_drew1) | exact HB.out)))); have n2_ := Aside0.mk (below_step (by repeat (first | (with_reducible first | exact HB.out | apply below_alloc | apply pw_below_drewN | apply below_drew1) | exact HB.out)) hb); clear HO177; clear HB; have HO177 := n0_; have HO180 := n1_; have HB := n2_; clear n0_ n1_ n2_; clear hb ho33; obtain ⟨Ao34, co34, eo34⟩ := Kd.R_slice HO180.out; subst eo34; obtain ⟨Ao35, co35, eo35⟩ := Kd.R_slice HO177.out; subst eo35) | ((with_reducible refine gate_callee (f := 13) rfl ?_); refine goesL_ (some 7) rfl rfl Try.func13 (by kernel_rfl) rfl #[.slice Ao34 y178.length co34, .slice Ao35 y175.length co35, .slice Ao35 y175.length co35, .int .i64 0] rfl (by (try simp only [List.map_toArray, List.map_cons, List.map_nil]); first | done | rfl | (simp only [List.length_drop, List.length_take]; rfl)) ?_; (with_reducible refine (seq_Sequences.calls k _ _ y178 _ _ y175 _ _ y175 0 t181 _ ?side1 ?side2 ?side3 ?side4 ?side5 ?side6 A1.out).mono ?_); (case side1 => repeat (first | exact (Kd.R_reads' HO180.out).2.2 | (with_reducible refine Kd.C_alloc ?_ _) | (with_reducible refine Kd.C_drewN ?_ _) | (with_reducible refine Kd.C_drew ?_))); (case side2 => exact (Kd.R_reads' HO180.out).2.1); (case side3 => repeat (first | exact (Kd.R_reads' HO177.out).2.2 | (with_reducible refine Kd.C_alloc ?_ _) | (with_reducible refine Kd.C_drewN ?_ _) | (with_reducible refine Kd.C_drew ?_))); (case side4 => exact (Kd.R_reads' HO177.out).2.1); (case side5 => repeat (first | exact (Kd.R_reads' HO177.out).2.2 | (with_reducible refine Kd.C_alloc ?_ _) | (with_reducible refine Kd.C_drewN ?_ _) | (with_reducible refine Kd.C_drew ?_))); (case side6 => exact (Kd.R_reads' HO177.out).2.1); rintro e w36 ⟨v182, rfl, ho0, hb⟩; refine ⟨_, rfl, ?_⟩; have n0_ := Aside0.mk (Kd.R_below (by (with_reducible repeat (first | apply Kd.R_alloc | apply Kd.R_drewN | apply Kd.R_drew)); exact HO177.out) hb); have n1_ := Aside0.mk (Kd.R_below (by (with_reducible repeat (first | apply Kd.R_alloc | apply Kd.R_drewN | apply Kd.R_drew)); exact HO180.out) hb); have n2_ := Aside0.mk (Kd.S_lower (Kd.S_new' (Kd.S_new' ho0 (Kd.R_lt (by (with_reducible repeat (first | apply Kd.R_alloc | apply Kd.R_drewN | apply Kd.R_drew)); exact HO177.out))) (Kd.R_lt (by (with_reducible repeat (first | apply Kd.R_alloc | apply Kd.R_drewN | apply Kd.R_drew)); exact HO180.out))) (below_size (by repeat (first | (with_reducible first | exact HB.out | apply below_alloc | apply pw_below_drewN | apply below_drew1) | exact HB.out)))); have n3_ := Aside0.mk (below_step (by repeat (first | (with_reducible first | exact HB.out | apply below_alloc | apply pw_below_drewN | apply below_drew1) | exact HB.out)) hb); clear HO177; clear HO180; clear HB; have HO177 := n0_; have HO180 := n1_; have HO183 := n2_; have HB := n3_; clear n0_ n1_ n2_ n3_; (try clear hb); (try clear hb2); (try clear hk); (try clear hi); (try clear ho0); obtain ⟨Ao37, co37, eo37⟩ := Kd.S_slice HO183.out; subst eo37; have p184 : 0 ≤ (1 : Int) := (by omega); have q184 : 1 < (t181.length : Int) := of_decide_eq_true (by first | (with_reducible assumption) | assumption); obtain ⟨ad184, A184_0, c184_0, e184, hx184_0, hx184_1, hx184_2, hx184_3, hl184_0, hi184_0⟩ := at_T42 (Kd.S_reads' HO183.out).2.2 1 p184 q184; cases e184; obtain ⟨ce184, hce184, hMe184, hcc184⟩ := Kd.S_get HO183.out z42 1 p184 (by first | exact q184 | exact of_decide_eq_true (by first | (with_reducible assumption) | assumption) | (have e_ := (Kd.S_reads' HO183.out).1; omega)); obtain ⟨ve184_0, rfl, ge184_0⟩ := k42_openM hMe184; have hv184_0 := hcc184 0 _ rfl; rw [Nat.add_zero] at hv184_0; replace hv184_0 := Option.some.inj (hv184_0.symm.trans hx184_0); rw [hv184_0] at ge184_0; have HL184_0 := Aside0.mk (show Kd.R (Kd.int .i64) 3 _ _ _ _ ((rd_T42 t181 1).f0) from ge184_0); clear hv184_0 ge184_0; clear hcc184 hce184; (try simp only [show (1 : Int).toNat = 1 from rfl, Nat.reduceMul, Nat.reduceEqDiff, Go.Addr.add, ↓reduceIte] at hx184_0); (try simp only [show (1 : Int).toNat = 1 from rfl, Nat.reduceMul, Nat.reduceEqDiff, Go.Addr.add, ↓reduceIte] at hx184_1); (try simp only [show (1 : Int).toNat = 1 from rfl, Nat.reduceMul, Nat.reduceEqDiff, Go.Addr.add, ↓reduceIte] at hx184_2); (try simp only [show (1 : Int).toNat = 1 from rfl, Nat.reduceMul, Nat.reduceEqDiff, Go.Addr.add, ↓reduceIte] at hx184_3); have qi184 : (1 < t181.length) = True := eq_true (by omega); (try rw [show ((1 : Int)).toNat = 1 from rfl] at hx184_0); (try rw [show 1 * 4 = 4 from rfl] at hx184_0); (try rw [show ((1 : Int)).toNat = 1 from rfl] at hx184_1); (try rw [show 1 * 4 = 4 from rfl] at hx184_1); (try rw [show ((1 : Int)).toNat = 1 from rfl] at hx184_2); (try rw [show 1 * 4 = 4 from rfl] at hx184_2); (try rw [show ((1 : Int)).toNat = 1 from rfl] at hx184_3); (try rw [show 1 * 4 = 4 from rfl] at hx184_3); have HR184_0 := Aside0.mk hi184_0; have HC184_0 := Aside0.mk hl184_0; clear hi184_0 hl184_0; replace p184 := eq_true p184; replace q184 := eq_true q184) | ((with_reducible refine gate_dst (N := 16) rfl ?_); (try (refine gate_guard (by rfl) ?_; dsimp only)); refine Kd.R_lit (Kd.int .i64) _ 3 ?hg (N := 16) ?hd (xs := ([1] : List Int)) (inner := [.int .i64 1]) (ok := fun _ => True) (okp := fun _ => True) ?hr ?hp (fun _ hk => hk) trivial (Below.refl _ _) (Nat.le_refl _) (by simp) ?_; (case hd => rfl); (case hg => rfl); (case hr => first | (go_simp; done) | (go_simp; rfl)); (case hp => exact (Reps.one (show Kd.M (Kd.int .i64) _ _ _ 1 [.int .i64 1] from rfl) (Reps.none _ _))); intro v186 w38 ho39 hb hg_ hnew_; clear hg_ hnew_; (first | rw [← Ny185.out] at ho39 | (simp only [Int.reduceToNat] at ho39; rw [← Ny185.out] at ho39)); have n0_ := Aside0.mk (Kd.R_elder' (by (with_reducible repeat (first | apply Kd.R_alloc | apply Kd.R_drewN | apply Kd.R_drew)); exact HO177.out) (Kd.R_base ho39) hb); have n1_ := Aside0.mk (Kd.R_elder' (by (with_reducible repeat (first | apply Kd.R_alloc | apply Kd.R_drewN | apply Kd.R_drew)); exact HO180.out) (Kd.R_base ho39) hb); have n2_ := Aside0.mk (Kd.S_elder' (by (with_reducible repeat (first | apply Kd.S_alloc | apply Kd.S_drewN | apply Kd.S_drew)); exact HO183.out) (Kd.R_base ho39) hb); have n3_ := Aside0.mk (Kd.R_elder' (by (with_reducible repeat (first | apply Kd.R_alloc | apply Kd.R_drewN | apply Kd.R_drew)); exact HL184_0.out) (Kd.R_base ho39) hb); have n4_ := Aside0.mk (Kd.R_lower (Kd.R_new' (Kd.R_new' (Kd.R_new' ho39 (Kd.R_lt (by (with_reducible repeat (first | apply Kd.R_alloc | apply Kd.R_drewN | apply Kd.R_drew)); exact HO177.out))) (Kd.R_lt (by (with_reducible repeat (first | apply Kd.R_alloc | apply Kd.R_drewN | apply Kd.R_drew)); exact HO180.out))) (Kd.R_lt (by (with_reducible repeat (first | apply Kd.R_alloc | apply Kd.R_drewN | apply Kd.R_drew)); exact HL184_0.out))) (below_size (by repeat (first | (with_reducible first | exact HB.out | apply below_alloc | apply pw_below_drewN | apply below_drew1) | exact HB.out)))); have n5_ := Aside0.mk (Kd.C_below (by repeat (first | (with_reducible exact HR184_0.out) | (with_reducible refine Kd.C_alloc ?_ _) | (with_reducible refine Kd.C_drewN ?_ _) | (with_reducible refine Kd.C_drew ?_) | exact HR184_0.out)) hb); have n6_ := Aside0.mk (below_step (by repeat (first | (with_reducible first | exact HB.out | apply below_alloc | apply pw_below_drewN | apply below_drew1) | exact HB.out)) hb); clear HO177; clear HO180; clear HO183; clear HL184_0; clear HR184_0; clear HB; have HO177 := n0_; have HO180 := n1_; have HO183 := n2_; have HL184_0 := n3_; have HO187 := n4_; have HR184_0 := n5_; have HB := n6_; clear n0_ n1_ n2_ n3_ n4_ n5_ n6_; clear hb ho39; obtain ⟨Ao40, co40, eo40⟩ := Kd.R_slice HO187.out; subst eo40) | (go_at_call 19; (with_reducible refine (slices_Equal_int_int.calls k _ _ ((rd_T42 t181 1).f0) _ _ y185 true _ ?side1 ?side2 ?side3 ?side4 A4.out).mono ?_); (case side1 => repeat (first | exact (by repeat (first | (with_reducible exact HR184_0.out) | (with_reducible refine Kd.C_alloc ?_ _) | (with_reducible refine Kd.C_drewN ?_ _) | (with_reducible refine Kd.C_drew ?_) | exact HR184_0.out)) | (with_reducible refine Kd.C_alloc ?_ _) | (with_reducible refine Kd.C_drewN ?_ _) | (with_reducible refine Kd.C_drew ?_))); (case side2 => exact HC184_0.out); (case side3 => repeat (first | exact (Kd.R_reads' HO187.out).2.2 | (with_reducible refine Kd.C_alloc ?_ _) | (with_reducible refine Kd.C_drewN ?_ _) | (with_reducible refine Kd.C_drew ?_))); (case side4 => exact (Kd.R_reads' HO187.out).2.1); rintro e w' ⟨rfl, ⟨nd, rfl⟩⟩; have p189 : 0 ≤ (1 : Int) := (by omega); have q189 : 1 < (t181.length : Int) := of_decide_eq_true (by first | (with_reducible assumption) | assumption); obtain ⟨ad189, A189_0, c189_0, e189, hx189_0, hx189_1, hx189_2, hx189_3, hl189_0, hi189_0⟩ := at_T42 (Kd.S_reads' HO183.out).2.2 1 p189 q189; obtain rfl : ad184 = ad189 := (by injection e189); obtain ⟨ce189, hce189, hMe189, hcc189⟩ := Kd.S_get HO183.out z42 1 p189 (by first | exact q189 | exact of_decide_eq_true (by first | (with_reducible assumption) | assumption) | (have e_ := (Kd.S_reads' HO183.out).1; omega)); obtain ⟨ve189_0, rfl, ge189_0⟩ := k42_openM hMe189; have hv189_0 := hcc189 0 _ rfl; rw [Nat.add_zero] at hv189_0; replace hv189_0 := Option.some.inj (hv189_0.symm.trans hx189_0); rw [hv189_0] at ge189_0; have HL189_0 := Aside0.mk (show Kd.R (Kd.int .i64) 3 _ _ _ _ ((rd_T42 t181 1).f0) from ge189_0); clear hv189_0 ge189_0; clear hcc189 hce189; (try simp only [show (1 : Int).toNat = 1 from rfl, Nat.reduceMul, Nat.reduceEqDiff, Go.Addr.add, ↓reduceIte] at hx189_0); (try simp only [show (1 : Int).toNat = 1 from rfl, Nat.reduceMul, Nat.reduceEqDiff, Go.Addr.add, ↓reduceIte] at hx189_1); (try simp only [show (1 : Int).toNat = 1 from rfl, Nat.reduceMul, Nat.reduceEqDiff, Go.Addr.add, ↓reduceIte] at hx189_2); (try simp only [show (1 : Int).toNat = 1 from rfl, Nat.reduceMul, Nat.reduceEqDiff, Go.Addr.add, ↓reduceIte] at hx189_3); have qi189 : (1 < t181.length) = True := eq_true (by omega); (try rw [show ((1 : Int)).toNat = 1 from rfl] at hx189_0); (try rw [show 1 * 4 = 4 from rfl] at hx189_0); (try rw [show ((1 : Int)).toNat = 1 from rfl] at hx189_1); (try rw [show 1 * 4 = 4 from rfl] at hx189_1); (try rw [show ((1 : Int)).toNat = 1 from rfl] at hx189_2); (try rw [show 1 * 4 = 4 from rfl] at hx189_2); (try rw [show ((1 : Int)).toNat = 1 from rfl] at hx189_3); (try rw [show 1 * 4 = 4 from rfl] at hx189_3); have HR189_0 := Aside0.mk hi189_0; have HC189_0 := Aside0.mk hl189_0; clear hi189_0 hl189_0; replace p189 := eq_true p189; replace q189 := eq_true q189))
          go_ret
          exact ⟨by first | rfl | (simp [errW_none, errW_some] <;> rfl) | (simp [*, errW_none, errW_some] <;> rfl), by repeat (first | (with_reducible first | exact HB.out | apply below_alloc | apply pw_below_drewN | apply below_drew1) | exact HB.out)⟩
      · replace c5 := Bool.eq_false_iff.mpr c5
        subst c5
        have H1 : (some false) = some r := by rw [if_neg (show ¬ (false = true) by decide)] at H; exact H
        clear H
        have H := H1
        clear H1
        obtain rfl := Option.some.inj H
        go_enter Try.func10, Try.ntmps10
        go_wp2_with (first | ((with_reducible refine gate_dst (N := 3) rfl ?_); (try (refine gate_guard (by rfl) ?_; dsimp only)); refine Kd.R_lit (Kd.int .i64) _ 3 ?hg (N := 3) ?hd (xs := ([0, 1, 0] : List Int)) (inner := [.int .i64 0, .int .i64 1, .int .i64 0]) (ok := fun _ => True) (okp := fun _ => True) ?hr ?hp (fun _ hk => hk) trivial (Below.refl _ _) (Nat.le_refl _) (by simp) ?_; (case hd => rfl); (case hg => rfl); (case hr => first | (go_simp; done) | (go_simp; rfl)); (case hp => exact (Reps.one (show Kd.M (Kd.int .i64) _ _ _ 0 [.int .i64 0] from rfl) (Reps.one (show Kd.M (Kd.int .i64) _ _ _ 1 [.int .i64 1] from rfl) (Reps.one (show Kd.M (Kd.int .i64) _ _ _ 0 [.int .i64 0] from rfl) (Reps.none _ _))))); intro v176 w41 ho42 hb hg_ hnew_; clear hg_ hnew_; (first | rw [← Ny175.out] at ho42 | (simp only [Int.reduceToNat] at ho42; rw [← Ny175.out] at ho42)); have n0_ := Aside0.mk (Kd.R_lower ho42 (below_size (by repeat (first | (with_reducible first | exact HB.out | apply below_alloc | apply pw_below_drewN | apply below_drew1) | exact HB.out)))); have n1_ := Aside0.mk (below_step (by repeat (first | (with_reducible first | exact HB.out | apply below_alloc | apply pw_below_drewN | apply below_drew1) | exact HB.out)) hb); clear HB; have HO177 := n0_; have HB := n1_; clear n0_ n1_; clear hb ho42) | ((with_reducible refine gate_dst (N := 4) rfl ?_); (try (refine gate_guard (by rfl) ?_; dsimp only)); refine Kd.R_lit (Kd.int .i64) _ 3 ?hg (N := 4) ?hd (xs := ([0, 1, 0] : List Int)) (inner := [.int .i64 0, .int .i64 1, .int .i64 0]) (ok := fun _ => True) (okp := fun _ => True) ?hr ?hp (fun _ hk => hk) trivial (Below.refl _ _) (Nat.le_refl _) (by simp) ?_; (case hd => rfl); (case hg => rfl); (case hr => first | (go_simp; done) | (go_simp; rfl)); (case hp => exact (Reps.one (show Kd.M (Kd.int .i64) _ _ _ 0 [.int .i64 0] from rfl) (Reps.one (show Kd.M (Kd.int .i64) _ _ _ 1 [.int .i64 1] from rfl) (Reps.one (show Kd.M (Kd.int .i64) _ _ _ 0 [.int .i64 0] from rfl) (Reps.none _ _))))); intro v179 w43 ho44 hb hg_ hnew_; clear hg_ hnew_; (first | rw [← Ny178.out] at ho44 | (simp only [Int.reduceToNat] at ho44; rw [← Ny178.out] at ho44)); have n0_ := Aside0.mk (Kd.R_elder' (by (with_reducible repeat (first | apply Kd.R_alloc | apply Kd.R_drewN | apply Kd.R_drew)); exact HO177.out) (Kd.R_base ho44) hb); have n1_ := Aside0.mk (Kd.R_lower (Kd.R_new' ho44 (Kd.R_lt (by (with_reducible repeat (first | apply Kd.R_alloc | apply Kd.R_drewN | apply Kd.R_drew)); exact HO177.out))) (below_size (by repeat (first | (with_reducible first | exact HB.out | apply below_alloc | apply pw_below_drewN | apply below_drew1) | exact HB.out)))); have n2_ := Aside0.mk (below_step (by repeat (first | (with_reducible first | exact HB.out | apply below_alloc | apply pw_below_drewN | apply below_drew1) | exact HB.out)) hb); clear HO177; clear HB; have HO177 := n0_; have HO180 := n1_; have HB := n2_; clear n0_ n1_ n2_; clear hb ho44; obtain ⟨Ao45, co45, eo45⟩ := Kd.R_slice HO180.out; subst eo45; obtain ⟨Ao46, co46, eo46⟩ := Kd.R_slice HO177.out; subst eo46) | ((with_reducible refine gate_callee (f := 13) rfl ?_); refine goesL_ (some 7) rfl rfl Try.func13 (by kernel_rfl) rfl #[.slice Ao45 y178.length co45, .slice Ao46 y175.length co46, .slice Ao46 y175.length co46, .int .i64 0] rfl (by (try simp only [List.map_toArray, List.map_cons, List.map_nil]); first | done | rfl | (simp only [List.length_drop, List.length_take]; rfl)) ?_; (with_reducible refine (seq_Sequences.calls k _ _ y178 _ _ y175 _ _ y175 0 t181 _ ?side1 ?side2 ?side3 ?side4 ?side5 ?side6 A1.out).mono ?_); (case side1 => repeat (first | exact (Kd.R_reads' HO180.out).2.2 | (with_reducible refine Kd.C_alloc ?_ _) | (with_reducible refine Kd.C_drewN ?_ _) | (with_reducible refine Kd.C_drew ?_))); (case side2 => exact (Kd.R_reads' HO180.out).2.1); (case side3 => repeat (first | exact (Kd.R_reads' HO177.out).2.2 | (with_reducible refine Kd.C_alloc ?_ _) | (with_reducible refine Kd.C_drewN ?_ _) | (with_reducible refine Kd.C_drew ?_))); (case side4 => exact (Kd.R_reads' HO177.out).2.1); (case side5 => repeat (first | exact (Kd.R_reads' HO177.out).2.2 | (with_reducible refine Kd.C_alloc ?_ _) | (with_reducible refine Kd.C_drewN ?_ _) | (with_reducible refine Kd.C_drew ?_))); (case side6 => exact (Kd.R_reads' HO177.out).2.1); rintro e w47 ⟨v182, rfl, ho0, hb⟩; refine ⟨_, rfl, ?_⟩; have n0_ := Aside0.mk (Kd.R_below (by (with_reducible repeat (first | apply Kd.R_alloc | apply Kd.R_drewN | apply Kd.R_drew)); exact HO177.out) hb); have n1_ := Aside0.mk (Kd.R_below (by (with_reducible repeat (first | apply Kd.R_alloc | apply Kd.R_drewN | apply Kd.R_drew)); exact HO180.out) hb); have n2_ := Aside0.mk (Kd.S_lower (Kd.S_new' (Kd.S_new' ho0 (Kd.R_lt (by (with_reducible repeat (first | apply Kd.R_alloc | apply Kd.R_drewN | apply Kd.R_drew)); exact HO177.out))) (Kd.R_lt (by (with_reducible repeat (first | apply Kd.R_alloc | apply Kd.R_drewN | apply Kd.R_drew)); exact HO180.out))) (below_size (by repeat (first | (with_reducible first | exact HB.out | apply below_alloc | apply pw_below_drewN | apply below_drew1) | exact HB.out)))); have n3_ := Aside0.mk (below_step (by repeat (first | (with_reducible first | exact HB.out | apply below_alloc | apply pw_below_drewN | apply below_drew1) | exact HB.out)) hb); clear HO177; clear HO180; clear HB; have HO177 := n0_; have HO180 := n1_; have HO183 := n2_; have HB := n3_; clear n0_ n1_ n2_ n3_; (try clear hb); (try clear hb2); (try clear hk); (try clear hi); (try clear ho0); obtain ⟨Ao48, co48, eo48⟩ := Kd.S_slice HO183.out; subst eo48; have p184 : 0 ≤ (1 : Int) := (by omega); have q184 : 1 < (t181.length : Int) := of_decide_eq_true (by first | (with_reducible assumption) | assumption); obtain ⟨ad184, A184_0, c184_0, e184, hx184_0, hx184_1, hx184_2, hx184_3, hl184_0, hi184_0⟩ := at_T42 (Kd.S_reads' HO183.out).2.2 1 p184 q184; cases e184; obtain ⟨ce184, hce184, hMe184, hcc184⟩ := Kd.S_get HO183.out z42 1 p184 (by first | exact q184 | exact of_decide_eq_true (by first | (with_reducible assumption) | assumption) | (have e_ := (Kd.S_reads' HO183.out).1; omega)); obtain ⟨ve184_0, rfl, ge184_0⟩ := k42_openM hMe184; have hv184_0 := hcc184 0 _ rfl; rw [Nat.add_zero] at hv184_0; replace hv184_0 := Option.some.inj (hv184_0.symm.trans hx184_0); rw [hv184_0] at ge184_0; have HL184_0 := Aside0.mk (show Kd.R (Kd.int .i64) 3 _ _ _ _ ((rd_T42 t181 1).f0) from ge184_0); clear hv184_0 ge184_0; clear hcc184 hce184; (try simp only [show (1 : Int).toNat = 1 from rfl, Nat.reduceMul, Nat.reduceEqDiff, Go.Addr.add, ↓reduceIte] at hx184_0); (try simp only [show (1 : Int).toNat = 1 from rfl, Nat.reduceMul, Nat.reduceEqDiff, Go.Addr.add, ↓reduceIte] at hx184_1); (try simp only [show (1 : Int).toNat = 1 from rfl, Nat.reduceMul, Nat.reduceEqDiff, Go.Addr.add, ↓reduceIte] at hx184_2); (try simp only [show (1 : Int).toNat = 1 from rfl, Nat.reduceMul, Nat.reduceEqDiff, Go.Addr.add, ↓reduceIte] at hx184_3); have qi184 : (1 < t181.length) = True := eq_true (by omega); (try rw [show ((1 : Int)).toNat = 1 from rfl] at hx184_0); (try rw [show 1 * 4 = 4 from rfl] at hx184_0); (try rw [show ((1 : Int)).toNat = 1 from rfl] at hx184_1); (try rw [show 1 * 4 = 4 from rfl] at hx184_1); (try rw [show ((1 : Int)).toNat = 1 from rfl] at hx184_2); (try rw [show 1 * 4 = 4 from rfl] at hx184_2); (try rw [show ((1 : Int)).toNat = 1 from rfl] at hx184_3); (try rw [show 1 * 4 = 4 from rfl] at hx184_3); have HR184_0 := Aside0.mk hi184_0; have HC184_0 := Aside0.mk hl184_0; clear hi184_0 hl184_0; replace p184 := eq_true p184; replace q184 := eq_true q184) | ((with_reducible refine gate_dst (N := 16) rfl ?_); (try (refine gate_guard (by rfl) ?_; dsimp only)); refine Kd.R_lit (Kd.int .i64) _ 3 ?hg (N := 16) ?hd (xs := ([1] : List Int)) (inner := [.int .i64 1]) (ok := fun _ => True) (okp := fun _ => True) ?hr ?hp (fun _ hk => hk) trivial (Below.refl _ _) (Nat.le_refl _) (by simp) ?_; (case hd => rfl); (case hg => rfl); (case hr => first | (go_simp; done) | (go_simp; rfl)); (case hp => exact (Reps.one (show Kd.M (Kd.int .i64) _ _ _ 1 [.int .i64 1] from rfl) (Reps.none _ _))); intro v186 w49 ho50 hb hg_ hnew_; clear hg_ hnew_; (first | rw [← Ny185.out] at ho50 | (simp only [Int.reduceToNat] at ho50; rw [← Ny185.out] at ho50)); have n0_ := Aside0.mk (Kd.R_elder' (by (with_reducible repeat (first | apply Kd.R_alloc | apply Kd.R_drewN | apply Kd.R_drew)); exact HO177.out) (Kd.R_base ho50) hb); have n1_ := Aside0.mk (Kd.R_elder' (by (with_reducible repeat (first | apply Kd.R_alloc | apply Kd.R_drewN | apply Kd.R_drew)); exact HO180.out) (Kd.R_base ho50) hb); have n2_ := Aside0.mk (Kd.S_elder' (by (with_reducible repeat (first | apply Kd.S_alloc | apply Kd.S_drewN | apply Kd.S_drew)); exact HO183.out) (Kd.R_base ho50) hb); have n3_ := Aside0.mk (Kd.R_elder' (by (with_reducible repeat (first | apply Kd.R_alloc | apply Kd.R_drewN | apply Kd.R_drew)); exact HL184_0.out) (Kd.R_base ho50) hb); have n4_ := Aside0.mk (Kd.R_lower (Kd.R_new' (Kd.R_new' (Kd.R_new' ho50 (Kd.R_lt (by (with_reducible repeat (first | apply Kd.R_alloc | apply Kd.R_drewN | apply Kd.R_drew)); exact HO177.out))) (Kd.R_lt (by (with_reducible repeat (first | apply Kd.R_alloc | apply Kd.R_drewN | apply Kd.R_drew)); exact HO180.out))) (Kd.R_lt (by (with_reducible repeat (first | apply Kd.R_alloc | apply Kd.R_drewN | apply Kd.R_drew)); exact HL184_0.out))) (below_size (by repeat (first | (with_reducible first | exact HB.out | apply below_alloc | apply pw_below_drewN | apply below_drew1) | exact HB.out)))); have n5_ := Aside0.mk (Kd.C_below (by repeat (first | (with_reducible exact HR184_0.out) | (with_reducible refine Kd.C_alloc ?_ _) | (with_reducible refine Kd.C_drewN ?_ _) | (with_reducible refine Kd.C_drew ?_) | exact HR184_0.out)) hb); have n6_ := Aside0.mk (below_step (by repeat (first | (with_reducible first | exact HB.out | apply below_alloc | apply pw_below_drewN | apply below_drew1) | exact HB.out)) hb); clear HO177; clear HO180; clear HO183; clear HL184_0; clear HR184_0; clear HB; have HO177 := n0_; have HO180 := n1_; have HO183 := n2_; have HL184_0 := n3_; have HO187 := n4_; have HR184_0 := n5_; have HB := n6_; clear n0_ n1_ n2_ n3_ n4_ n5_ n6_; clear hb ho50; obtain ⟨Ao51, co51, eo51⟩ := Kd.R_slice HO187.out; subst eo51) | (go_at_call 19; (with_reducible refine (slices_Equal_int_int.calls k _ _ ((rd_T42 t181 1).f0) _ _ y185 false _ ?side1 ?side2 ?side3 ?side4 A4.out).mono ?_); (case side1 => repeat (first | exact (by repeat (first | (with_reducible exact HR184_0.out) | (with_reducible refine Kd.C_alloc ?_ _) | (with_reducible refine Kd.C_drewN ?_ _) | (with_reducible refine Kd.C_drew ?_) | exact HR184_0.out)) | (with_reducible refine Kd.C_alloc ?_ _) | (with_reducible refine Kd.C_drewN ?_ _) | (with_reducible refine Kd.C_drew ?_))); (case side2 => exact HC184_0.out); (case side3 => repeat (first | exact (Kd.R_reads' HO187.out).2.2 | (with_reducible refine Kd.C_alloc ?_ _) | (with_reducible refine Kd.C_drewN ?_ _) | (with_reducible refine Kd.C_drew ?_))); (case side4 => exact (Kd.R_reads' HO187.out).2.1); rintro e w' ⟨rfl, ⟨nd, rfl⟩⟩))
        go_ret
        exact ⟨by first | rfl | (simp [errW_none, errW_some] <;> rfl) | (simp [*, errW_none, errW_some] <;> rfl), by repeat (first | (with_reducible first | exact HB.out | apply below_alloc | apply pw_below_drewN | apply below_drew1) | exact HB.out)⟩
    · rw [if_neg c3] at H
      exact absurd H (by simp)
  · rw [if_neg c2] at H
    have c2b0 : ((t181.length : Int) == 3) = false := beq_eq_false_iff_ne.mpr c2
    have c2b1 : ((t181.length : Int) != 3) = true := bne_iff_ne.mpr c2
    obtain rfl := Option.some.inj H
    go_enter Try.func10, Try.ntmps10
    go_wp2_with (first | ((with_reducible refine gate_dst (N := 3) rfl ?_); (try (refine gate_guard (by rfl) ?_; dsimp only)); refine Kd.R_lit (Kd.int .i64) _ 3 ?hg (N := 3) ?hd (xs := ([0, 1, 0] : List Int)) (inner := [.int .i64 0, .int .i64 1, .int .i64 0]) (ok := fun _ => True) (okp := fun _ => True) ?hr ?hp (fun _ hk => hk) trivial (Below.refl _ _) (Nat.le_refl _) (by simp) ?_; (case hd => rfl); (case hg => rfl); (case hr => first | (go_simp; done) | (go_simp; rfl)); (case hp => exact (Reps.one (show Kd.M (Kd.int .i64) _ _ _ 0 [.int .i64 0] from rfl) (Reps.one (show Kd.M (Kd.int .i64) _ _ _ 1 [.int .i64 1] from rfl) (Reps.one (show Kd.M (Kd.int .i64) _ _ _ 0 [.int .i64 0] from rfl) (Reps.none _ _))))); intro v176 w52 ho53 hb hg_ hnew_; clear hg_ hnew_; (first | rw [← Ny175.out] at ho53 | (simp only [Int.reduceToNat] at ho53; rw [← Ny175.out] at ho53)); have n0_ := Aside0.mk (Kd.R_lower ho53 (below_size (by repeat (first | (with_reducible first | exact HB.out | apply below_alloc | apply pw_below_drewN | apply below_drew1) | exact HB.out)))); have n1_ := Aside0.mk (below_step (by repeat (first | (with_reducible first | exact HB.out | apply below_alloc | apply pw_below_drewN | apply below_drew1) | exact HB.out)) hb); clear HB; have HO177 := n0_; have HB := n1_; clear n0_ n1_; clear hb ho53) | ((with_reducible refine gate_dst (N := 4) rfl ?_); (try (refine gate_guard (by rfl) ?_; dsimp only)); refine Kd.R_lit (Kd.int .i64) _ 3 ?hg (N := 4) ?hd (xs := ([0, 1, 0] : List Int)) (inner := [.int .i64 0, .int .i64 1, .int .i64 0]) (ok := fun _ => True) (okp := fun _ => True) ?hr ?hp (fun _ hk => hk) trivial (Below.refl _ _) (Nat.le_refl _) (by simp) ?_; (case hd => rfl); (case hg => rfl); (case hr => first | (go_simp; done) | (go_simp; rfl)); (case hp => exact (Reps.one (show Kd.M (Kd.int .i64) _ _ _ 0 [.int .i64 0] from rfl) (Reps.one (show Kd.M (Kd.int .i64) _ _ _ 1 [.int .i64 1] from rfl) (Reps.one (show Kd.M (Kd.int .i64) _ _ _ 0 [.int .i64 0] from rfl) (Reps.none _ _))))); intro v179 w54 ho55 hb hg_ hnew_; clear hg_ hnew_; (first | rw [← Ny178.out] at ho55 | (simp only [Int.reduceToNat] at ho55; rw [← Ny178.out] at ho55)); have n0_ := Aside0.mk (Kd.R_elder' (by (with_reducible repeat (first | apply Kd.R_alloc | apply Kd.R_drewN | apply Kd.R_drew)); exact HO177.out) (Kd.R_base ho55) hb); have n1_ := Aside0.mk (Kd.R_lower (Kd.R_new' ho55 (Kd.R_lt (by (with_reducible repeat (first | apply Kd.R_alloc | apply Kd.R_drewN | apply Kd.R_drew)); exact HO177.out))) (below_size (by repeat (first | (with_reducible first | exact HB.out | apply below_alloc | apply pw_below_drewN | apply below_drew1) | exact HB.out)))); have n2_ := Aside0.mk (below_step (by repeat (first | (with_reducible first | exact HB.out | apply below_alloc | apply pw_below_drewN | apply below_drew1) | exact HB.out)) hb); clear HO177; clear HB; have HO177 := n0_; have HO180 := n1_; have HB := n2_; clear n0_ n1_ n2_; clear hb ho55; obtain ⟨Ao56, co56, eo56⟩ := Kd.R_slice HO180.out; subst eo56; obtain ⟨Ao57, co57, eo57⟩ := Kd.R_slice HO177.out; subst eo57) | ((with_reducible refine gate_callee (f := 13) rfl ?_); refine goesL_ (some 7) rfl rfl Try.func13 (by kernel_rfl) rfl #[.slice Ao56 y178.length co56, .slice Ao57 y175.length co57, .slice Ao57 y175.length co57, .int .i64 0] rfl (by (try simp only [List.map_toArray, List.map_cons, List.map_nil]); first | done | rfl | (simp only [List.length_drop, List.length_take]; rfl)) ?_; (with_reducible refine (seq_Sequences.calls k _ _ y178 _ _ y175 _ _ y175 0 t181 _ ?side1 ?side2 ?side3 ?side4 ?side5 ?side6 A1.out).mono ?_); (case side1 => repeat (first | exact (Kd.R_reads' HO180.out).2.2 | (with_reducible refine Kd.C_alloc ?_ _) | (with_reducible refine Kd.C_drewN ?_ _) | (with_reducible refine Kd.C_drew ?_))); (case side2 => exact (Kd.R_reads' HO180.out).2.1); (case side3 => repeat (first | exact (Kd.R_reads' HO177.out).2.2 | (with_reducible refine Kd.C_alloc ?_ _) | (with_reducible refine Kd.C_drewN ?_ _) | (with_reducible refine Kd.C_drew ?_))); (case side4 => exact (Kd.R_reads' HO177.out).2.1); (case side5 => repeat (first | exact (Kd.R_reads' HO177.out).2.2 | (with_reducible refine Kd.C_alloc ?_ _) | (with_reducible refine Kd.C_drewN ?_ _) | (with_reducible refine Kd.C_drew ?_))); (case side6 => exact (Kd.R_reads' HO177.out).2.1); rintro e w58 ⟨v182, rfl, ho0, hb⟩; refine ⟨_, rfl, ?_⟩; have n0_ := Aside0.mk (Kd.R_below (by (with_reducible repeat (first | apply Kd.R_alloc | apply Kd.R_drewN | apply Kd.R_drew)); exact HO177.out) hb); have n1_ := Aside0.mk (Kd.R_below (by (with_reducible repeat (first | apply Kd.R_alloc | apply Kd.R_drewN | apply Kd.R_drew)); exact HO180.out) hb); have n2_ := Aside0.mk (Kd.S_lower (Kd.S_new' (Kd.S_new' ho0 (Kd.R_lt (by (with_reducible repeat (first | apply Kd.R_alloc | apply Kd.R_drewN | apply Kd.R_drew)); exact HO177.out))) (Kd.R_lt (by (with_reducible repeat (first | apply Kd.R_alloc | apply Kd.R_drewN | apply Kd.R_drew)); exact HO180.out))) (below_size (by repeat (first | (with_reducible first | exact HB.out | apply below_alloc | apply pw_below_drewN | apply below_drew1) | exact HB.out)))); have n3_ := Aside0.mk (below_step (by repeat (first | (with_reducible first | exact HB.out | apply below_alloc | apply pw_below_drewN | apply below_drew1) | exact HB.out)) hb); clear HO177; clear HO180; clear HB; have HO177 := n0_; have HO180 := n1_; have HO183 := n2_; have HB := n3_; clear n0_ n1_ n2_ n3_; (try clear hb); (try clear hb2); (try clear hk); (try clear hi); (try clear ho0); obtain ⟨Ao59, co59, eo59⟩ := Kd.S_slice HO183.out; subst eo59))
    go_ret
    exact ⟨by first | rfl | (simp [errW_none, errW_some] <;> rfl) | (simp [*, errW_none, errW_some] <;> rfl), by repeat (first | (with_reducible first | exact HB.out | apply below_alloc | apply pw_below_drewN | apply below_drew1) | exact HB.out)⟩
def naskhref22_Left.f (a0 : Int) : Option (Bool) := if a0 ≥ 14 then (if a0 ≤ 18 then (some true) else (some (a0 == 9))) else (some (a0 == 9))
set_option maxHeartbeats 8000000 in
set_option maxRecDepth 100000 in
theorem naskhref22_Left.calls (a0 : Int) (r : Bool) (w : World) (h : naskhref22_Left.f a0 = some r) :
    Calls Try.prog 23 #[.int .i64 a0] w fun e w' => e = .returned (.bool r) ∧ Drawn0 w w' := by
  have H : (if a0 ≥ 14 then (if a0 ≤ 18 then (some true) else (some (a0 == 9))) else (some (a0 == 9))) = some r := h
  clear h
  by_cases c2 : a0 ≥ 14
  · rw [if_pos c2] at H
    have c2b0 : decide (14 ≤ a0) = true := decide_eq_true c2
    clear c2
    by_cases c3 : a0 ≤ 18
    · rw [if_pos c3] at H
      have c3b0 : decide (a0 ≤ 18) = true := decide_eq_true c3
      clear c3
      obtain rfl := Option.some.inj H
      go_enter Try.func23, Try.ntmps23
      go_wp2
      go_ret
      exact ⟨by first | rfl | (simp; done) | (simp [*]; done), by repeat (first | exact Drawn0.refl _ | apply Drawn0.step)⟩
    · rw [if_neg c3] at H
      have c3b0 : decide (a0 ≤ 18) = false := decide_eq_false c3
      clear c3
      obtain rfl := Option.some.inj H
      go_enter Try.func23, Try.ntmps23
      go_wp2
      go_ret
      exact ⟨by first | rfl | (simp; done) | (simp [*]; done), by repeat (first | exact Drawn0.refl _ | apply Drawn0.step)⟩
  · rw [if_neg c2] at H
    have c2b0 : decide (14 ≤ a0) = false := decide_eq_false c2
    clear c2
    obtain rfl := Option.some.inj H
    go_enter Try.func23, Try.ntmps23
    go_wp2
    go_ret
    exact ⟨by first | rfl | (simp; done) | (simp [*]; done), by repeat (first | exact Drawn0.refl _ | apply Drawn0.step)⟩
def naskhref20_Opens.f (a0 : Int) : Option (Bool) := if a0 = 19 then (some true) else (if a0 = 20 then (some true) else (some (a0 == 21)))
set_option maxHeartbeats 8000000 in
set_option maxRecDepth 100000 in
theorem naskhref20_Opens.calls (a0 : Int) (r : Bool) (w : World) (h : naskhref20_Opens.f a0 = some r) :
    Calls Try.prog 24 #[.int .i64 a0] w fun e w' => e = .returned (.bool r) ∧ Drawn0 w w' := by
  have H : (if a0 = 19 then (some true) else (if a0 = 20 then (some true) else (some (a0 == 21)))) = some r := h
  clear h
  by_cases c2 : a0 = 19
  · rw [if_pos c2] at H
    have c2b0 : (a0 == 19) = true := beq_iff_eq.mpr c2
    have c2b1 : (a0 != 19) = false := bne_eq_false_iff_eq.mpr c2
    clear c2
    obtain rfl := Option.some.inj H
    go_enter Try.func24, Try.ntmps24
    go_wp2
    go_ret
    exact ⟨by first | rfl | (simp; done) | (simp [*]; done), by repeat (first | exact Drawn0.refl _ | apply Drawn0.step)⟩
  · rw [if_neg c2] at H
    have c2b0 : (a0 == 19) = false := beq_eq_false_iff_ne.mpr c2
    have c2b1 : (a0 != 19) = true := bne_iff_ne.mpr c2
    by_cases c3 : a0 = 20
    · rw [if_pos c3] at H
      have c3b0 : (a0 == 20) = true := beq_iff_eq.mpr c3
      have c3b1 : (a0 != 20) = false := bne_eq_false_iff_eq.mpr c3
      clear c3
      obtain rfl := Option.some.inj H
      go_enter Try.func24, Try.ntmps24
      go_wp2
      go_ret
      exact ⟨by first | rfl | (simp; done) | (simp [*]; done), by repeat (first | exact Drawn0.refl _ | apply Drawn0.step)⟩
    · rw [if_neg c3] at H
      have c3b0 : (a0 == 20) = false := beq_eq_false_iff_ne.mpr c3
      have c3b1 : (a0 != 20) = true := bne_iff_ne.mpr c3
      obtain rfl := Option.some.inj H
      go_enter Try.func24, Try.ntmps24
      go_wp2
      go_ret
      exact ⟨by first | rfl | (simp; done) | (simp [*]; done), by repeat (first | exact Drawn0.refl _ | apply Drawn0.step)⟩
end Go.Proofs.Ytbkdaafphcfpdaa.PSeqOf
