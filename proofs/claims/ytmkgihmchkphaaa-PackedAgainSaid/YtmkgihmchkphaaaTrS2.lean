/- The trie: each goes through the longest ranges of one value. -/
import Derived.Test.YtmkgihmchkphaaaTrS1
namespace Go.Proofs.Ytmkgihmchkphaaa.Stk
open Go.RowKit Go.Proofs.YtmkgihmchkphaaaW.PrintWords Go.Proofs.YtmkgihmchkphaaaW.PrintLast Go.Proofs.YtmkgihmchkphaaaW.PrintMore
attribute [local go_sem] max2_int min2_int max_two min_two max_three min_three max_four min_four   -- for this text's walks alone
set_option linter.unusedVariables false
set_option linter.unusedSimpArgs false
section
variable {P : Program} {w : World} {ops : Array Oper} {rest : List Oper} {o : Oper} {a : Act} {Q : Exit → Act → World → Prop}
/-- The array of nothing. -/
theorem wp_build_arr (hg : o.guard = none) (t : TypeId) (hop : o.op = .build t #[]) (z : List Int) (hz : (P.info? t).map (·.zero) = some (some (.agg (arr z)))) (n : Nat) (e : TypeId) (ht : P.underlying t = some (.array n e)) (s : Nat) (hi : (P.info? e).map (·.size) = some s)
    (h : wpList P ops Q rest (a.put o.dst (.agg (arr z))) w) : wpList P ops Q (o :: rest) a w := by
  refine Kd.event_run hg (w1 := w) (v := .agg (arr z)) ?_ h
  have hzv : (zeroValue t).run P w = .ok (.agg (arr z)) w := by
    cases hq : P.info? t with
    | none => simp [hq] at hz
    | some i => simp [hq] at hz; simp [zeroValue, typeInfo, hq, hz]
  have hsz : (sizeOf e).run P w = .ok s w := by
    cases hq : P.info? e with
    | none => simp [hq] at hi
    | some i => simp [hq] at hi; simp [sizeOf, typeInfo, hq, hi]
  unfold execOp
  simp only [hop]
  simp [Instr.build, Sem.run_bind, hzv, run_underlying ht w, hsz, Instr.fill, Value.cells]
end
theorem tabb_wrote {w w' : World} {base g h : Nat} {v1 v2 : Value} {fs : List Int} {bs : List (List Int)} {z : Int} (hT : TabB w base g v1 v2 fs bs z) (hW : Wrote w w' h) (h0 : h ≠ g) (h1 : some h ≠ v1.ownBlock) (h2 : some h ≠ v2.ownBlock) : TabB w' base g v1 v2 fs bs z :=
  ⟨hW.blk hT.1 (Ne.symm h0), Kd.R_drop (Kd.R_step (Kd.R_far1 hT.2.1 rfl h1) (fun k hk _ => hW.2.1 k hk.2)), Kd.R_drop (Kd.R_step (Kd.R_far1 hT.2.2.1 rfl h2) (fun k hk _ => hW.2.1 k hk.2)), hT.2.2.2⟩
theorem tabb_tab {w : World} {base g : Nat} {v1 v2 : Value} {fs : List Int} {bs : List (List Int)} {z : Int} (hT : TabB w base g v1 v2 fs bs z) : TabR w g fs bs z true := by
  obtain ⟨hG, h1, h2, _⟩ := hT
  obtain ⟨A1, c1, rfl, a1, b1⟩ := Kd.R_reads h1
  obtain ⟨A2, c2, rfl, a2, b2⟩ := Kd.R_reads h2
  exact ⟨A1, c1, A2, c2, hG, ⟨a1, b1⟩, ⟨a2, b2⟩⟩
theorem tabb_put {w : World} {base g b1 n1 c1 : Nat} {v2 : Value} {fs : List Int} {bs : List (List Int)} {z : Int} (hT : TabB w base g (.slice (some ⟨b1, 0, none⟩) n1 c1) v2 fs bs z) (p : Nat) (x : Int) : TabB (w.setCell ⟨b1, p, none⟩ (.int .i64 x)) base g (.slice (some ⟨b1, 0, none⟩) n1 c1) v2 (fs.set p x) bs z := by
  have h1 := Kd.R_putg hT.2.1 (p : Int) x
  rw [Int.toNat_natCast] at h1
  have hne : b1 ≠ g := hT.2.1.1 b1 rfl
  exact ⟨(Wrote.set w b1 p _).blk hT.1 (Ne.symm hne), h1.1, Kd.R_over' hT.2.2.1 (Kd.R_typed hT.2.1) (by decide) h1.2, hT.2.2.2⟩
theorem tabb_row {w : World} {base g b1 n1 c1 : Nat} {v2 : Value} {fs : List Int} {bs : List (List Int)} {z : Int} (hT : TabB w base g (.slice (some ⟨b1, 0, none⟩) n1 c1) v2 fs bs z) (p : Nat) (hp : p < fs.length) : (∃ u, w.cell? ⟨b1, p, none⟩ = some u) ∧ w.frozen? ⟨b1, p, none⟩ = false ∧ base ≤ b1 ∧ b1 < w.heap.size := by
  obtain ⟨_, h1, h2, q, _, cells, hb⟩ := (Kd.R_bound hT.2.1).1 b1 rfl
  obtain ⟨A, c, e, _, hc⟩ := Kd.R_reads hT.2.1
  injection e with e1 e2 e3
  obtain ⟨ad, e4, hx⟩ := Kd.at_int hc (p : Int) (by omega) (by omega)
  rw [← e1] at e4
  injection e4 with e4
  subst e4
  exact ⟨⟨_, by rw [← hx, Int.toNat_natCast, Addr.add_mid, Nat.zero_add]⟩, blk_frozen hb p, h1, h2⟩
theorem r_base {w : World} {base g : Nat} {v1 v2 : Value} {fs : List Int} {bs : List (List Int)} {z : Int} (hT : TabB w base g v1 v2 fs bs z) : ∀ k, v2.ownBlock = some k → base ≤ k := fun k hk => ((Kd.R_bound hT.2.2.1).1 k hk).2.1
section
variable {P : Program} {w : World} {o : Oper} {a : Act}
theorem exec_store_arr (t : TypeId) (x y : Operand) (hop : o.op = .store t x y) (g : Nat) (l : List Int) (hx : a.eval x = .pointer (some ⟨g, 0, none⟩)) (hy : a.eval y = .agg (arr l)) (t' : TypeId) (old : List Int)
    (hb : w.heap[g]? = some (.cells (arr old) t' (0, 0))) (n : Nat) (hi : (P.info? t).map (·.size) = some n) (hl : l.length = n) (ho : old.length = n) : (execOp a.eval o).run P w = .ok .skip (w.setRow g (arr l)) := by
  unfold execOp
  simp only [hop, hx, hy, Instr.storeAt, Instr.sureAddr, Sem.run_bind, Sem.run_pure, Result.andThen_ok, run_storeVar_row w g t' t (arr old) (arr l) hb (by rw [hi, arr_size, hl]) (by rw [arr_size, arr_size, hl, ho]) (arr_one l)]
end
/-- While a table is being built: p parts are done. -/
def BI (l : List Rg) (z : Int) (p m : Nat) (la : Int) (fs : List Int) (bs : List (List Int)) (lst : List Int) : Prop :=
  (m ≤ l.length ∧ (∀ j, j < m → (rgAt l j).hi < ((128 * p : Nat) : Int))) ∧ fs.length = 8704 ∧ bs.Nodup ∧ bs.length ≤ p ∧ (∀ b, b ∈ bs → ∃ q, q < p ∧ b = blkOf l z q) ∧
  (∀ q, q < p → 0 ≤ fs.getD q 0 ∧ (fs.getD q 0).toNat < bs.length ∧ bs.getD (fs.getD q 0).toNat [] = blkOf l z q) ∧
  (p = 0 ∧ la = -1 ∨ 0 < p ∧ ∃ k : Nat, la = (k : Int) ∧ k < bs.length ∧ bs.getD k [] = lst) ∧ lst.length = 128
theorem getD_set (fs : List Int) (p q : Nat) (v : Int) (hp : p < fs.length) : (fs.set p v).getD q 0 = if p = q then v else fs.getD q 0 := by
  by_cases e : p = q
  · subst e; simp [List.getD, hp]
  · rw [if_neg e]; simp [List.getD, List.getElem?_set_ne e]
theorem bi_zero (l : List Rg) (z : Int) (fs : List Int) (h : fs.length = 8704) : BI l z 0 0 (-1) fs [] (rep 0) :=
  ⟨⟨Nat.zero_le _, fun j hj => by omega⟩, h, List.nodup_nil, Nat.le_refl _, fun b hb => by simp at hb, fun q hq => by omega, .inl ⟨rfl, rfl⟩, rep_len⟩
theorem bi_same {l : List Rg} {z : Int} {p m m' : Nat} {la : Int} {fs : List Int} {bs : List (List Int)} {lst : List Int} (h : BI l z p m la fs bs lst) (hp : 0 < p) (hl : p < 8704) (he : blkOf l z p = lst) (hm : m' ≤ l.length ∧ (∀ j, j < m' → (rgAt l j).hi < ((128 * (p + 1) : Nat) : Int))) : BI l z (p + 1) m' la (fs.set p la) bs lst := by
  obtain ⟨_, h1, h2, h3, h4, h5, h6, h7⟩ := h
  rcases h6 with ⟨e, _⟩ | ⟨_, k, ek, hk, hb⟩
  · omega
  · refine ⟨hm, by rw [List.length_set]; exact h1, h2, by omega, fun b hb => ?_, fun q hq => ?_, .inr ⟨by omega, k, ek, hk, hb⟩, h7⟩
    · obtain ⟨q, hq, e⟩ := h4 b hb
      exact ⟨q, by omega, e⟩
    · rw [getD_set _ _ _ _ (by omega)]
      by_cases e : p = q
      · subst e; rw [if_pos rfl, ek, Int.toNat_natCast]; exact ⟨by omega, hk, by rw [hb, he]⟩
      · rw [if_neg e]; exact h5 q (by omega)
theorem bi_new {l : List Rg} {z : Int} {p m m' : Nat} {la : Int} {fs : List Int} {bs : List (List Int)} {lst : List Int} (h : BI l z p m la fs bs lst) (hl : p < 8704) (hm : m' ≤ l.length ∧ (∀ j, j < m' → (rgAt l j).hi < ((128 * (p + 1) : Nat) : Int))) : BI l z (p + 1) m' ((bs.idxOf (blkOf l z p) : Nat) : Int) (fs.set p ((bs.idxOf (blkOf l z p) : Nat) : Int)) (addB (blkOf l z p) bs) (blkOf l z p) := by
  obtain ⟨_, h1, h2, h3, h4, h5, h6, h7⟩ := h
  have hsub : ∀ k, k < bs.length → (addB (blkOf l z p) bs).getD k [] = bs.getD k [] := fun k hk => by
    unfold addB; split
    · rfl
    · simp [List.getD, List.getElem?_append_left hk]
  have hlen : bs.length ≤ (addB (blkOf l z p) bs).length ∧ (addB (blkOf l z p) bs).length ≤ bs.length + 1 := by unfold addB; split <;> simp
  have hidx : bs.idxOf (blkOf l z p) < (addB (blkOf l z p) bs).length ∧ (addB (blkOf l z p) bs).getD (bs.idxOf (blkOf l z p)) [] = blkOf l z p := by
    unfold addB
    by_cases hi : blkOf l z p ∈ bs
    · rw [if_pos hi]
      have h8 := List.idxOf_lt_length_of_mem hi
      exact ⟨h8, by simp [List.getD, h8]⟩
    · rw [if_neg hi, List.idxOf_eq_length hi]
      exact ⟨by simp, by simp [List.getD]⟩
  refine ⟨hm, by rw [List.length_set]; exact h1, ?_, by omega, fun b hb => ?_, fun q hq => ?_, .inr ⟨by omega, _, rfl, hidx.1, hidx.2⟩, blkOf_len _ _ _⟩
  · unfold addB; split
    · exact h2
    · rename_i hn
      exact List.nodup_append.2 ⟨h2, by simp, fun a ha b hb => by simp at hb; subst hb; exact fun e => hn (e ▸ ha)⟩
  · have : b ∈ bs ∨ b = blkOf l z p := by
      revert hb; unfold addB; split
      · exact .inl
      · intro hb; simpa using hb
    rcases this with hb | hb
    · obtain ⟨q, hq, e⟩ := h4 b hb
      exact ⟨q, by omega, e⟩
    · exact ⟨p, by omega, hb⟩
  · rw [getD_set _ _ _ _ (by omega)]
    by_cases e : p = q
    · subst e; rw [if_pos rfl, Int.toNat_natCast]; exact ⟨by omega, hidx.1, hidx.2⟩
    · rw [if_neg e]
      obtain ⟨a, b, c⟩ := h5 q (by omega)
      exact ⟨a, by omega, by rw [hsub _ b]; exact c⟩
/-- A table that has been built. -/
def Built (l : List Rg) (z : Int) (fs : List Int) (bs : List (List Int)) : Prop := TabOk fs bs ∧ bs.Nodup ∧ (∀ b, b ∈ bs → ∃ q, q < 8704 ∧ b = blkOf l z q) ∧ ∀ q, q < 8704 → bs.getD (fs.getD q 0).toNat [] = blkOf l z q
theorem bi_end {l : List Rg} {z : Int} {m : Nat} {la : Int} {fs : List Int} {bs : List (List Int)} {lst : List Int} (h : BI l z 8704 m la fs bs lst) : Built l z fs bs := by
  obtain ⟨_, h1, h2, h3, h4, h5, h6, h7⟩ := h
  exact ⟨⟨h1, fun p hp => by have := h5 p hp; omega⟩, h2, h4, fun q hq => (h5 q hq).2.2⟩
theorem built_at {l : List Rg} {z : Int} {fs : List Int} {bs : List (List Int)} (h : Built l z fs bs) (c : Int) (h0 : 0 ≤ c) (h1 : c ≤ 1114111) : tabv fs bs c = valR l z c := by
  unfold tabv
  rw [h.2.2.2 (c / 128).toNat (by omega), blkOf_at l z _ _ (by omega)]
  congr 1
  omega
def BuiltR (w : World) (l : List Rg) (z : Int) (e : Ending) (w' : World) : Prop :=
  ∃ (g : Nat) (fs : List Int) (bs : List (List Int)), e = .returned (.tuple #[.pointer (some ⟨g, 0, none⟩), .int .i64 0]) ∧ Below w.heap.size w w' ∧ TabR w' g fs bs z true ∧ w.heap.size ≤ g ∧ Built l z fs bs
set_option maxHeartbeats 8000000 in
set_option maxRecDepth 100000 in
theorem p_build_no {w : World} {A : Option Addr} {cc : Nat} {l : List Rg} (hC : Kd.C kR w A l.length l) (hk : chk l ≠ 0) (z : Int) :
    Calls Try.prog 44 #[.slice A l.length cc, .int .i64 z] w (fun e w' => e = .returned (.tuple #[.pointer none, .int .i64 (chk l)]) ∧ Below w.heap.size w w') := by
  have HC := Aside0.mk hC
  generalize hx : chk l = x at hk ⊢
  have b0 : decide (x = 0) = false := decide_eq_false hk
  have b1 : (x = 0) = False := eq_false hk
  have b2 : (x != 0) = true := by simp [hk]
  have HX := Aside0.mk hx
  clear hC hk hx
  go_enter Try.func44, Try.ntmps44
  go_wp2_with (first | (go_at_call 80; (with_reducible refine (p_may HC.out).mono ?_); rw [HX.out]; rintro e w1 ⟨rfl, hb⟩; have HB1 := Aside0.mk hb; clear hb))
  (try simp only [Exit.inBlock, Exit.then])
  refine bodyPost_ret (results_list (rs := [.tmp 4, .tmp 5]) rfl (by simp) (.tmp (.tmp .nil))) rfl ?_
  exact ⟨by first | rfl | (simp; done), HB1.out⟩
theorem info_int : (Try.prog.info? 3).map (fun i => (i.zero, i.size, i.bytes)) = some (some (.int .i64 0), 1, 8) := by kernel_rfl
set_option maxHeartbeats 8000000 in
set_option maxRecDepth 100000 in
theorem p_build {w : World} {A : Option Addr} {cc : Nat} {l : List Rg} (hC : Kd.C kR w A l.length l) (hk : chk l = 0) (z : Int) :
    Calls Try.prog 44 #[.slice A l.length cc, .int .i64 z] w (BuiltR w l z) := by
  unfold BuiltR
  have HC := Aside0.mk hC
  have HLEN := Aside0.mk (chk_ok hk).1
  have HO := Aside0.mk (chk_ok hk).2
  have HK := Aside0.mk hk
  clear hC hk
  go_enter Try.func44, Try.ntmps44
  obtain ⟨N, hN⟩ : ∃ N : Nat, N = 8704 := ⟨_, rfl⟩
  have HN := Aside0.mk hN
  clear hN
  go_wp2_with (first | (go_at_call 80; (with_reducible refine (p_may HC.out).mono ?_); rw [HK.out]; rintro e w1 ⟨rfl, hb⟩; have HB1 := Aside0.mk hb; clear hb) | ((with_reducible refine gate_dst (N := 20) rfl ?_); refine box_event ?hg (N := 20) ?hd (cs := #[.slice none 0 0, .slice none 0 0, .int .i64 z, .bool true]) (t := 105) ?hr ?_; (case hd => rfl); (case hg => rfl); (case hr => first | (go_simp; done) | (go_simp; rfl)); intro g hg w2 hbox hb; have HG2 := Aside0.mk hbox; have HB2 := Aside0.mk (below_step HB1.out hb); have HGG := Aside0.mk (show w.heap.size ≤ g by have := HB1.out.size; omega); clear hg hbox hb) | ((with_reducible refine gate_dst (N := 22) rfl ?_); refine Kd.R_make (Kd.int .i64) (base := w.heap.size) (e := 3) (w0 := w) rfl (N := 22) rfl 22 _ _ rfl 8704 rfl rfl Try.underlying22 (.int .i64 0) 8 info_int rfl (by decide) (by decide) (0 : Int) (ok := fun k => k ≠ g) (okp := fun _ => False) ?hz (fun _ hk => hk.elim) ?hf (by decide) ?hl HB2.out HB2.out.size ?_; (case hz => exact rfl); (case hf => have := blk_lt HG2.out; omega); (case hl => decide); intro v1 w3 hR hB hgr hfr; obtain ⟨fs0, hfs⟩ : ∃ fs0 : List Int, List.replicate (8704 : Int).toNat (0 : Int) = fs0 := ⟨_, rfl⟩; rw [hfs] at hR; have HFS := Aside0.mk (show fs0.length = 8704 by rw [← hfs]; exact List.length_replicate); clear hfs; obtain ⟨ad1, c1, e1⟩ := Kd.R_slice1 hR (by rw [HFS.out]; decide); subst e1; obtain ⟨b1, e1⟩ := Kd.R_head hR; subst e1; obtain ⟨n1, hn1⟩ : ∃ n1, fs0.length = n1 := ⟨_, rfl⟩; rw [hn1] at hR ⊢; have HN1 := Aside0.mk (hn1.symm.trans HFS.out); clear hn1; have HR3 := Aside0.mk hR; have HB3 := Aside0.mk hB; have HG3 := Aside0.mk (blk_grown HG2.out hgr (by simp)); have k0 := (blk_cell HG3.out 0).trans rfl; have f0 := blk_frozen HG3.out 0; clear hR hB hgr hfr) | ((with_reducible refine gate_dst (N := 26) rfl ?_); have HT4 := Aside0.mk (show TabB (w3.setCell ⟨g, 0, none⟩ (.slice (some ⟨b1, 0, none⟩) n1 c1)) w.heap.size g (.slice (some ⟨b1, 0, none⟩) n1 c1) (.slice none 0 0) fs0 [] z from ⟨blk_put HG3.out 0 _ rfl, Kd.R_far HR3.out (p := ⟨g, 0, none⟩) (fun _ hk => hk) _, Kd.R_nil _ _ _ _ _, HGG.out⟩); have HB4 := Aside0.mk ((Wrote.set w3 g 0 (.slice (some ⟨b1, 0, none⟩) n1 c1)).below HB3.out HGG.out); generalize w3.setCell ⟨g, 0, none⟩ (.slice (some ⟨b1, 0, none⟩) n1 c1) = w4 at HT4 HB4 ⊢; clear k0 f0; refine wp_build_arr rfl 107 rfl (rep 0) zero_blk 128 3 Try.underlying107 1 size_int ?_) | ((with_reducible refine gate_dst (N := 9) rfl ?_); refine wp_alloc_arr rfl 107 rfl (rep 0) zero_blk ?_; intro g9 hg w5 hb hB; have H9 := Aside0.mk hb; have HT5 := Aside0.mk (tabb_below HT4.out hB); have HB5 := Aside0.mk (below_step HB4.out hB); have HG9 := Aside0.mk (show w.heap.size ≤ g9 ∧ g9 ≠ g by have := HB4.out.size; have := blk_lt HT4.out.1; omega); clear hg hb hB) | ((with_reducible refine gate_store (t := 107) (p := 9) rfl ?_); refine wp_store_arr rfl 107 _ _ rfl rfl g9 (rep 0) rfl rfl 107 _ H9.out 128 size_blk rep_len rep_len ?_; intro w6 h5 hw5; have H96 := Aside0.mk h5; have HT6 := Aside0.mk (tabb_wrote HT5.out hw5 HG9.out.2 (Kd.R_ne HT5.out.2.1 H9.out (by decide)) (by simp [Value.ownBlock])); have HB6 := Aside0.mk (hw5.below HB5.out HG9.out.1); clear h5 hw5))
  go_loopg [8, 10, 27] (N + 1) (fun kq v8 v10 v27 w' => ∃ (p m : Nat) (la : Int) (fs : List Int) (bs : List (List Int)) (lst : List Int) (v2 : Value), v8 = .int .i64 (m : Int) ∧ v10 = .int .i64 la ∧ v27 = .int .i64 (p : Int) ∧ Aside0 (BI l z p m la fs bs lst ∧ p ≤ N ∧ N + 1 - p ≤ kq) ∧ Aside0 (TabB w' w.heap.size g (.slice (some ⟨b1, 0, none⟩) n1 c1) v2 fs bs z) ∧ Aside0 (w'.heap[g9]? = some (.cells (arr lst) 107 (0, 0))) ∧ Aside0 (some g9 ≠ v2.ownBlock) ∧ Aside0 (Below w.heap.size w w'))
  case atStart => exact ⟨0, 0, -1, fs0, [], rep 0, .slice none 0 0, rfl, rfl, rfl, ⟨bi_zero l z fs0 HFS.out, Nat.zero_le _, Nat.sub_le _ _⟩, HT6, H96, ⟨by simp [Value.ownBlock]⟩, HB6⟩
  case round =>
    clear HT6 H96 HB6 HT5 HT4 HB5 HB4 H9 HR3 HB3 HG3 HG2 HB2 HB1
    obtain ⟨p, m, la, fs, bs, lst, v2, rfl, rfl, rfl, HI0, HT, H9, HO9, HB⟩ := hrel
    have HI := Aside0.mk HI0.out.1
    have HQ := Aside0.mk HI0.out.2
    clear HI0
    have HLL := Aside0.mk HI.out.2.2.2.2.2.2.2
    have HM0 := Aside0.mk HI.out.1
    by_cases hp : p < 8704
    · have q0 : decide ((p : Int) < 8704) = true := decide_eq_true (by omega)
      have HP := Aside0.mk hp
      have hwi : IntKind.i64.wrap ((p : Int) + 1) = ((p + 1 : Nat) : Int) := (i64_w _).trans (by unfold wrap64; omega)
      clear hp
      have HBS := Aside0.mk (show bs.length ≤ 8704 from Nat.le_trans HI.out.2.2.2.1 (Nat.le_of_lt HP.out))
      have HFL := Aside0.mk HI.out.2.1
      by_cases hp0 : p = 0
      · have q1 : decide (la < 0) = true := decide_eq_true (by rcases HI.out.2.2.2.2.2.2.1 with ⟨_, e⟩ | ⟨e, _⟩ <;> omega)
        clear hp0
        go_wp2_with (first | ((with_reducible refine gate_dst (N := 12) rfl ?_); refine wp_alloc_arr rfl 107 rfl (rep 0) zero_blk ?_; intro g12 hg w7 hb hB; have H12 := Aside0.mk hb; have H97 := Aside0.mk (blk_below H9.out hB); have HT7 := Aside0.mk (tabb_below HT.out hB); have HB7 := Aside0.mk (below_step HB.out hB); have HG12 := Aside0.mk (show w.heap.size ≤ g12 ∧ g12 ≠ g ∧ g9 ≠ g12 ∧ some g12 ≠ v2.ownBlock from ⟨by have := HB.out.size; omega, by have := blk_lt HT.out.1; omega, by have := blk_lt H9.out; omega, fun e => by have := Kd.R_lt HT.out.2.2.1 _ e.symm; omega⟩); clear hg hb hB) | (go_at_call 81; (with_reducible refine (p_filled (Kd.C_below HC.out HB7.out) HO.out HLEN.out p HP.out m HM0.out.1 HM0.out.2 z).mono ?_); rintro e w8 ⟨m', rfl, hm1, hm2, hb⟩; have HM := Aside0.mk (And.intro hm1 hm2); have H128 := Aside0.mk (blk_below H12.out hb); have H98 := Aside0.mk (blk_below H97.out hb); have HT8 := Aside0.mk (tabb_below HT7.out hb); have HB8 := Aside0.mk (below_step HB7.out hb); clear hm1 hm2 hb) | ((with_reducible refine gate_store (t := 107) (p := 12) rfl ?_); refine wp_store_arr rfl 107 _ _ rfl rfl g12 (blkOf l z p) rfl rfl 107 _ H128.out 128 size_blk (blkOf_len _ _ _) rep_len ?_; intro w9 h5 hw5; have H129 := Aside0.mk h5; have H99 := Aside0.mk (hw5.blk H98.out HG12.out.2.2.1); have HT9 := Aside0.mk (tabb_wrote HT8.out hw5 HG12.out.2.1 (Kd.R_ne HT8.out.2.1 H128.out (by decide)) HG12.out.2.2.2); have HB9 := Aside0.mk (hw5.below HB8.out HG12.out.1); clear h5 hw5))
        have HT0 := Aside0.mk (tabb_below HT9.out (below_drew (Below.refl _ _)))
        have H120 := Aside0.mk (blk_drew H129.out)
        have H90 := Aside0.mk (blk_drew H99.out)
        have HB0 := Aside0.mk HB9.out.drew
        refine start_ (n := 8) (S := fun w' => (∀ j v, ((blkOf l z p).map (Value.int .i64))[j]? = some v → w'.cell? ((⟨g12, 0, none⟩ : Addr).add j) = some v) ∧ True) (ds := [6]) #[false, false, false, false, false, false, false, false] (by kernel_rfl) rfl rfl ⟨arr_range H120.out, trivial⟩ (fun hHeld => ?_)
        generalize w9.drew = w10 at HT0 H120 H90 HB0 hHeld ⊢
        refine take_ (i := 0) (N := some 45) (v := .agg (arr (blkOf l z p))) (a' := ?_) #[true, false, false, false, false, false, false, false] rfl rfl (by kernel_rfl) (fun _ _ _ h => h) (Or.inl ⟨by rfl, ?_⟩) hHeld ?_ ?_
        · rintro w' ⟨s0, s1⟩
          exact exec_load_arr 107 (.tmp 12) rfl ⟨g12, 0, none⟩ rfl (blkOf l z p) s0 128 3 Try.underlying107 size_blk (blkOf_len _ _ _)
        rotate_left
        · simp only [Act.put, List.setIfInBounds_toArray, List.set_cons_zero, List.set_cons_succ, i64_w, i32_w]
          rfl
        refine pure_ (i := 1) (N := some 46) (v := ?_) (a' := ?_) #[true, true, false, false, false, false, false, false] rfl rfl (by kernel_rfl) (fun _ _ _ h => h) (Or.inl ⟨by rfl, ?_⟩) ?_ ?_
        rotate_left
        · intro w'
          go_simp
          with_reducible rfl
        rotate_left
        · simp only [Act.put, List.setIfInBounds_toArray, List.set_cons_zero, List.set_cons_succ, i64_w, i32_w]
          rfl
        refine pure_ (i := 2) (N := some 47) (v := ?_) (a' := ?_) #[true, true, true, false, false, false, false, false] rfl rfl (by kernel_rfl) (fun _ _ _ h => h) (Or.inl ⟨by rfl, ?_⟩) ?_ ?_
        rotate_left
        · intro w'
          go_simp
          with_reducible rfl
        rotate_left
        · simp only [Act.put, List.setIfInBounds_toArray, List.set_cons_zero, List.set_cons_succ, i64_w, i32_w]
          rfl
        refine pure_ (i := 3) (N := some 48) (v := ?_) (a' := ?_) #[true, true, true, true, false, false, false, false] rfl rfl (by kernel_rfl) (fun _ _ _ h => h) (Or.inl ⟨by rfl, ?_⟩) ?_ ?_
        rotate_left
        · intro w'
          go_simp
          with_reducible rfl
        rotate_left
        · simp only [Act.put, List.setIfInBounds_toArray, List.set_cons_zero, List.set_cons_succ, i64_w, i32_w]
          rfl
        refine take_ (i := 4) (N := some 49) (v := .agg (arr (blkOf l z p))) (a' := ?_) #[true, true, true, true, true, false, false, false] rfl rfl (by kernel_rfl) (fun _ _ _ h => h) (Or.inl ⟨by rfl, ?_⟩) hHeld ?_ ?_
        · rintro w' ⟨s0, s1⟩
          exact exec_load_arr 107 (.tmp 12) rfl ⟨g12, 0, none⟩ rfl (blkOf l z p) s0 128 3 Try.underlying107 size_blk (blkOf_len _ _ _)
        rotate_left
        · simp only [Act.put, List.setIfInBounds_toArray, List.set_cons_zero, List.set_cons_succ, i64_w, i32_w]
          rfl
        refine one_ (i := 5) (N := some 50) #[true, true, true, true, true, true, false, false] rfl rfl (by kernel_rfl) (by decide) (fun K hK => ?_)
        refine (goes_ Try.func82 (by kernel_rfl) rfl #[.pointer (some ⟨g, 0, none⟩), .agg (arr (blkOf l z p))] (by rfl) rfl rfl (by (try simp only [List.map_toArray, List.map_cons, List.map_nil]); first | done | rfl) ?_)
        (with_reducible refine (p_add HT0.out (blkOf l z p) (blkOf_len _ _ _) HBS.out).mono ?_)
        rintro e w11 ⟨v3, rfl, hT, hM⟩
        refine ⟨_, rfl, ?_⟩
        have HT11 := Aside0.mk hT
        have H911 := Aside0.mk (hM.keeps H90.out HG9.out.2 HO9.out)
        have HB11 := Aside0.mk (HB0.out.trans (hM.below_base HB0.out.size HGG.out (r_base HT0.out)))
        have HOX := Aside0.mk (show some g9 ≠ v3.ownBlock from fun e => by rcases hM.2.1 _ e.symm with h | h; exact HO9.out h.symm; have := blk_lt H90.out; omega)
        have H1211 := Aside0.mk (hM.keeps H120.out HG12.out.2.1 HG12.out.2.2.2)
        clear hT hM
        refine hK.out _ _ ⟨arr_range H1211.out, trivial⟩ (fun hHeld => ?_)
        clear hK K
        refine norm_ (a' := ?_) ?_ ?_
        rotate_left
        · show Act.put _ (some 50) _ = _
          simp only [Act.put, List.setIfInBounds_toArray, List.set_cons_zero, List.set_cons_succ, i64_w, i32_w]
          rfl
        refine last_ (i := 6) (N := none) #[true, true, true, true, true, true, true, false] rfl rfl (by kernel_rfl) (by decide) (fun K hK => ?_)
        refine skip_ (w1 := w11.setRow g9 (arr (blkOf l z p))) (by rfl) rfl (exec_store_arr 107 _ _ rfl g9 (blkOf l z p) rfl rfl 107 lst H911.out 128 size_blk (blkOf_len _ _ _) HLL.out) ?_
        refine hK.out _ _ ?_
        clear hK K
        have H9X := Aside0.mk (show (w11.setRow g9 (arr (blkOf l z p))).heap[g9]? = some (.cells (arr (blkOf l z p)) 107 (0, 0)) from setRow_heap w11 g9 _ _ _ _ H911.out)
        have hwx := Wrote.row w11 g9 (arr (blkOf l z p))
        have HTX := Aside0.mk (tabb_wrote HT11.out hwx HG9.out.2 (Kd.R_ne HT11.out.2.1 H911.out (by decide)) HOX.out)
        have HBX := Aside0.mk (hwx.below HB11.out HG9.out.1)
        clear hwx
        generalize w11.setRow g9 (arr (blkOf l z p)) = wx at H9X HTX HBX ⊢
        refine pure_ (i := 7) (N := some 10) (v := ?_) (a' := ?_) #[true, true, true, true, true, true, true, true] rfl rfl (by kernel_rfl) (fun _ _ _ h => h) (Or.inl ⟨by rfl, ?_⟩) ?_ ?_
        rotate_left
        · intro w'
          go_simp
          with_reducible rfl
        rotate_left
        · simp only [Act.put, List.setIfInBounds_toArray, List.set_cons_zero, List.set_cons_succ, i64_w, i32_w]
          rfl
        refine done_ (by kernel_rfl) ?_
        have kk0 := (blk_cell HTX.out.1 0).trans rfl
        obtain ⟨⟨u_, ku_⟩, kf_, kb_, _⟩ := tabb_row HTX.out p (by rw [HFL.out]; exact HP.out)
        have HBB := Aside0.mk kb_
        have q5 := eq_true (show (0 : Int) ≤ (p : Int) by omega)
        have q6 := eq_true (show (p : Int) < (n1 : Int) by have := HN1.out; have := HP.out; omega)
        have q7 := eq_true (show p < n1 by have := HN1.out; have := HP.out; omega)
        clear kb_
        go_wp2
        go_roundg (N + 1 - (p + 1))
        case measure => have h1_ := HQ.out; have h2_ := HP.out; have h3_ := HN.out; omega
        case rel => exact ⟨p + 1, m', _, fs.set p _, _, blkOf l z p, v3, rfl, rfl, by first | rfl | rw [hwi], ⟨bi_new HI.out HP.out HM.out, by have := HP.out; have := HN.out; omega, Nat.le_refl _⟩, ⟨tabb_put HTX.out p _⟩, ⟨(Wrote.set wx b1 p _).blk H9X.out (fun e => Kd.R_ne HTX.out.2.1 H9X.out (by decide) (by rw [e]; rfl))⟩, HOX, ⟨(Wrote.set wx b1 p _).below HBX.out HBB.out⟩⟩
      · have q1 : decide (la < 0) = false := decide_eq_false (by rcases HI.out.2.2.2.2.2.2.1 with ⟨e, _⟩ | ⟨_, k, e, _⟩ <;> omega)
        have HPP := Aside0.mk (show 0 < p by omega)
        obtain ⟨r, hr⟩ : ∃ r, (if true = true then !decide (blkOf l z p = lst) else decide (blkOf l z p = lst)) = r := ⟨_, rfl⟩
        have HR := Aside0.mk hr
        clear hp0 hr
        cases r with
        | true =>
          go_wp2_with (first | ((with_reducible refine gate_dst (N := 12) rfl ?_); refine wp_alloc_arr rfl 107 rfl (rep 0) zero_blk ?_; intro g12 hg w7 hb hB; have H12 := Aside0.mk hb; have H97 := Aside0.mk (blk_below H9.out hB); have HT7 := Aside0.mk (tabb_below HT.out hB); have HB7 := Aside0.mk (below_step HB.out hB); have HG12 := Aside0.mk (show w.heap.size ≤ g12 ∧ g12 ≠ g ∧ g9 ≠ g12 ∧ some g12 ≠ v2.ownBlock from ⟨by have := HB.out.size; omega, by have := blk_lt HT.out.1; omega, by have := blk_lt H9.out; omega, fun e => by have := Kd.R_lt HT.out.2.2.1 _ e.symm; omega⟩); clear hg hb hB) | (go_at_call 81; (with_reducible refine (p_filled (Kd.C_below HC.out HB7.out) HO.out HLEN.out p HP.out m HM0.out.1 HM0.out.2 z).mono ?_); rintro e w8 ⟨m', rfl, hm1, hm2, hb⟩; have HM := Aside0.mk (And.intro hm1 hm2); have H128 := Aside0.mk (blk_below H12.out hb); have H98 := Aside0.mk (blk_below H97.out hb); have HT8 := Aside0.mk (tabb_below HT7.out hb); have HB8 := Aside0.mk (below_step HB7.out hb); clear hm1 hm2 hb) | ((with_reducible refine gate_store (t := 107) (p := 12) rfl ?_); refine wp_store_arr rfl 107 _ _ rfl rfl g12 (blkOf l z p) rfl rfl 107 _ H128.out 128 size_blk (blkOf_len _ _ _) rep_len ?_; intro w9 h5 hw5; have H129 := Aside0.mk h5; have H99 := Aside0.mk (hw5.blk H98.out HG12.out.2.2.1); have HT9 := Aside0.mk (tabb_wrote HT8.out hw5 HG12.out.2.1 (Kd.R_ne HT8.out.2.1 H128.out (by decide)) HG12.out.2.2.2); have HB9 := Aside0.mk (hw5.below HB8.out HG12.out.1); clear h5 hw5) | ((with_reducible refine gate_dst (N := 41) rfl ?_); refine gate_guard (by rfl) ?_; dsimp only; refine wp_load_arr rfl 107 _ rfl g12 rfl 107 _ H129.out 128 3 Try.underlying107 size_blk (blkOf_len _ _ _) ?_) | ((with_reducible refine gate_dst (N := 42) rfl ?_); refine gate_guard (by rfl) ?_; dsimp only; refine wp_load_arr rfl 107 _ rfl g9 rfl 107 _ H99.out 128 3 Try.underlying107 size_blk HLL.out ?_) | ((with_reducible refine gate_dst (N := 43) rfl ?_); refine gate_guard (by rfl) ?_; dsimp only; refine Kd.event_run rfl (v := .bool true) ((exec_eq_arr true 107 107 (.tmp 41) (.tmp 42) rfl (blkOf l z p) lst rfl rfl (by kernel_rfl) 128 3 Try.underlying107 Try.underlying3 size_int (blkOf_len _ _ _) HLL.out).trans (congrArg (fun b => Result.ok (Next.value (Value.bool b)) w9) HR.out)) ?_))
          have HT0 := Aside0.mk (tabb_below HT9.out (below_drew (Below.refl _ _)))
          have H120 := Aside0.mk (blk_drew H129.out)
          have H90 := Aside0.mk (blk_drew H99.out)
          have HB0 := Aside0.mk HB9.out.drew
          refine start_ (n := 8) (S := fun w' => (∀ j v, ((blkOf l z p).map (Value.int .i64))[j]? = some v → w'.cell? ((⟨g12, 0, none⟩ : Addr).add j) = some v) ∧ True) (ds := [6]) #[false, false, false, false, false, false, false, false] (by kernel_rfl) rfl rfl ⟨arr_range H120.out, trivial⟩ (fun hHeld => ?_)
          generalize w9.drew = w10 at HT0 H120 H90 HB0 hHeld ⊢
          refine take_ (i := 0) (N := some 45) (v := .agg (arr (blkOf l z p))) (a' := ?_) #[true, false, false, false, false, false, false, false] rfl rfl (by kernel_rfl) (fun _ _ _ h => h) (Or.inl ⟨by rfl, ?_⟩) hHeld ?_ ?_
          · rintro w' ⟨s0, s1⟩
            exact exec_load_arr 107 (.tmp 12) rfl ⟨g12, 0, none⟩ rfl (blkOf l z p) s0 128 3 Try.underlying107 size_blk (blkOf_len _ _ _)
          rotate_left
          · simp only [Act.put, List.setIfInBounds_toArray, List.set_cons_zero, List.set_cons_succ, i64_w, i32_w]
            rfl
          refine pure_ (i := 1) (N := some 46) (v := ?_) (a' := ?_) #[true, true, false, false, false, false, false, false] rfl rfl (by kernel_rfl) (fun _ _ _ h => h) (Or.inl ⟨by rfl, ?_⟩) ?_ ?_
          rotate_left
          · intro w'
            go_simp
            with_reducible rfl
          rotate_left
          · simp only [Act.put, List.setIfInBounds_toArray, List.set_cons_zero, List.set_cons_succ, i64_w, i32_w]
            rfl
          refine pure_ (i := 2) (N := some 47) (v := ?_) (a' := ?_) #[true, true, true, false, false, false, false, false] rfl rfl (by kernel_rfl) (fun _ _ _ h => h) (Or.inl ⟨by rfl, ?_⟩) ?_ ?_
          rotate_left
          · intro w'
            go_simp
            with_reducible rfl
          rotate_left
          · simp only [Act.put, List.setIfInBounds_toArray, List.set_cons_zero, List.set_cons_succ, i64_w, i32_w]
            rfl
          refine pure_ (i := 3) (N := some 48) (v := ?_) (a' := ?_) #[true, true, true, true, false, false, false, false] rfl rfl (by kernel_rfl) (fun _ _ _ h => h) (Or.inl ⟨by rfl, ?_⟩) ?_ ?_
          rotate_left
          · intro w'
            go_simp
            with_reducible rfl
          rotate_left
          · simp only [Act.put, List.setIfInBounds_toArray, List.set_cons_zero, List.set_cons_succ, i64_w, i32_w]
            rfl
          refine take_ (i := 4) (N := some 49) (v := .agg (arr (blkOf l z p))) (a' := ?_) #[true, true, true, true, true, false, false, false] rfl rfl (by kernel_rfl) (fun _ _ _ h => h) (Or.inl ⟨by rfl, ?_⟩) hHeld ?_ ?_
          · rintro w' ⟨s0, s1⟩
            exact exec_load_arr 107 (.tmp 12) rfl ⟨g12, 0, none⟩ rfl (blkOf l z p) s0 128 3 Try.underlying107 size_blk (blkOf_len _ _ _)
          rotate_left
          · simp only [Act.put, List.setIfInBounds_toArray, List.set_cons_zero, List.set_cons_succ, i64_w, i32_w]
            rfl
          refine one_ (i := 5) (N := some 50) #[true, true, true, true, true, true, false, false] rfl rfl (by kernel_rfl) (by decide) (fun K hK => ?_)
          refine (goes_ Try.func82 (by kernel_rfl) rfl #[.pointer (some ⟨g, 0, none⟩), .agg (arr (blkOf l z p))] (by rfl) rfl rfl (by (try simp only [List.map_toArray, List.map_cons, List.map_nil]); first | done | rfl) ?_)
          (with_reducible refine (p_add HT0.out (blkOf l z p) (blkOf_len _ _ _) HBS.out).mono ?_)
          rintro e w11 ⟨v3, rfl, hT, hM⟩
          refine ⟨_, rfl, ?_⟩
          have HT11 := Aside0.mk hT
          have H911 := Aside0.mk (hM.keeps H90.out HG9.out.2 HO9.out)
          have HB11 := Aside0.mk (HB0.out.trans (hM.below_base HB0.out.size HGG.out (r_base HT0.out)))
          have HOX := Aside0.mk (show some g9 ≠ v3.ownBlock from fun e => by rcases hM.2.1 _ e.symm with h | h; exact HO9.out h.symm; have := blk_lt H90.out; omega)
          have H1211 := Aside0.mk (hM.keeps H120.out HG12.out.2.1 HG12.out.2.2.2)
          clear hT hM
          refine hK.out _ _ ⟨arr_range H1211.out, trivial⟩ (fun hHeld => ?_)
          clear hK K
          refine norm_ (a' := ?_) ?_ ?_
          rotate_left
          · show Act.put _ (some 50) _ = _
            simp only [Act.put, List.setIfInBounds_toArray, List.set_cons_zero, List.set_cons_succ, i64_w, i32_w]
            rfl
          refine last_ (i := 6) (N := none) #[true, true, true, true, true, true, true, false] rfl rfl (by kernel_rfl) (by decide) (fun K hK => ?_)
          refine skip_ (w1 := w11.setRow g9 (arr (blkOf l z p))) (by rfl) rfl (exec_store_arr 107 _ _ rfl g9 (blkOf l z p) rfl rfl 107 lst H911.out 128 size_blk (blkOf_len _ _ _) HLL.out) ?_
          refine hK.out _ _ ?_
          clear hK K
          have H9X := Aside0.mk (show (w11.setRow g9 (arr (blkOf l z p))).heap[g9]? = some (.cells (arr (blkOf l z p)) 107 (0, 0)) from setRow_heap w11 g9 _ _ _ _ H911.out)
          have hwx := Wrote.row w11 g9 (arr (blkOf l z p))
          have HTX := Aside0.mk (tabb_wrote HT11.out hwx HG9.out.2 (Kd.R_ne HT11.out.2.1 H911.out (by decide)) HOX.out)
          have HBX := Aside0.mk (hwx.below HB11.out HG9.out.1)
          clear hwx
          generalize w11.setRow g9 (arr (blkOf l z p)) = wx at H9X HTX HBX ⊢
          refine pure_ (i := 7) (N := some 10) (v := ?_) (a' := ?_) #[true, true, true, true, true, true, true, true] rfl rfl (by kernel_rfl) (fun _ _ _ h => h) (Or.inl ⟨by rfl, ?_⟩) ?_ ?_
          rotate_left
          · intro w'
            go_simp
            with_reducible rfl
          rotate_left
          · simp only [Act.put, List.setIfInBounds_toArray, List.set_cons_zero, List.set_cons_succ, i64_w, i32_w]
            rfl
          refine done_ (by kernel_rfl) ?_
          have kk0 := (blk_cell HTX.out.1 0).trans rfl
          obtain ⟨⟨u_, ku_⟩, kf_, kb_, _⟩ := tabb_row HTX.out p (by rw [HFL.out]; exact HP.out)
          have HBB := Aside0.mk kb_
          have q5 := eq_true (show (0 : Int) ≤ (p : Int) by omega)
          have q6 := eq_true (show (p : Int) < (n1 : Int) by have := HN1.out; have := HP.out; omega)
          have q7 := eq_true (show p < n1 by have := HN1.out; have := HP.out; omega)
          clear kb_
          go_wp2
          go_roundg (N + 1 - (p + 1))
          case measure => have h1_ := HQ.out; have h2_ := HP.out; have h3_ := HN.out; omega
          case rel => exact ⟨p + 1, m', _, fs.set p _, _, blkOf l z p, v3, rfl, rfl, by first | rfl | rw [hwi], ⟨bi_new HI.out HP.out HM.out, by have := HP.out; have := HN.out; omega, Nat.le_refl _⟩, ⟨tabb_put HTX.out p _⟩, ⟨(Wrote.set wx b1 p _).blk H9X.out (fun e => Kd.R_ne HTX.out.2.1 H9X.out (by decide) (by rw [e]; rfl))⟩, HOX, ⟨(Wrote.set wx b1 p _).below HBX.out HBB.out⟩⟩
        | false =>
          go_wp2_with (first | ((with_reducible refine gate_dst (N := 12) rfl ?_); refine wp_alloc_arr rfl 107 rfl (rep 0) zero_blk ?_; intro g12 hg w7 hb hB; have H12 := Aside0.mk hb; have H97 := Aside0.mk (blk_below H9.out hB); have HT7 := Aside0.mk (tabb_below HT.out hB); have HB7 := Aside0.mk (below_step HB.out hB); have HG12 := Aside0.mk (show w.heap.size ≤ g12 ∧ g12 ≠ g ∧ g9 ≠ g12 ∧ some g12 ≠ v2.ownBlock from ⟨by have := HB.out.size; omega, by have := blk_lt HT.out.1; omega, by have := blk_lt H9.out; omega, fun e => by have := Kd.R_lt HT.out.2.2.1 _ e.symm; omega⟩); clear hg hb hB) | (go_at_call 81; (with_reducible refine (p_filled (Kd.C_below HC.out HB7.out) HO.out HLEN.out p HP.out m HM0.out.1 HM0.out.2 z).mono ?_); rintro e w8 ⟨m', rfl, hm1, hm2, hb⟩; have HM := Aside0.mk (And.intro hm1 hm2); have H128 := Aside0.mk (blk_below H12.out hb); have H98 := Aside0.mk (blk_below H97.out hb); have HT8 := Aside0.mk (tabb_below HT7.out hb); have HB8 := Aside0.mk (below_step HB7.out hb); clear hm1 hm2 hb) | ((with_reducible refine gate_store (t := 107) (p := 12) rfl ?_); refine wp_store_arr rfl 107 _ _ rfl rfl g12 (blkOf l z p) rfl rfl 107 _ H128.out 128 size_blk (blkOf_len _ _ _) rep_len ?_; intro w9 h5 hw5; have H129 := Aside0.mk h5; have H99 := Aside0.mk (hw5.blk H98.out HG12.out.2.2.1); have HT9 := Aside0.mk (tabb_wrote HT8.out hw5 HG12.out.2.1 (Kd.R_ne HT8.out.2.1 H128.out (by decide)) HG12.out.2.2.2); have HB9 := Aside0.mk (hw5.below HB8.out HG12.out.1); clear h5 hw5; have kk0 := (blk_cell HT9.out.1 0).trans rfl; obtain ⟨⟨u_, ku_⟩, kf_, kb_, _⟩ := tabb_row HT9.out p (by rw [HFL.out]; exact HP.out); have HBB := Aside0.mk kb_; have q5 := eq_true (show (0 : Int) ≤ (p : Int) by omega); have q6 := eq_true (show (p : Int) < (n1 : Int) by have := HN1.out; have := HP.out; omega); have q7 := eq_true (show p < n1 by have := HN1.out; have := HP.out; omega); clear kb_) | ((with_reducible refine gate_dst (N := 41) rfl ?_); refine gate_guard (by rfl) ?_; dsimp only; refine wp_load_arr rfl 107 _ rfl g12 rfl 107 _ H129.out 128 3 Try.underlying107 size_blk (blkOf_len _ _ _) ?_) | ((with_reducible refine gate_dst (N := 42) rfl ?_); refine gate_guard (by rfl) ?_; dsimp only; refine wp_load_arr rfl 107 _ rfl g9 rfl 107 _ H99.out 128 3 Try.underlying107 size_blk HLL.out ?_) | ((with_reducible refine gate_dst (N := 43) rfl ?_); refine gate_guard (by rfl) ?_; dsimp only; refine Kd.event_run rfl (v := .bool false) ((exec_eq_arr true 107 107 (.tmp 41) (.tmp 42) rfl (blkOf l z p) lst rfl rfl (by kernel_rfl) 128 3 Try.underlying107 Try.underlying3 size_int (blkOf_len _ _ _) HLL.out).trans (congrArg (fun b => Result.ok (Next.value (Value.bool b)) w9) HR.out)) ?_))
          have HEQ := Aside0.mk (show blkOf l z p = lst by have := HR.out; simpa using this)
          go_roundg (N + 1 - (p + 1))
          case measure => have h1_ := HQ.out; have h2_ := HP.out; have h3_ := HN.out; omega
          case rel => exact ⟨p + 1, m', la, fs.set p la, bs, lst, v2, rfl, rfl, by first | rfl | rw [hwi], ⟨bi_same HI.out HPP.out HP.out HEQ.out HM.out, by have := HP.out; have := HN.out; omega, Nat.le_refl _⟩, ⟨tabb_put HT9.out p la⟩, ⟨(Wrote.set w9 b1 p (.int .i64 la)).blk H99.out (fun e => Kd.R_ne HT9.out.2.1 H99.out (by decide) (by rw [e]; rfl))⟩, HO9, ⟨(Wrote.set w9 b1 p (.int .i64 la)).below HB9.out HBB.out⟩⟩
    · have q0 : decide ((p : Int) < 8704) = false := decide_eq_false (by omega)
      have HE := Aside0.mk (show p = 8704 by have := HQ.out.1; have := HN.out; omega)
      clear hp
      go_wp2
      (try simp only [Exit.inBlock, Exit.then])
      refine bodyPost_ret (results_list (rs := [.tmp 4, .tmp 5]) rfl (by simp) (.tmp (.tmp .nil))) rfl ?_
      exact ⟨g, fs, bs, by first | rfl | (simp; done), HB.out, tabb_tab HT.out, HGG.out, bi_end (by rw [← HE.out]; exact HI.out)⟩
theorem aw_row (w : World) : Kd.C kR (w.alloc (.cells #[.int .i64 5, .int .i64 6, .int .i64 9] 66 (0, 0))) (some ⟨w.heap.size, 0, none⟩) 1 [⟨5, 6, 9⟩] := by
  refine ⟨rfl, by decide, fun _ => ⟨_, rfl, fun j p hp => ?_⟩⟩
  match j, hp with
  | 0, hp =>
    obtain rfl := Option.some.inj hp
    refine ⟨[.int .i64 5, .int .i64 6, .int .i64 9], rfl, kR_mk _ _, fun i u hu => ?_⟩
    rw [Addr.add_mid, Nat.zero_add, blk_cell (blk_new w _)]
    simpa using hu
  | j + 1, hp => simp at hp
theorem C_map {α β : Type} {d : Kd α} {d' : Kd β} (f : α → β) {w : World} {A : Option Addr} {n : Nat} {xs : List α} (hs : d'.sz = d.sz) (hK : ∀ x cs, d.K w x cs → d'.K w (f x) cs) (h : d.C w A n xs) : d'.C w A n (xs.map f) :=
  ⟨by rw [List.length_map]; exact h.1, h.2.1, fun hn => by
    obtain ⟨ad, e, hc⟩ := h.2.2 hn
    refine ⟨ad, e, fun j p hp => ?_⟩
    rw [List.getElem?_map] at hp
    obtain ⟨x, hx, rfl⟩ := Option.map_eq_some_iff.1 hp
    obtain ⟨c, h1, h2, h3⟩ := hc j x hx
    exact ⟨c, h1.trans hs.symm, hK _ _ h2, by rw [hs]; exact h3⟩⟩
/-- How many unlike blocks there are: as many as a list without doubles of parts that stand for all. -/
theorem built_len {l : List Rg} {z : Int} {fs : List Int} {bs : List (List Int)} (h : Built l z fs bs) (qs : List Nat) (hn : (qs.map (blkOf l z)).Nodup) (h1 : ∀ q, q ∈ qs → q < 8704) (h2 : ∀ q, q < 8704 → ∃ p, p ∈ qs ∧ blkOf l z p = blkOf l z q) : bs.length = qs.length := by
  have hp : bs.Perm (qs.map (blkOf l z)) := (List.perm_ext_iff_of_nodup h.2.1 hn).2 fun b => by
    constructor
    · intro hb
      obtain ⟨q, hq, e⟩ := h.2.2.1 b hb
      obtain ⟨p, hp, e2⟩ := h2 q hq
      exact List.mem_map.2 ⟨p, hp, e2.trans e.symm⟩
    · intro hb
      obtain ⟨q, hq, e⟩ := List.mem_map.1 hb
      have h3 := h.2.2.2 q (h1 q hq)
      have h4 := h.1.2 q (h1 q hq)
      rw [← e, ← h3, List.getD, List.getElem?_eq_getElem (by omega)]
      exact List.getElem_mem _
  rw [hp.length_eq, List.length_map]
theorem blk_ne {l : List Rg} {z : Int} {p q k : Nat} (hk : k < 128) (h : valR l z ((128 * p + k : Nat) : Int) ≠ valR l z ((128 * q + k : Nat) : Int)) : blkOf l z p ≠ blkOf l z q := fun e => h (by rw [← blkOf_at l z p k hk, ← blkOf_at l z q k hk, e])
theorem blk_eq {l : List Rg} {z : Int} {p q : Nat} (h : ∀ k, k < 128 → valR l z ((128 * p + k : Nat) : Int) = valR l z ((128 * q + k : Nat) : Int)) : blkOf l z p = blkOf l z q :=
  blk_is (blkOf_len _ _ _) (fun k hk => by rw [blkOf_at _ _ _ _ hk]; exact h k hk)
def aw : List Rg := [⟨5, 6, 9⟩]
theorem aw_at (c : Int) : valR aw 1 c = if 5 ≤ c ∧ c ≤ 6 then 9 else 1 := rfl
theorem aw_chk : chk aw = 0 := by decide
theorem aw_len {fs : List Int} {bs : List (List Int)} (h : Built aw 1 fs bs) : bs.length = 2 := by
  have hne : blkOf aw 1 0 ≠ blkOf aw 1 1 := blk_ne (k := 5) (by decide) (by rw [aw_at, aw_at]; decide)
  refine built_len h [0, 1] ?_ (fun q hq => ?_) (fun q hq => ?_)
  · rw [List.map_cons, List.map_cons, List.map_nil]
    exact List.nodup_cons.2 ⟨by simpa using hne, by simp⟩
  · simp at hq; omega
  · by_cases e : q = 0
    · exact ⟨0, by simp, by rw [e]⟩
    · refine ⟨1, by simp, blk_eq fun k hk => ?_⟩
      rw [aw_at, aw_at, if_neg (by omega), if_neg (by omega)]
theorem aw_has {fs : List Int} {bs : List (List Int)} (h : Built aw 1 fs bs) : (if (0 : Int) ≤ 6 ∧ (6 : Int) ≤ 1114111 then tabv fs bs 6 else 1) = 9 ∧ (if (0 : Int) ≤ 7 ∧ (7 : Int) ≤ 1114111 then tabv fs bs 7 else 1) = 1 := by
  rw [if_pos (by decide), if_pos (by decide), built_at h 6 (by decide) (by decide), built_at h 7 (by decide) (by decide)]
  exact ⟨rfl, rfl⟩
theorem p_build_aw (w : World) : Calls Try.prog 44 #[.slice (some ⟨w.heap.size, 0, none⟩) 1 1, .int .i64 1] (w.alloc (.cells #[.int .i64 5, .int .i64 6, .int .i64 9] 66 (0, 0))) (BuiltR (w.alloc (.cells #[.int .i64 5, .int .i64 6, .int .i64 9] 66 (0, 0))) aw 1) := p_build (l := aw) (aw_row w) aw_chk 1
/-- The longest ranges of one value from a on, ahead of b. -/
def Seg (V : Int → Int) : List Rg → Int → Int → Prop
  | [], a, b => a = b
  | r :: rs, a, b => (r.lo = a ∧ a ≤ r.hi ∧ r.hi ≤ 1114111) ∧ (∀ x, a ≤ x → x ≤ r.hi → V x = r.va) ∧ (r.hi < 1114111 → V (r.hi + 1) ≠ r.va) ∧ Seg V rs (r.hi + 1) b
theorem seg_snoc {V : Int → Int} {lo hi va : Int} : ∀ {rs : List Rg} {a : Int}, Seg V rs a lo → lo ≤ hi → hi ≤ 1114111 → (∀ x, lo ≤ x → x ≤ hi → V x = va) → (hi < 1114111 → V (hi + 1) ≠ va) → Seg V (rs ++ [⟨lo, hi, va⟩]) a (hi + 1)
  | [], a, h, h1, h2, h3, h4 => by
    have e : a = lo := h
    subst e
    exact ⟨⟨rfl, h1, h2⟩, h3, h4, rfl⟩
  | r :: rs, a, h, h1, h2, h3, h4 => ⟨h.1, h.2.1, h.2.2.1, seg_snoc h.2.2.2 h1 h2 h3 h4⟩
theorem seg_len {V : Int → Int} {b : Int} : ∀ {rs : List Rg} {a : Int}, Seg V rs a b → (rs.length : Int) ≤ b - a
  | [], a, h => by have e : a = b := h; simp; omega
  | r :: rs, a, h => by have h1 := seg_len h.2.2.2; have h2 := h.1; simp only [List.length_cons]; omega
def EachI (V : Int → Int) (rs : List Rg) (lo va c : Int) : Prop := Seg V rs 0 lo ∧ 0 ≤ lo ∧ lo < c ∧ c ≤ 1114112 ∧ ∀ x, lo ≤ x → x < c → V x = va
theorem ei_skip {V : Int → Int} {rs : List Rg} {lo va c : Int} (n : Int) (h : EachI V rs lo va c) (hn : 0 ≤ n) (h1 : ∀ x, c ≤ x → x < c + n → V x = va) (h2 : c + n ≤ 1114112) : EachI V rs lo va (c + n) :=
  ⟨h.1, h.2.1, by have := h.2.2.1; omega, h2, fun x hx hy => by
    by_cases e : x < c
    · exact h.2.2.2.2 x hx e
    · exact h1 x (by omega) hy⟩
theorem ei_new {V : Int → Int} {rs : List Rg} {lo va c v : Int} (h : EachI V rs lo va c) (hv : V c = v) (hne : v ≠ va) (hc : c ≤ 1114111) : EachI V (rs ++ [⟨lo, c - 1, va⟩]) c v (c + 1) := by
  have h2 := h.2.2.1
  have h3 := seg_snoc (hi := c - 1) (va := va) h.1 (by omega) (by omega) (fun x hx hy => h.2.2.2.2 x hx (by omega)) (fun _ => by rw [show c - 1 + 1 = c by omega, hv]; exact hne)
  rw [show c - 1 + 1 = c by omega] at h3
  exact ⟨h3, by have := h.2.1; omega, by omega, by omega, fun x hx hy => by rw [show x = c by omega]; exact hv⟩
theorem ei_end {V : Int → Int} {rs : List Rg} {lo va : Int} (h : EachI V rs lo va 1114112) : Seg V (rs ++ [⟨lo, 1114111, va⟩]) 0 1114112 :=
  seg_snoc (hi := 1114111) h.1 (by have := h.2.2.1; omega) (by omega) (fun x hx hy => h.2.2.2.2 x hx (by omega)) (fun h => by omega)
theorem drawn_below0 {w w' : World} (hd : Drawn0 w w') : Below w.heap.size w w' := by obtain ⟨n, e⟩ := hd; rw [e]; exact pw_below_drewN (Below.refl _ _) n
theorem whole_is {fs : List Int} {bs : List (List Int)} {c va : Int} (h0 : 0 ≤ c) (hm : c % 128 = 0) (h : bs.getD (rd fs (c / 128)).toNat [] = rep va) : ∀ x, c ≤ x → x < c + 128 → tabv fs bs x = va := fun x hx hy => by
  unfold tabv
  rw [show x / 128 = c / 128 by omega]
  have h1 : bs.getD (fs.getD (c / 128).toNat 0).toNat [] = rep va := h
  rw [h1, rep_at _ _ (by omega)]
set_option maxHeartbeats 8000000 in
set_option maxRecDepth 100000 in
theorem p_each93 {w : World} {g : Nat} {fs : List Int} {bs : List (List Int)} {z : Int} (h : TabR w g fs bs z true) (hk : TabOk fs bs) (u1 u2 : Value) (Inv : Nat → World → List Rg → Prop)
    (hi0 : ∀ g4 w', w.heap.size ≤ g4 → g4 < w'.heap.size → Below w.heap.size w w' → Inv g4 w' [])
    (hst : ∀ g4 w' w'' rs, w.heap.size ≤ g4 → Inv g4 w' rs → Below w'.heap.size w' w'' → Inv g4 w'' rs)
    (hwr : ∀ g4 w' w'' rs, w.heap.size ≤ g4 → Inv g4 w' rs → Wrote w' w'' g4 → Inv g4 w'' rs)
    (hT : ∀ g4 w' rs, Inv g4 w' rs → TabR w' g fs bs z true)
    (hcl : ∀ g4 w' rs (r : Rg) cells t, w.heap.size ≤ g4 → w'.heap[g4]? = some (.cells cells t (0, 0)) → Inv g4 w' rs → rs.length ≤ 1114112 → Calls Try.prog 93 #[.agg #[.int .i64 r.lo, .int .i64 r.hi, .int .i64 r.va], u1, u2] w' fun e w'' => e = .returned (.tuple #[]) ∧ Inv g4 w'' (rs ++ [r]) ∧ w''.heap[g4]? = w'.heap[g4]?) :
    Calls Try.prog 92 #[.pointer (some ⟨g, 0, none⟩), .func (.func 93) #[] #[u1, u2]] w fun e w' => e = .returned (.tuple #[]) ∧ ∃ g4 rs, Inv g4 w' rs ∧ Seg (tabv fs bs) rs 0 1114112 := by
  have HT := Aside0.mk h
  have HK := Aside0.mk hk
  obtain ⟨A1, c1, A2, c2, hG, _, _⟩ := h
  have k2 := (blk_cell hG 2).trans rfl
  have k3 := (blk_cell hG 3).trans rfl
  obtain ⟨v0, hv0⟩ : ∃ v0, tabv fs bs 0 = v0 := ⟨_, rfl⟩
  have HV0 := Aside0.mk hv0
  clear hk hG hv0
  go_enter Try.func92, Try.ntmps92
  go_wp2_with (first | (go_at_call 84; (with_reducible refine (p_at HT.out HK.out 0 (by decide) (by decide)).mono ?_); rw [HV0.out]; rintro e w1 ⟨rfl, hd⟩; have HB1 := Aside0.mk (show Below w.heap.size w w1 from by obtain ⟨n, e⟩ := hd; rw [e]; exact pw_below_drewN (Below.refl _ _) n); clear hd) | ((with_reducible refine gate_dst (N := 4) rfl ?_); refine wp_alloc_cells rfl 66 rfl _ zero_rng ?_; intro g4 hg w2 hb hB; have H4 := Aside0.mk hb; have HB2 := Aside0.mk (below_step HB1.out hB); have HG4 := Aside0.mk (show w.heap.size ≤ g4 by have := HB1.out.size; omega); have c0 := (blk_cell H4.out 0).trans rfl; have c1_ := (blk_cell H4.out 1).trans rfl; have c2_ := (blk_cell H4.out 2).trans rfl; have f0 := blk_frozen H4.out 0; have f1 := blk_frozen H4.out 1; have f2 := blk_frozen H4.out 2; clear hg hb hB))
  clear k2 k3
  go_loopg [5] 1114112 (fun kq v5 w' => ∃ (c lo va : Int) (rs : List Rg), v5 = .int .i64 c ∧ Aside0 (EachI (tabv fs bs) rs lo va c ∧ (1114112 - c).toNat ≤ kq) ∧ Aside0 (w'.heap[g4]? = some (.cells #[.int .i64 lo, .int .i64 0, .int .i64 va] 66 (0, 0))) ∧ Aside0 (Inv g4 w' rs))
  case atStart =>
    have hw5 := ((Wrote.set w2 g4 0 (.int .i64 0)).trans (Wrote.set _ g4 1 (.int .i64 0))).trans (Wrote.set _ g4 2 (.int .i64 v0))
    exact ⟨1, 0, v0, [], rfl, ⟨⟨rfl, by decide, by decide, by decide, fun x hx hy => by rw [show x = 0 by omega]; exact HV0.out⟩, by decide⟩, ⟨(blk_set (blk_set (blk_set H4.out 0 _) 1 _) 2 _).trans rfl⟩, ⟨hwr _ _ _ _ HG4.out (hi0 _ _ HG4.out (blk_lt H4.out) HB2.out) hw5⟩⟩
  case round =>
    clear H4 HB2 HB1 HV0 c0 c1_ c2_ f0 f1 f2
    obtain ⟨c, lo, va, rs, rfl, HEM, Hr, HIr⟩ := hrel
    have HE := Aside0.mk HEM.out.1
    have HM := Aside0.mk HEM.out.2
    have HLS := Aside0.mk (show rs.length ≤ 1114112 by have h1 := seg_len HEM.out.1.1; have h2 := HEM.out.1.2.2.1; have h3 := HEM.out.1.2.2.2.1; omega)
    clear HEM
    have k2_r := (blk_cell Hr.out 2).trans rfl
    have hc0 : 0 ≤ c := by have := HE.out.2.1; have := HE.out.2.2.1; omega
    have HC0 := Aside0.mk hc0
    by_cases hc : c ≤ 1114111
    · have b0 : decide (c ≤ 1114111) = true := decide_eq_true hc
      have HC1 := Aside0.mk hc
      have hbit : Go.bits .and .i64 c 127 = c % 128 := i64_and127 c
      have hwc : IntKind.i64.wrap (c + 1) = c + 1 := (i64_w _).trans (by unfold wrap64; omega)
      have hwm : IntKind.i64.wrap (c - 1) = c - 1 := (i64_w _).trans (by unfold wrap64; omega)
      have hwk : IntKind.i64.wrap (c + 127) = c + 127 := (i64_w _).trans (by unfold wrap64; omega)
      have hwl : IntKind.i64.wrap (c + 127 + 1) = c + 128 := (i64_w _).trans (by unfold wrap64; omega)
      obtain ⟨v, hv⟩ : ∃ v, tabv fs bs c = v := ⟨_, rfl⟩
      have HV := Aside0.mk hv
      have hlo : 1 ≤ c := by have := HE.out.2.1; have := HE.out.2.2.1; omega
      clear hv
      by_cases hm : c % 128 = 0
      · have b2 : decide (c % 128 = 0) = true := decide_eq_true hm
        have b3 : (c % 128 == 0) = true := by simp [hm]
        have HQ0 := Aside0.mk (show 0 ≤ c / 128 - 1 by omega)
        have HQ1 := Aside0.mk (show c / 128 < 8704 by omega)
        obtain ⟨r, hr⟩ : ∃ r, (decide (rd fs (c / 128) = rd fs (c / 128 - 1)) && decide (bs.getD (rd fs (c / 128)).toNat [] = rep va)) = r := ⟨_, rfl⟩
        have HR := Aside0.mk hr
        cases r with
        | true =>
          have HW := Aside0.mk (ei_skip 128 HE.out (by decide) (whole_is hc0 hm (by simp at hr; exact hr.2)) (by omega))
          clear hr hm hc hc0 hlo
          go_wp2_with (first | (go_at_call 105; (with_reducible refine (p_whole (hT _ _ _ HIr.out) HK.out (c / 128) (c / 128 - 1) va (by omega) HQ0.out HQ1.out).mono ?_); rw [HR.out]; rintro e w5 ⟨rfl, hb⟩; have H5 := Aside0.mk (blk_below Hr.out hb); have HI5 := Aside0.mk (hst _ _ _ _ HG4.out HIr.out hb); have k0_5 := (blk_cell H5.out 0).trans rfl; have k2_5 := (blk_cell H5.out 2).trans rfl; clear hb))
          go_roundg (1114112 - (c + 128)).toNat
          case measure => have h1_ := HM.out; have h2_ := HC1.out; omega
          case rel => exact ⟨c + 128, lo, va, rs, by first | rfl | rw [hwl], ⟨HW.out, Nat.le_refl _⟩, H5, HI5⟩
        | false =>
          clear hr hm hc hc0 hlo
          by_cases hv : v = va
          · have b1_ : (v != va) = false := by simp [hv]
            have HX := Aside0.mk (ei_skip 1 HE.out (by decide) (fun x hx hy => by rw [show x = c by omega, HV.out]; exact hv) (by have := HC1.out; omega))
            clear hv
            go_wp2_with (first | (go_at_call 105; (with_reducible refine (p_whole (hT _ _ _ HIr.out) HK.out (c / 128) (c / 128 - 1) va (by omega) HQ0.out HQ1.out).mono ?_); rw [HR.out]; rintro e w5 ⟨rfl, hb⟩; have H5 := Aside0.mk (blk_below Hr.out hb); have HI5 := Aside0.mk (hst _ _ _ _ HG4.out HIr.out hb); have k0_5 := (blk_cell H5.out 0).trans rfl; have k2_5 := (blk_cell H5.out 2).trans rfl; clear hb) | (go_at_call 84; (with_reducible refine (p_at (hT _ _ _ HI5.out) HK.out c HC0.out HC1.out).mono ?_); rw [HV.out]; rintro e w6 ⟨rfl, hd⟩; have hb := drawn_below0 hd; have H6 := Aside0.mk (blk_below H5.out hb); have HI6 := Aside0.mk (hst _ _ _ _ HG4.out HI5.out hb); have k0_6 := (blk_cell H6.out 0).trans rfl; have k2_6 := (blk_cell H6.out 2).trans rfl; clear hb; have k1_ := (blk_cell H6.out 1).trans rfl; have f1_ := blk_frozen H6.out 1; clear hd))
            go_roundg (1114112 - (c + 1)).toNat
            case measure => have h1_ := HM.out; have h2_ := HC1.out; omega
            case rel => exact ⟨c + 1, lo, va, rs, by first | rfl | rw [hwc], ⟨HX.out, Nat.le_refl _⟩, H6, HI6⟩
          · have b1_ : (v != va) = true := by simp [hv]
            have HX := Aside0.mk (ei_new HE.out HV.out hv HC1.out)
            clear hv
            go_wp2_with (first | (go_at_call 105; (with_reducible refine (p_whole (hT _ _ _ HIr.out) HK.out (c / 128) (c / 128 - 1) va (by omega) HQ0.out HQ1.out).mono ?_); rw [HR.out]; rintro e w5 ⟨rfl, hb⟩; have H5 := Aside0.mk (blk_below Hr.out hb); have HI5 := Aside0.mk (hst _ _ _ _ HG4.out HIr.out hb); have k0_5 := (blk_cell H5.out 0).trans rfl; have k2_5 := (blk_cell H5.out 2).trans rfl; clear hb) | (go_at_call 84; (with_reducible refine (p_at (hT _ _ _ HI5.out) HK.out c HC0.out HC1.out).mono ?_); rw [HV.out]; rintro e w6 ⟨rfl, hd⟩; have hb := drawn_below0 hd; have H6 := Aside0.mk (blk_below H5.out hb); have HI6 := Aside0.mk (hst _ _ _ _ HG4.out HI5.out hb); have k0_6 := (blk_cell H6.out 0).trans rfl; have k2_6 := (blk_cell H6.out 2).trans rfl; clear hb; have k1_ := (blk_cell H6.out 1).trans rfl; have f1_ := blk_frozen H6.out 1; clear hd) | (go_at_call 93; have H7 := Aside0.mk (show (w6.setCell ⟨g4, 1, none⟩ (.int .i64 (c - 1))).heap[g4]? = some (.cells #[.int .i64 lo, .int .i64 (c - 1), .int .i64 va] 66 (0, 0)) from (blk_set H6.out 1 _).trans rfl); have HI7 := Aside0.mk (hwr _ _ _ _ HG4.out HI6.out (Wrote.set w6 g4 1 (.int .i64 (c - 1)))); (with_reducible refine (hcl g4 _ rs ⟨lo, c - 1, va⟩ _ _ HG4.out H7.out HI7.out HLS.out).mono ?_); rintro e w8 ⟨rfl, hi8, hk8⟩; have H8 := Aside0.mk (hk8.trans H7.out); have HI8 := Aside0.mk hi8; have d0_ := (blk_cell H8.out 0).trans rfl; have d1_ := (blk_cell H8.out 1).trans rfl; have d2_ := (blk_cell H8.out 2).trans rfl; have e0_ := blk_frozen H8.out 0; have e1_ := blk_frozen H8.out 1; have e2_ := blk_frozen H8.out 2; clear hi8 hk8))
            go_roundg (1114112 - (c + 1)).toNat
            case measure => have h1_ := HM.out; have h2_ := HC1.out; omega
            case rel =>
              have hw9 := ((Wrote.set w8 g4 0 (.int .i64 c)).trans (Wrote.set _ g4 1 (.int .i64 0))).trans (Wrote.set _ g4 2 (.int .i64 v))
              exact ⟨c + 1, c, v, rs ++ [⟨lo, c - 1, va⟩], by first | rfl | rw [hwc], ⟨HX.out, Nat.le_refl _⟩, ⟨(blk_set (blk_set (blk_set H8.out 0 _) 1 _) 2 _).trans rfl⟩, ⟨hwr _ _ _ _ HG4.out HI8.out hw9⟩⟩
      · have b2 : decide (c % 128 = 0) = false := decide_eq_false hm
        have b3 : (c % 128 == 0) = false := by simp [hm]
        clear hm hc hc0 hlo
        by_cases hv : v = va
        · have b1_ : (v != va) = false := by simp [hv]
          have HX := Aside0.mk (ei_skip 1 HE.out (by decide) (fun x hx hy => by rw [show x = c by omega, HV.out]; exact hv) (by have := HC1.out; omega))
          clear hv
          go_wp2_with (first | (go_at_call 84; (with_reducible refine (p_at (hT _ _ _ HIr.out) HK.out c HC0.out HC1.out).mono ?_); rw [HV.out]; rintro e w6 ⟨rfl, hd⟩; have hb := drawn_below0 hd; have H6 := Aside0.mk (blk_below Hr.out hb); have HI6 := Aside0.mk (hst _ _ _ _ HG4.out HIr.out hb); have k0_6 := (blk_cell H6.out 0).trans rfl; have k2_6 := (blk_cell H6.out 2).trans rfl; clear hb; have k1_ := (blk_cell H6.out 1).trans rfl; have f1_ := blk_frozen H6.out 1; clear hd))
          go_roundg (1114112 - (c + 1)).toNat
          case measure => have h1_ := HM.out; have h2_ := HC1.out; omega
          case rel => exact ⟨c + 1, lo, va, rs, by first | rfl | rw [hwc], ⟨HX.out, Nat.le_refl _⟩, H6, HI6⟩
        · have b1_ : (v != va) = true := by simp [hv]
          have HX := Aside0.mk (ei_new HE.out HV.out hv HC1.out)
          clear hv
          go_wp2_with (first | (go_at_call 84; (with_reducible refine (p_at (hT _ _ _ HIr.out) HK.out c HC0.out HC1.out).mono ?_); rw [HV.out]; rintro e w6 ⟨rfl, hd⟩; have hb := drawn_below0 hd; have H6 := Aside0.mk (blk_below Hr.out hb); have HI6 := Aside0.mk (hst _ _ _ _ HG4.out HIr.out hb); have k0_6 := (blk_cell H6.out 0).trans rfl; have k2_6 := (blk_cell H6.out 2).trans rfl; clear hb; have k1_ := (blk_cell H6.out 1).trans rfl; have f1_ := blk_frozen H6.out 1; clear hd) | (go_at_call 93; have H7 := Aside0.mk (show (w6.setCell ⟨g4, 1, none⟩ (.int .i64 (c - 1))).heap[g4]? = some (.cells #[.int .i64 lo, .int .i64 (c - 1), .int .i64 va] 66 (0, 0)) from (blk_set H6.out 1 _).trans rfl); have HI7 := Aside0.mk (hwr _ _ _ _ HG4.out HI6.out (Wrote.set w6 g4 1 (.int .i64 (c - 1)))); (with_reducible refine (hcl g4 _ rs ⟨lo, c - 1, va⟩ _ _ HG4.out H7.out HI7.out HLS.out).mono ?_); rintro e w8 ⟨rfl, hi8, hk8⟩; have H8 := Aside0.mk (hk8.trans H7.out); have HI8 := Aside0.mk hi8; have d0_ := (blk_cell H8.out 0).trans rfl; have d1_ := (blk_cell H8.out 1).trans rfl; have d2_ := (blk_cell H8.out 2).trans rfl; have e0_ := blk_frozen H8.out 0; have e1_ := blk_frozen H8.out 1; have e2_ := blk_frozen H8.out 2; clear hi8 hk8))
          go_roundg (1114112 - (c + 1)).toNat
          case measure => have h1_ := HM.out; have h2_ := HC1.out; omega
          case rel =>
            have hw9 := ((Wrote.set w8 g4 0 (.int .i64 c)).trans (Wrote.set _ g4 1 (.int .i64 0))).trans (Wrote.set _ g4 2 (.int .i64 v))
            exact ⟨c + 1, c, v, rs ++ [⟨lo, c - 1, va⟩], by first | rfl | rw [hwc], ⟨HX.out, Nat.le_refl _⟩, ⟨(blk_set (blk_set (blk_set H8.out 0 _) 1 _) 2 _).trans rfl⟩, ⟨hwr _ _ _ _ HG4.out HI8.out hw9⟩⟩
    · have b0 : decide (c ≤ 1114111) = false := decide_eq_false hc
      have HEE := Aside0.mk (show EachI (tabv fs bs) rs lo va 1114112 by have h := HE.out; have e : c = 1114112 := by have := h.2.2.2.1; omega
                                                                         rw [← e]; exact h)
      have k0_r := (blk_cell Hr.out 0).trans rfl
      have k1_r := (blk_cell Hr.out 1).trans rfl
      have f1_r := blk_frozen Hr.out 1
      clear hc hc0
      go_wp2_with (first | (go_at_call 93; have H7 := Aside0.mk (show (wr.setCell ⟨g4, 1, none⟩ (.int .i64 1114111)).heap[g4]? = some (.cells #[.int .i64 lo, .int .i64 1114111, .int .i64 va] 66 (0, 0)) from (blk_set Hr.out 1 _).trans rfl); have HI7 := Aside0.mk (hwr _ _ _ _ HG4.out HIr.out (Wrote.set wr g4 1 (.int .i64 1114111))); (with_reducible refine (hcl g4 _ rs ⟨lo, 1114111, va⟩ _ _ HG4.out H7.out HI7.out HLS.out).mono ?_); rintro e w8 ⟨rfl, hi8, hk8⟩; have H8 := Aside0.mk (hk8.trans H7.out); have HI8 := Aside0.mk hi8; have d0_ := (blk_cell H8.out 0).trans rfl; have d1_ := (blk_cell H8.out 1).trans rfl; have d2_ := (blk_cell H8.out 2).trans rfl; have e0_ := blk_frozen H8.out 0; have e1_ := blk_frozen H8.out 1; have e2_ := blk_frozen H8.out 2; clear hi8 hk8))
      first | go_end0 | ((try simp only [Exit.inBlock, Exit.then]); refine bodyPost_ret (results_none rfl _ _ _) rfl ?_)
      exact ⟨by first | rfl | (simp; done), g4, _, HI8.out, ei_end HEE.out⟩
end Go.Proofs.Ytmkgihmchkphaaa.Stk
