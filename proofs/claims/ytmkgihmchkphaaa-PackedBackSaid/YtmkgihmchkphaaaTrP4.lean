/- The trie: which block a part has. -/
import Derived.Test.YtmkgihmchkphaaaTrM
namespace Go.Proofs.Ytmkgihmchkphaaa.Stk
open Go.RowKit Go.Proofs.YtmkgihmchkphaaaW.PrintWords Go.Proofs.YtmkgihmchkphaaaW.PrintLast Go.Proofs.YtmkgihmchkphaaaW.PrintMore
attribute [local go_sem] max2_int min2_int max_two min_two max_three min_three max_four min_four   -- for this text's walks alone
set_option linter.unusedVariables false
set_option linter.unusedSimpArgs false
theorem info_blk : (Try.prog.info? 107).map (fun i => (i.zero, i.size, i.bytes)) = some (some (.agg (arr (rep 0))), 128, 1024) := by kernel_rfl
/-- A table at block g that is being built. -/
def TabB (w : World) (base g : Nat) (v1 v2 : Value) (fs : List Int) (bs : List (List Int)) (z : Int) : Prop :=
  w.heap[g]? = some (.cells #[v1, v2, .int .i64 z, .bool true] 105 (0, 0)) ∧ Kd.R (Kd.int .i64) 3 w base (fun k => k ≠ g) v1 fs ∧ Kd.R kB 107 w base (fun k => k ≠ g) v2 bs ∧ base ≤ g
theorem tabb_below {w w' : World} {base g : Nat} {v1 v2 : Value} {fs : List Int} {bs : List (List Int)} {z : Int} (h : TabB w base g v1 v2 fs bs z) (hb : Below w.heap.size w w') : TabB w' base g v1 v2 fs bs z :=
  ⟨blk_below h.1 hb, Kd.R_below h.2.1 hb, Kd.R_below h.2.2.1 hb, h.2.2.2⟩
/-- Where a block is, or will be. -/
def addB (l : List Int) (bs : List (List Int)) : List (List Int) := if l ∈ bs then bs else bs ++ [l]
def AddR (w : World) (base g : Nat) (v1 v2 : Value) (fs : List Int) (bs : List (List Int)) (z : Int) (l : List Int) (e : Ending) (w' : World) : Prop :=
  ∃ v2', e = .returned (.int .i64 ((bs.idxOf l : Nat) : Int)) ∧ TabB w' base g v1 v2' fs (addB l bs) z ∧ Mv w w' g v2 v2'
theorem idx_at {l : List Int} {bs : List (List Int)} {i : Nat} (hi : i < bs.length) (h : bs.getD i [] = l) (hn : ∀ j, j < i → bs.getD j [] ≠ l) : bs.idxOf l = i ∧ l ∈ bs := by
  have hm : l ∈ bs := by rw [← h]; simp [List.getD, hi]
  refine ⟨?_, hm⟩
  have h1 := List.idxOf_lt_length_of_mem hm
  have h2 : bs.getD (bs.idxOf l) [] = l := by simp [List.getD, h1]
  rcases Nat.lt_trichotomy (bs.idxOf l) i with h3 | h3 | h3
  · exact absurd h2 (hn _ h3)
  · exact h3
  · have h4 := List.not_of_lt_findIdx (p := fun x => x == l) (xs := bs) (i := i) h3
    simp [List.getD, hi] at h h4
    exact absurd h h4
theorem idx_no {l : List Int} {bs : List (List Int)} (hn : ∀ j, j < bs.length → bs.getD j [] ≠ l) : bs.idxOf l = bs.length ∧ ¬ l ∈ bs := by
  have hm : ¬ l ∈ bs := fun h => by
    obtain ⟨j, hj, e⟩ := List.mem_iff_getElem.1 h
    exact hn j hj (by simp [List.getD, hj, e])
  exact ⟨List.idxOf_eq_length hm, hm⟩
theorem arr_range {w : World} {b t : Nat} {l : List Int} (h : w.heap[b]? = some (.cells (arr l) t (0, 0))) : ∀ j v, (l.map (Value.int .i64))[j]? = some v → w.cell? ((⟨b, 0, none⟩ : Addr).add j) = some v := fun j v hv => by
  rw [Addr.add_mid, Nat.zero_add, blk_cell h]
  simpa [arr] using hv
set_option maxHeartbeats 8000000 in
set_option maxRecDepth 100000 in
theorem p_add {w : World} {base g : Nat} {v1 v2 : Value} {fs : List Int} {bs : List (List Int)} {z : Int} (h : TabB w base g v1 v2 fs bs z) (l : List Int) (hl : l.length = 128) (hm : bs.length ≤ 8704) :
    Calls Try.prog 82 #[.pointer (some ⟨g, 0, none⟩), .agg (arr l)] w (AddR w base g v1 v2 fs bs z l) := by
  unfold AddR
  have HT := Aside0.mk h
  have HLL := Aside0.mk hl
  have HLM := Aside0.mk hm
  obtain ⟨A2, c2, e, hc2, hC2⟩ := Kd.R_reads h.2.2.1
  have HV := Aside0.mk e
  have HC := Aside0.mk hC2
  have HK1 := Aside0.mk (show w.cell? ⟨g, 1, none⟩ = some (.slice A2 bs.length c2) by rw [← e]; exact (blk_cell h.1 1).trans rfl)
  clear h hl hm e hc2 hC2
  go_enter Try.func82, Try.ntmps82
  go_wp2_with (first | ((with_reducible refine gate_dst (N := 3) rfl ?_); refine box_event ?hg (N := 3) ?hd (cs := arr l) (t := 107) ?hr ?_; (case hd => rfl); (case hg => rfl); (case hr => first | (go_simp; done) | (go_simp; rfl)); intro g3 hg w1 hbox hb; have BX := Aside0.mk hbox; have HB := Aside0.mk hb; have HG3 := Aside0.mk (show w.heap.size ≤ g3 by omega); have k1 := pw_cell_below hb HK1.out; clear hg hbox hb))
  go_loopg [11] bs.length (fun kq v11 w' => ∃ (i : Nat), v11 = .int .i64 (i : Int) ∧ Aside0 (i ≤ bs.length ∧ bs.length - i = kq ∧ ∀ j, j < i → bs.getD j [] ≠ l) ∧ Aside0 (w'.heap[g3]? = some (.cells (arr l) 107 (0, 0))) ∧ Aside0 (Below w.heap.size w w'))
  case atStart => exact ⟨0, rfl, ⟨Nat.zero_le _, rfl, fun j hj => by omega⟩, BX, HB⟩
  case round =>
    clear BX HB k1
    obtain ⟨i, rfl, HI, BX, HB⟩ := hrel
    by_cases hlt : i < bs.length
    · have b0 : decide ((i : Int) < (bs.length : Int)) = true := decide_eq_true (by omega)
      have b1 : decide (i < bs.length) = true := decide_eq_true hlt
      have hw := (show wrap64 ((i : Int) + 1) = ((i + 1 : Nat) : Int) by have := HLM.out; unfold wrap64; omega)
      have hi0 : (0 : Int) ≤ (i : Int) := by omega
      have hi1 : (i : Int) < (bs.length : Int) := by omega
      replace hi0 := eq_true hi0
      replace hi1 := eq_true hi1
      have hi2 : (i < bs.length) = True := eq_true hlt
      have HLT := Aside0.mk hlt
      obtain ⟨hL, a2, e, x3⟩ := at_B (Kd.C_below HC.out HB.out) i hlt
      cases e
      have HL := Aside0.mk hL
      generalize hr : decide (bs.getD i [] = l) = r
      have HR := Aside0.mk hr
      have HS := Aside0.mk (show (fun w' => w'.cell? ⟨g, 1, none⟩ = some (.slice (some a2) bs.length c2) ∧ (∀ j v, ((bs.getD i []).map (Value.int .i64))[j]? = some v → w'.cell? ((a2.add (i * 128)).add j) = some v) ∧ (∀ j v, ((l).map (Value.int .i64))[j]? = some v → w'.cell? ((⟨g3, 0, none⟩ : Addr).add j) = some v)) wr.drew from ⟨pw_cell_below HB.out.drew HK1.out, fun j v hv => by rw [Go.Deep.add_add]; exact x3 j v hv, arr_range (blk_drew BX.out)⟩)
      clear hlt x3 hL hr
      go_wp2
      refine start_ (n := 9) (S := fun w' => w'.cell? ⟨g, 1, none⟩ = some (.slice (some a2) bs.length c2) ∧ (∀ j v, ((bs.getD i []).map (Value.int .i64))[j]? = some v → w'.cell? ((a2.add (i * 128)).add j) = some v) ∧ (∀ j v, ((l).map (Value.int .i64))[j]? = some v → w'.cell? ((⟨g3, 0, none⟩ : Addr).add j) = some v)) (ds := []) #[false, false, false, false, false, false, false, false, false] (by kernel_rfl) rfl rfl HS.out (fun hHeld => ?_)
      refine pure_ (i := 0) (N := some 14) (v := ?_) (a' := ?_) #[true, false, false, false, false, false, false, false, false] rfl rfl (by kernel_rfl) (fun _ _ _ h => h) (Or.inl ⟨by rfl, ?_⟩) ?_ ?_
      rotate_left
      · intro w'
        go_simp
        with_reducible rfl
      rotate_left
      · simp only [Act.put, List.setIfInBounds_toArray, List.set_cons_zero, List.set_cons_succ, i64_w, i32_w]
        rfl
      refine pure_ (i := 1) (N := some 15) (v := ?_) (a' := ?_) #[true, true, false, false, false, false, false, false, false] rfl rfl (by kernel_rfl) (fun _ _ _ h => h) (Or.inl ⟨by rfl, ?_⟩) ?_ ?_
      rotate_left
      · intro w'
        go_simp
        with_reducible rfl
      rotate_left
      · simp only [Act.put, List.setIfInBounds_toArray, List.set_cons_zero, List.set_cons_succ, i64_w, i32_w]
        rfl
      refine pure_ (i := 2) (N := some 16) (v := ?_) (a' := ?_) #[true, true, true, false, false, false, false, false, false] rfl rfl (by kernel_rfl) (fun _ _ _ h => h) (Or.inl ⟨by rfl, ?_⟩) ?_ ?_
      rotate_left
      · intro w'
        go_simp
        with_reducible rfl
      rotate_left
      · simp only [Act.put, List.setIfInBounds_toArray, List.set_cons_zero, List.set_cons_succ, i64_w, i32_w]
        rfl
      refine take_ (i := 3) (N := some 17) (v := ?_) (a' := ?_) #[true, true, true, true, false, false, false, false, false] rfl rfl (by kernel_rfl) (fun _ _ _ h => h) (Or.inl ⟨by rfl, ?_⟩) hHeld ?_ ?_
      rotate_left
      · rintro w' ⟨s0, s1, s2⟩
        go_simp
        with_reducible rfl
      rotate_left
      · simp only [Act.put, List.setIfInBounds_toArray, List.set_cons_zero, List.set_cons_succ, i64_w, i32_w]
        rfl
      refine pure_ (i := 4) (N := some 18) (v := ?_) (a' := ?_) #[true, true, true, true, true, false, false, false, false] rfl rfl (by kernel_rfl) (fun _ _ _ h => h) (Or.inl ⟨by rfl, ?_⟩) ?_ ?_
      rotate_left
      · intro w'
        go_simp
        with_reducible rfl
      rotate_left
      · simp only [Act.put, List.setIfInBounds_toArray, List.set_cons_zero, List.set_cons_succ, i64_w, i32_w]
        rfl
      refine pure_ (i := 5) (N := some 19) (v := ?_) (a' := ?_) #[true, true, true, true, true, true, false, false, false] rfl rfl (by kernel_rfl) (fun _ _ _ h => h) (Or.inl ⟨by rfl, ?_⟩) ?_ ?_
      rotate_left
      · intro w'
        go_simp
        with_reducible rfl
      rotate_left
      · simp only [Act.put, List.setIfInBounds_toArray, List.set_cons_zero, List.set_cons_succ, i64_w, i32_w]
        rfl
      refine take_ (i := 6) (N := some 20) (v := .agg (arr (bs.getD i []))) (a' := ?_) #[true, true, true, true, true, true, true, false, false] rfl rfl (by kernel_rfl) (fun _ _ _ h => h) (Or.inl ⟨by rfl, ?_⟩) hHeld ?_ ?_
      · rintro w' ⟨s0, s1, s2⟩
        exact exec_load_arr 107 (.tmp 19) rfl (a2.add (i * 128)) rfl (bs.getD i []) s1 128 3 Try.underlying107 size_blk HL.out
      rotate_left
      · simp only [Act.put, List.setIfInBounds_toArray, List.set_cons_zero, List.set_cons_succ, i64_w, i32_w]
        rfl
      refine take_ (i := 7) (N := some 21) (v := .agg (arr l)) (a' := ?_) #[true, true, true, true, true, true, true, true, false] rfl rfl (by kernel_rfl) (fun _ _ _ h => h) (Or.inl ⟨by rfl, ?_⟩) hHeld ?_ ?_
      · rintro w' ⟨s0, s1, s2⟩
        exact exec_load_arr 107 (.tmp 3) rfl ⟨g3, 0, none⟩ rfl l s2 128 3 Try.underlying107 size_blk HLL.out
      rotate_left
      · simp only [Act.put, List.setIfInBounds_toArray, List.set_cons_zero, List.set_cons_succ, i64_w, i32_w]
        rfl
      refine pure_ (i := 8) (N := some 22) (v := .bool r) (a' := ?_) #[true, true, true, true, true, true, true, true, true] rfl rfl (by kernel_rfl) (fun _ _ _ h => h) (Or.inl ⟨by rfl, ?_⟩) ?_ ?_
      · intro w'
        rw [← HR.out]
        exact exec_eq_arr false 107 107 (.tmp 20) (.tmp 21) rfl (bs.getD i []) l rfl rfl (by kernel_rfl) 128 3 Try.underlying107 Try.underlying3 size_int HL.out HLL.out
      rotate_left
      · simp only [Act.put, List.setIfInBounds_toArray, List.set_cons_zero, List.set_cons_succ, i64_w, i32_w]
        rfl
      refine done_ (by kernel_rfl) ?_
      cases r with
      | true =>
        go_wp2
        go_ret
        have he := idx_at HLT.out (of_decide_eq_true HR.out) HI.out.2.2
        exact ⟨v2, by rw [he.1]; rfl, by unfold addB; rw [if_pos he.2]; exact tabb_below HT.out HB.out.drew, Mv.of_below HB.out.drew _ _⟩
      | false =>
        go_wp2
        go_roundg (bs.length - (i + 1))
        case measure => have := HI.out; have := HLT.out; omega
        case rel => exact ⟨i + 1, by first | rfl | go_num | rw [hw], ⟨by have := HLT.out; omega, rfl, fun j hj => by
          by_cases e : j = i
          · subst e; exact of_decide_eq_false HR.out
          · exact HI.out.2.2 j (by omega)⟩, ⟨blk_drew BX.out⟩, ⟨HB.out.drew⟩⟩
    · have b0 : decide ((i : Int) < (bs.length : Int)) = false := decide_eq_false (by omega)
      have b1 : decide (i < bs.length) = false := decide_eq_false hlt
      have HN := Aside0.mk (idx_no (l := l) (bs := bs) (fun j hj => HI.out.2.2 j (by omega)))
      clear hlt
      have HT6 := Aside0.mk (tabb_below HT.out HB.out.drew)
      have BX6 := Aside0.mk (blk_drew BX.out)
      have HM1 := Aside0.mk (Mv.of_below HB.out.drew g v2)
      have HBB := Aside0.mk (show Below base w wr.drew from HB.out.drew.mono (by have h1 := blk_lt HT.out.1; have h2 := HT.out.2.2.2; omega))
      go_wp2
      refine start_ (n := 11) (S := fun w' => w'.cell? ⟨g, 1, none⟩ = some v2 ∧ (∀ j v, ((l).map (Value.int .i64))[j]? = some v → w'.cell? ((⟨g3, 0, none⟩ : Addr).add j) = some v)) (ds := [7, 10]) #[false, false, false, false, false, false, false, false, false, false, false] (by kernel_rfl) rfl rfl ⟨(blk_cell HT6.out.1 1).trans rfl, arr_range BX6.out⟩ (fun hHeld => ?_)
      generalize wr.drew = w6 at HT6 BX6 HM1 HBB hHeld ⊢
      refine pure_ (i := 0) (N := some 25) (v := ?_) (a' := ?_) #[true, false, false, false, false, false, false, false, false, false, false] rfl rfl (by kernel_rfl) (fun _ _ _ h => h) (Or.inl ⟨by rfl, ?_⟩) ?_ ?_
      rotate_left
      · intro w'
        go_simp
        with_reducible rfl
      rotate_left
      · simp only [Act.put, List.setIfInBounds_toArray, List.set_cons_zero, List.set_cons_succ, i64_w, i32_w]
        rfl
      refine pure_ (i := 1) (N := some 26) (v := ?_) (a' := ?_) #[true, true, false, false, false, false, false, false, false, false, false] rfl rfl (by kernel_rfl) (fun _ _ _ h => h) (Or.inl ⟨by rfl, ?_⟩) ?_ ?_
      rotate_left
      · intro w'
        go_simp
        with_reducible rfl
      rotate_left
      · simp only [Act.put, List.setIfInBounds_toArray, List.set_cons_zero, List.set_cons_succ, i64_w, i32_w]
        rfl
      refine pure_ (i := 2) (N := some 27) (v := ?_) (a' := ?_) #[true, true, true, false, false, false, false, false, false, false, false] rfl rfl (by kernel_rfl) (fun _ _ _ h => h) (Or.inl ⟨by rfl, ?_⟩) ?_ ?_
      rotate_left
      · intro w'
        go_simp
        with_reducible rfl
      rotate_left
      · simp only [Act.put, List.setIfInBounds_toArray, List.set_cons_zero, List.set_cons_succ, i64_w, i32_w]
        rfl
      refine pure_ (i := 3) (N := some 28) (v := ?_) (a' := ?_) #[true, true, true, true, false, false, false, false, false, false, false] rfl rfl (by kernel_rfl) (fun _ _ _ h => h) (Or.inl ⟨by rfl, ?_⟩) ?_ ?_
      rotate_left
      · intro w'
        go_simp
        with_reducible rfl
      rotate_left
      · simp only [Act.put, List.setIfInBounds_toArray, List.set_cons_zero, List.set_cons_succ, i64_w, i32_w]
        rfl
      refine take_ (i := 4) (N := some 29) (v := ?_) (a' := ?_) #[true, true, true, true, true, false, false, false, false, false, false] rfl rfl (by kernel_rfl) (fun _ _ _ h => h) (Or.inl ⟨by rfl, ?_⟩) hHeld ?_ ?_
      rotate_left
      · rintro w' ⟨s0, s1⟩
        go_simp
        with_reducible rfl
      rotate_left
      · simp only [Act.put, List.setIfInBounds_toArray, List.set_cons_zero, List.set_cons_succ, i64_w, i32_w]
        rfl
      refine take_ (i := 5) (N := some 30) (v := .agg (arr l)) (a' := ?_) #[true, true, true, true, true, true, false, false, false, false, false] rfl rfl (by kernel_rfl) (fun _ _ _ h => h) (Or.inl ⟨by rfl, ?_⟩) hHeld ?_ ?_
      · rintro w' ⟨s0, s1⟩
        exact exec_load_arr 107 (.tmp 3) rfl ⟨g3, 0, none⟩ rfl l s1 128 3 Try.underlying107 size_blk HLL.out
      rotate_left
      · simp only [Act.put, List.setIfInBounds_toArray, List.set_cons_zero, List.set_cons_succ, i64_w, i32_w]
        rfl
      refine one_ (i := 6) (N := some 31) #[true, true, true, true, true, true, true, false, false, false, false] rfl rfl (by kernel_rfl) (by decide) (fun K hK => ?_)
      refine value_ (w1 := w6.alloc (.cells (arr l) 107)) (v := .slice (some ⟨w6.heap.size, 0, none⟩) 1 1) (by rfl) rfl ?_ ?_
      · exact exec_row_one 101 107 (.tmp 30) rfl l rfl 128 Try.underlying101 size_blk zero_blk HLL.out (by decide) (by decide)
      refine hK.out _ _ ⟨(blk_cell (blk_alloc HT6.out.1 _) 1).trans rfl, arr_range (blk_alloc BX6.out _)⟩ (fun hHeld => ?_)
      clear hK K
      refine norm_ (a' := ?_) ?_ ?_
      rotate_left
      · show Act.put _ (some 31) _ = _
        simp only [Act.put, List.setIfInBounds_toArray, List.set_cons_zero, List.set_cons_succ, i64_w, i32_w]
        rfl
      refine last_ (i := 7) (N := some 32) #[true, true, true, true, true, true, true, true, false, false, false] rfl rfl (by kernel_rfl) (by decide) (fun K hK => ?_)
      refine Kd.R_append_step kB (w0 := w) base (by rfl) (.tmp 29) (.tmp 31) 101 107 (.agg (arr (rep 0))) 1024 rfl Try.underlying101 info_blk (by simp [Value.cells, arr_size, kB, rep_len]) (by decide) (by omega) v2 bs l (l.map (Value.int .i64)) (fun k => k ≠ g) (fun _ => False) rfl rfl ?aP (fun _ hk => hk.elim) ?aF ?aO ?aB ?aS ?aL ?_
      (case aP => exact ⟨HLL.out, rfl⟩)
      (case aB => exact HBB.out)
      (case aF => exact (fun k hk => by have := blk_lt HT6.out.1; omega))
      (case aO => exact HT6.out.2.2.1)
      (case aS => exact (by have := blk_lt HT6.out.1; have := HT6.out.2.2.2; omega))
      (case aL => have := HLM.out; omega)
      intro v3 w4 ho hb hg_ hat
      obtain ⟨A3, c3, e3⟩ := Kd.R_slice ho
      generalize hn3 : (bs ++ [l]).length = n3 at e3
      have HN3 := Aside0.mk (show n3 = bs.length + 1 by rw [← hn3]; simp)
      clear hn3
      subst e3
      have hG := Aside0.mk (blk_grown HT6.out.1 hg_ (Kd.R_away HT6.out.2.2.1 (fun _ hk => hk)))
      have HO := Aside0.mk ho
      have HR1 := Aside0.mk (Kd.R_over' HT6.out.2.1 (Kd.R_typed HT6.out.2.2.1) (by decide) hg_)
      have HM2 := Aside0.mk (HM1.out.grown hg_ hat)
      clear ho hb hg_ hat
      refine hK.out _ _ ?_
      clear hK K
      refine norm_ (a' := ?_) ?_ ?_
      rotate_left
      · show Act.put _ (some 32) _ = _
        simp only [Act.put, List.setIfInBounds_toArray, List.set_cons_zero, List.set_cons_succ, i64_w, i32_w]
        rfl
      refine pure_ (i := 8) (N := some 33) (v := ?_) (a' := ?_) #[true, true, true, true, true, true, true, true, true, false, false] rfl rfl (by kernel_rfl) (fun _ _ _ h => h) (Or.inl ⟨by rfl, ?_⟩) ?_ ?_
      rotate_left
      · intro w'
        go_simp
        with_reducible rfl
      rotate_left
      · simp only [Act.put, List.setIfInBounds_toArray, List.set_cons_zero, List.set_cons_succ, i64_w, i32_w]
        rfl
      refine pure_ (i := 9) (N := some 34) (v := ?_) (a' := ?_) #[true, true, true, true, true, true, true, true, true, true, false] rfl rfl (by kernel_rfl) (fun _ _ _ h => h) (Or.inl ⟨by rfl, ?_⟩) ?_ ?_
      rotate_left
      · intro w'
        go_simp
        with_reducible rfl
      rotate_left
      · simp only [Act.put, List.setIfInBounds_toArray, List.set_cons_zero, List.set_cons_succ, i64_w, i32_w]
        rfl
      refine last_ (i := 10) (N := none) #[true, true, true, true, true, true, true, true, true, true, true] rfl rfl (by kernel_rfl) (by decide) (fun K hK => ?_)
      have hs := (blk_cell hG.out 1).trans rfl
      have hf := blk_frozen hG.out 1
      refine skip_ (w1 := w4.setCell ⟨g, 1, none⟩ (.slice A3 n3 c3)) (by rfl) rfl ?_ ?_
      · first | (go_simp; done) | (go_simp; rfl)
      refine hK.out _ _ ?_
      clear hK K hs hf
      refine done_ (by kernel_rfl) ?_
      have HX := Aside0.mk (show TabB (w4.setCell ⟨g, 1, none⟩ (.slice A3 n3 c3)) base g v1 (.slice A3 n3 c3) fs (bs ++ [l]) z from ⟨blk_put hG.out 1 _ rfl, Kd.R_far HR1.out (p := ⟨g, 1, none⟩) (fun _ hk => hk) _, Kd.R_far HO.out (p := ⟨g, 1, none⟩) (fun _ hk => hk) _, HT.out.2.2.2⟩)
      have HMX := Aside0.mk (HM2.out.set 1 (.slice A3 n3 c3))
      generalize w4.setCell ⟨g, 1, none⟩ (.slice A3 n3 c3) = w5 at HX HMX ⊢
      have kx := (blk_cell HX.out.1 1).trans rfl
      have hw3 := (show wrap64 ((n3 : Int) - 1) = (bs.length : Int) by have := HN3.out; have := HLM.out; unfold wrap64; omega)
      go_wp2
      go_ret
      exact ⟨.slice A3 n3 c3, by rw [HN.out.1]; first | rfl | (simp [hw3]; done), by unfold addB; rw [if_neg HN.out.2]; exact HX.out, HMX.out⟩
end Go.Proofs.Ytmkgihmchkphaaa.Stk
