/- The trie: the functions that Ranges and Count hand over. -/
import Derived.Test.YtmkgihmchkphaaaTrE1
namespace Go.Proofs.Ytmkgihmchkphaaa.Stk
open Go.RowKit Go.Proofs.YtmkgihmchkphaaaW.PrintWords Go.Proofs.YtmkgihmchkphaaaW.PrintLast Go.Proofs.YtmkgihmchkphaaaW.PrintMore
attribute [local go_sem] max2_int min2_int max_two min_two max_three min_three max_four min_four   -- for this text's walks alone
set_option linter.unusedVariables false
set_option linter.unusedSimpArgs false
theorem info_rng : (Try.prog.info? 66).map (fun i => (i.zero, i.size, i.bytes)) = some (some (.agg #[.int .i64 0, .int .i64 0, .int .i64 0]), 3, 24) := by kernel_rfl
/-- What the count is behind a range. -/
def cntW (v n : Int) (r : Rg) : Int := if r.va = v then wrap64 (n + wrap64 (wrap64 (r.hi - r.lo) + 1)) else n
def keepR (z : Int) (rs : List Rg) : List Rg := rs.filter fun r => decide (r.va ≠ z)
theorem keepR_snoc (z : Int) (rs : List Rg) (r : Rg) : keepR z (rs ++ [r]) = if r.va = z then keepR z rs else keepR z rs ++ [r] := by
  unfold keepR
  rw [List.filter_append]
  by_cases h : r.va = z <;> simp [h]
set_option maxHeartbeats 8000000 in
set_option maxRecDepth 100000 in
theorem p_rcl {w : World} {base gt gl g : Nat} {v : Value} {xs : List Rg} {z : Int} (hV : w.heap[gt]? = some (.cells #[.pointer (some ⟨g, 0, none⟩)] 68 (0, 0))) (hN : w.heap[gl]? = some (.cells #[v] 59 (0, 0))) (hZ : w.cell? ⟨g, 2, none⟩ = some (.int .i64 z)) (hR : Kd.R kR 66 w base (fun k => k ≠ gl) v xs) (hb : base ≤ w.heap.size) (hx : xs.length ≤ 1114112) (r : Rg) :
    Calls Try.prog 93 #[.agg #[.int .i64 r.lo, .int .i64 r.hi, .int .i64 r.va], .pointer (some ⟨gt, 0, none⟩), .pointer (some ⟨gl, 0, none⟩)] w fun e w' => e = .returned (.tuple #[]) ∧ ∃ v', w'.heap[gl]? = some (.cells #[v'] 59 (0, 0)) ∧ Kd.R kR 66 w' base (fun k => k ≠ gl) v' (if r.va = z then xs else xs ++ [r]) ∧ Mv w w' gl v v' := by
  have HV := Aside0.mk hV
  have HN := Aside0.mk hN
  have HZ := Aside0.mk hZ
  have HR := Aside0.mk hR
  have HBS := Aside0.mk hb
  have HLX := Aside0.mk hx
  have HNV := Aside0.mk (show some gl ≠ v.ownBlock from fun e => hR.1 gl e.symm rfl)
  clear hV hN hZ hb hx hR
  by_cases hv : r.va = z
  · have b0 : (r.va != z) = false := by simp [hv]
    rw [if_pos hv]
    clear hv
    go_enter Try.func93, Try.ntmps93
    go_wp2_with (first | ((with_reducible refine gate_dst (N := 3) rfl ?_); refine box_event ?hg (N := 3) ?hd (cs := #[.int .i64 r.lo, .int .i64 r.hi, .int .i64 r.va]) (t := 66) ?hr ?_; (case hd => rfl); (case hg => rfl); (case hr => first | (go_simp; done) | (go_simp; rfl)); intro g3 hg w1 hbox hb; have H3 := Aside0.mk hbox; have HB1 := Aside0.mk hb; have HV1 := Aside0.mk (blk_below HV.out hb); have HN1 := Aside0.mk (blk_below HN.out hb); have k3_0 := (blk_cell H3.out 0).trans rfl; have k3_1 := (blk_cell H3.out 1).trans rfl; have k3_2 := (blk_cell H3.out 2).trans rfl; have kv := (blk_cell HV1.out 0).trans rfl; have kn := (blk_cell HN1.out 0).trans rfl; have fn := blk_frozen HN1.out 0; clear hg hbox hb))
    simp only [Act.put, List.setIfInBounds_toArray, List.set_cons_zero, List.set_cons_succ]
    have H32 := Aside0.mk (blk_drew H3.out)
    have HV2 := Aside0.mk (blk_drew HV1.out)
    have HN2 := Aside0.mk (blk_drew HN1.out)
    have HB2 := Aside0.mk HB1.out.drew
    have HR2 := Aside0.mk (Kd.R_below HR.out HB2.out)
    clear k3_0 k3_1 k3_2 kv kn fn
    refine start_ (n := 7) (S := fun w' => w'.cell? ⟨g3, 2, none⟩ = some (.int .i64 r.va) ∧ w'.cell? ⟨gt, 0, none⟩ = some (.pointer (some ⟨g, 0, none⟩)) ∧ w'.cell? ⟨g, 2, none⟩ = some (.int .i64 z)) (ds := []) #[false, false, false, false, false, false, false] (by kernel_rfl) rfl rfl ⟨(blk_cell H32.out 2).trans rfl, (blk_cell HV2.out 0).trans rfl, pw_cell_below HB2.out HZ.out⟩ (fun hHeld => ?_)
    generalize w1.drew = w2 at H32 HV2 HN2 HB2 HR2 hHeld ⊢
    refine pure_ (i := 0) (N := some 4) (v := ?_) (a' := ?_) #[true, false, false, false, false, false, false] rfl rfl (by kernel_rfl) (fun _ _ _ h => h) (Or.inl ⟨by rfl, ?_⟩) ?_ ?_
    rotate_left
    · intro w'
      go_simp
      with_reducible rfl
    rotate_left
    · simp only [Act.put, List.setIfInBounds_toArray, List.set_cons_zero, List.set_cons_succ, i64_w, i32_w]
      rfl
    refine take_ (i := 1) (N := some 5) (v := ?_) (a' := ?_) #[true, true, false, false, false, false, false] rfl rfl (by kernel_rfl) (fun _ _ _ h => h) (Or.inl ⟨by rfl, ?_⟩) hHeld ?_ ?_
    rotate_left
    · rintro w' ⟨s0, s1, s2⟩
      go_simp
      with_reducible rfl
    rotate_left
    · simp only [Act.put, List.setIfInBounds_toArray, List.set_cons_zero, List.set_cons_succ, i64_w, i32_w]
      rfl
    refine take_ (i := 2) (N := some 6) (v := ?_) (a' := ?_) #[true, true, true, false, false, false, false] rfl rfl (by kernel_rfl) (fun _ _ _ h => h) (Or.inl ⟨by rfl, ?_⟩) hHeld ?_ ?_
    rotate_left
    · rintro w' ⟨s0, s1, s2⟩
      go_simp
      with_reducible rfl
    rotate_left
    · simp only [Act.put, List.setIfInBounds_toArray, List.set_cons_zero, List.set_cons_succ, i64_w, i32_w]
      rfl
    refine pure_ (i := 3) (N := some 7) (v := ?_) (a' := ?_) #[true, true, true, true, false, false, false] rfl rfl (by kernel_rfl) (fun _ _ _ h => h) (Or.inl ⟨by rfl, ?_⟩) ?_ ?_
    rotate_left
    · intro w'
      go_simp
      with_reducible rfl
    rotate_left
    · simp only [Act.put, List.setIfInBounds_toArray, List.set_cons_zero, List.set_cons_succ, i64_w, i32_w]
      rfl
    refine pure_ (i := 4) (N := some 8) (v := ?_) (a' := ?_) #[true, true, true, true, true, false, false] rfl rfl (by kernel_rfl) (fun _ _ _ h => h) (Or.inl ⟨by rfl, ?_⟩) ?_ ?_
    rotate_left
    · intro w'
      go_simp
      with_reducible rfl
    rotate_left
    · simp only [Act.put, List.setIfInBounds_toArray, List.set_cons_zero, List.set_cons_succ, i64_w, i32_w]
      rfl
    refine take_ (i := 5) (N := some 9) (v := ?_) (a' := ?_) #[true, true, true, true, true, true, false] rfl rfl (by kernel_rfl) (fun _ _ _ h => h) (Or.inl ⟨by rfl, ?_⟩) hHeld ?_ ?_
    rotate_left
    · rintro w' ⟨s0, s1, s2⟩
      go_simp
      with_reducible rfl
    rotate_left
    · simp only [Act.put, List.setIfInBounds_toArray, List.set_cons_zero, List.set_cons_succ, i64_w, i32_w]
      rfl
    refine pure_ (i := 6) (N := some 10) (v := .bool false) (a' := ?_) #[true, true, true, true, true, true, true] rfl rfl (by kernel_rfl) (fun _ _ _ h => h) (Or.inl ⟨by rfl, ?_⟩) ?_ ?_
    · intro w'
      go_simp
      all_goals with_reducible rfl
    rotate_left
    · simp only [Act.put, List.setIfInBounds_toArray, List.set_cons_zero, List.set_cons_succ, i64_w, i32_w]
      rfl
    refine done_ (by kernel_rfl) ?_
    go_wp2
    first | go_end0 | ((try simp only [Exit.inBlock, Exit.then]); refine bodyPost_ret (results_none rfl _ _ _) rfl ?_)
    exact ⟨by first | rfl | (simp; done), v, HN2.out, HR2.out, Mv.of_below HB2.out gl v⟩
  · have b0 : (r.va != z) = true := by simp [hv]
    rw [if_neg hv]
    clear hv
    go_enter Try.func93, Try.ntmps93
    go_wp2_with (first | ((with_reducible refine gate_dst (N := 3) rfl ?_); refine box_event ?hg (N := 3) ?hd (cs := #[.int .i64 r.lo, .int .i64 r.hi, .int .i64 r.va]) (t := 66) ?hr ?_; (case hd => rfl); (case hg => rfl); (case hr => first | (go_simp; done) | (go_simp; rfl)); intro g3 hg w1 hbox hb; have H3 := Aside0.mk hbox; have HB1 := Aside0.mk hb; have HV1 := Aside0.mk (blk_below HV.out hb); have HN1 := Aside0.mk (blk_below HN.out hb); have k3_0 := (blk_cell H3.out 0).trans rfl; have k3_1 := (blk_cell H3.out 1).trans rfl; have k3_2 := (blk_cell H3.out 2).trans rfl; have kv := (blk_cell HV1.out 0).trans rfl; have kn := (blk_cell HN1.out 0).trans rfl; have fn := blk_frozen HN1.out 0; clear hg hbox hb))
    simp only [Act.put, List.setIfInBounds_toArray, List.set_cons_zero, List.set_cons_succ]
    have H32 := Aside0.mk (blk_drew H3.out)
    have HV2 := Aside0.mk (blk_drew HV1.out)
    have HN2 := Aside0.mk (blk_drew HN1.out)
    have HB2 := Aside0.mk HB1.out.drew
    have HR2 := Aside0.mk (Kd.R_below HR.out HB2.out)
    have HBB2 := Aside0.mk (show Below base w w1.drew from HB2.out.mono HBS.out)
    clear k3_0 k3_1 k3_2 kv kn fn
    refine start_ (n := 7) (S := fun w' => w'.cell? ⟨g3, 2, none⟩ = some (.int .i64 r.va) ∧ w'.cell? ⟨gt, 0, none⟩ = some (.pointer (some ⟨g, 0, none⟩)) ∧ w'.cell? ⟨g, 2, none⟩ = some (.int .i64 z)) (ds := []) #[false, false, false, false, false, false, false] (by kernel_rfl) rfl rfl ⟨(blk_cell H32.out 2).trans rfl, (blk_cell HV2.out 0).trans rfl, pw_cell_below HB2.out HZ.out⟩ (fun hHeld => ?_)
    generalize w1.drew = w2 at H32 HV2 HN2 HB2 HR2 HBB2 hHeld ⊢
    refine pure_ (i := 0) (N := some 4) (v := ?_) (a' := ?_) #[true, false, false, false, false, false, false] rfl rfl (by kernel_rfl) (fun _ _ _ h => h) (Or.inl ⟨by rfl, ?_⟩) ?_ ?_
    rotate_left
    · intro w'
      go_simp
      with_reducible rfl
    rotate_left
    · simp only [Act.put, List.setIfInBounds_toArray, List.set_cons_zero, List.set_cons_succ, i64_w, i32_w]
      rfl
    refine take_ (i := 1) (N := some 5) (v := ?_) (a' := ?_) #[true, true, false, false, false, false, false] rfl rfl (by kernel_rfl) (fun _ _ _ h => h) (Or.inl ⟨by rfl, ?_⟩) hHeld ?_ ?_
    rotate_left
    · rintro w' ⟨s0, s1, s2⟩
      go_simp
      with_reducible rfl
    rotate_left
    · simp only [Act.put, List.setIfInBounds_toArray, List.set_cons_zero, List.set_cons_succ, i64_w, i32_w]
      rfl
    refine take_ (i := 2) (N := some 6) (v := ?_) (a' := ?_) #[true, true, true, false, false, false, false] rfl rfl (by kernel_rfl) (fun _ _ _ h => h) (Or.inl ⟨by rfl, ?_⟩) hHeld ?_ ?_
    rotate_left
    · rintro w' ⟨s0, s1, s2⟩
      go_simp
      with_reducible rfl
    rotate_left
    · simp only [Act.put, List.setIfInBounds_toArray, List.set_cons_zero, List.set_cons_succ, i64_w, i32_w]
      rfl
    refine pure_ (i := 3) (N := some 7) (v := ?_) (a' := ?_) #[true, true, true, true, false, false, false] rfl rfl (by kernel_rfl) (fun _ _ _ h => h) (Or.inl ⟨by rfl, ?_⟩) ?_ ?_
    rotate_left
    · intro w'
      go_simp
      with_reducible rfl
    rotate_left
    · simp only [Act.put, List.setIfInBounds_toArray, List.set_cons_zero, List.set_cons_succ, i64_w, i32_w]
      rfl
    refine pure_ (i := 4) (N := some 8) (v := ?_) (a' := ?_) #[true, true, true, true, true, false, false] rfl rfl (by kernel_rfl) (fun _ _ _ h => h) (Or.inl ⟨by rfl, ?_⟩) ?_ ?_
    rotate_left
    · intro w'
      go_simp
      with_reducible rfl
    rotate_left
    · simp only [Act.put, List.setIfInBounds_toArray, List.set_cons_zero, List.set_cons_succ, i64_w, i32_w]
      rfl
    refine take_ (i := 5) (N := some 9) (v := ?_) (a' := ?_) #[true, true, true, true, true, true, false] rfl rfl (by kernel_rfl) (fun _ _ _ h => h) (Or.inl ⟨by rfl, ?_⟩) hHeld ?_ ?_
    rotate_left
    · rintro w' ⟨s0, s1, s2⟩
      go_simp
      with_reducible rfl
    rotate_left
    · simp only [Act.put, List.setIfInBounds_toArray, List.set_cons_zero, List.set_cons_succ, i64_w, i32_w]
      rfl
    refine pure_ (i := 6) (N := some 10) (v := .bool true) (a' := ?_) #[true, true, true, true, true, true, true] rfl rfl (by kernel_rfl) (fun _ _ _ h => h) (Or.inl ⟨by rfl, ?_⟩) ?_ ?_
    · intro w'
      go_simp
      all_goals with_reducible rfl
    rotate_left
    · simp only [Act.put, List.setIfInBounds_toArray, List.set_cons_zero, List.set_cons_succ, i64_w, i32_w]
      rfl
    refine done_ (by kernel_rfl) ?_
    have k3_0 := (blk_cell H32.out 0).trans rfl
    have k3_1 := (blk_cell H32.out 1).trans rfl
    have k3_2 := (blk_cell H32.out 2).trans rfl
    have kl := (blk_cell HN2.out 0).trans rfl
    go_wp2_with (first | ((with_reducible refine gate_builtin (b := .append) (xs := #[.tmp 11, .tmp 13]) rfl ?_); at_builtin; refine Kd.R_append kR (w0 := w) base rfl (.tmp 11) (.tmp 13) 59 66 (.agg #[.int .i64 0, .int .i64 0, .int .i64 0]) 24 rfl Try.underlying59 info_rng rfl (by decide) (by omega) v xs r [.int .i64 r.lo, .int .i64 r.hi, .int .i64 r.va] (fun k => k ≠ gl) (fun _ => False) rfl rfl ?aP (fun _ hk => hk.elim) ?aF ?aO ?aB ?aS ?aL ?_; (case aP => exact kR_mkM _ _ _ r); (case aB => exact HBB2.out); (case aF => exact fun k hk => by have := blk_lt HN2.out; omega); (case aO => exact HR2.out); (case aS => exact (by have := HBS.out; have := HB2.out.size; omega)); (case aL => have := HLX.out; omega); intro v3 w3 ho hb hg hat; obtain ⟨A3, c3, e3⟩ := Kd.R_slice ho; generalize hn3 : (xs ++ [r]).length = n3 at e3; clear hn3; subst e3; have HR3 := Aside0.mk ho; have HN3 := Aside0.mk (blk_grown HN2.out hg (HNV.out)); have HM3 := Aside0.mk ((Mv.of_below HB2.out gl v).grown hg hat); have kn := (blk_cell HN3.out 0).trans rfl; have fn := blk_frozen HN3.out 0; clear ho hb hg hat))
    first | go_end0 | ((try simp only [Exit.inBlock, Exit.then]); refine bodyPost_ret (results_none rfl _ _ _) rfl ?_)
    exact ⟨by first | rfl | (simp; done), .slice A3 n3 c3, (blk_set HN3.out 0 _).trans rfl, Kd.R_far HR3.out (p := ⟨gl, 0, none⟩) (fun _ hk => hk) _, HM3.out.set 0 _⟩
end Go.Proofs.Ytmkgihmchkphaaa.Stk
