/- The trie: plain words and Ranges in them, without the references' print (taken out of trg1.py, trr1.py, trr2.py, trr3.py). -/
import Derived.Test.YtmkgihmchkphaaaTrS2
namespace Go.Proofs.Ytmkgihmchkphaaa.Stk
open Go.RowKit Go.Proofs.YtmkgihmchkphaaaW.PrintWords Go.Proofs.YtmkgihmchkphaaaW.PrintLast Go.Proofs.YtmkgihmchkphaaaW.PrintMore
attribute [local go_sem] max2_int min2_int max_two min_two max_three min_three max_four min_four   -- for this text's walks alone
set_option linter.unusedVariables false
set_option linter.unusedSimpArgs false
theorem info_rng : (Try.prog.info? 66).map (fun i => (i.zero, i.size, i.bytes)) = some (some (.agg #[.int .i64 0, .int .i64 0, .int .i64 0]), 3, 24) := by kernel_rfl
/-- What the count is behind a range. -/
def cntW (v n : Int) (r : Rg) : Int := if r.va = v then wrap64 (n + wrap64 (wrap64 (r.hi - r.lo) + 1)) else n
def keepR (z : Int) (rs : List Rg) : List Rg := rs.filter fun r => decide (r.va ≠ z)
theorem keepR_snoc (z : Int) (rs : List Rg) (r : Rg) : keepR z (rs ++ [r]) = if r.va = z then keepR z rs else keepR z rs ++ [r] := by
  unfold keepR
  rw [List.filter_append]
  by_cases h : r.va = z <;> simp [h]
set_option maxHeartbeats 8000000 in
set_option maxRecDepth 100000 in
theorem p_rcl {w : World} {base gt gl g : Nat} {v : Value} {xs : List Rg} {z : Int} (hV : w.heap[gt]? = some (.cells #[.pointer (some ⟨g, 0, none⟩)] 68 (0, 0))) (hN : w.heap[gl]? = some (.cells #[v] 59 (0, 0))) (hZ : w.cell? ⟨g, 2, none⟩ = some (.int .i64 z)) (hR : Kd.R kR 66 w base (fun k => k ≠ gl) v xs) (hb : base ≤ w.heap.size) (hx : xs.length ≤ 1114112) (r : Rg) :
    Calls Try.prog 93 #[.agg #[.int .i64 r.lo, .int .i64 r.hi, .int .i64 r.va], .pointer (some ⟨gt, 0, none⟩), .pointer (some ⟨gl, 0, none⟩)] w fun e w' => e = .returned (.tuple #[]) ∧ ∃ v', w'.heap[gl]? = some (.cells #[v'] 59 (0, 0)) ∧ Kd.R kR 66 w' base (fun k => k ≠ gl) v' (if r.va = z then xs else xs ++ [r]) ∧ Mv w w' gl v v' := by
  have HV := Aside0.mk hV
  have HN := Aside0.mk hN
  have HZ := Aside0.mk hZ
  have HR := Aside0.mk hR
  have HBS := Aside0.mk hb
  have HLX := Aside0.mk hx
  have HNV := Aside0.mk (show some gl ≠ v.ownBlock from fun e => hR.1 gl e.symm rfl)
  clear hV hN hZ hb hx hR
  by_cases hv : r.va = z
  · have b0 : (r.va != z) = false := by simp [hv]
    rw [if_pos hv]
    clear hv
    go_enter Try.func93, Try.ntmps93
    go_wp2_with (first | ((with_reducible refine gate_dst (N := 3) rfl ?_); refine box_event ?hg (N := 3) ?hd (cs := #[.int .i64 r.lo, .int .i64 r.hi, .int .i64 r.va]) (t := 66) ?hr ?_; (case hd => rfl); (case hg => rfl); (case hr => first | (go_simp; done) | (go_simp; rfl)); intro g3 hg w1 hbox hb; have H3 := Aside0.mk hbox; have HB1 := Aside0.mk hb; have HV1 := Aside0.mk (blk_below HV.out hb); have HN1 := Aside0.mk (blk_below HN.out hb); have k3_0 := (blk_cell H3.out 0).trans rfl; have k3_1 := (blk_cell H3.out 1).trans rfl; have k3_2 := (blk_cell H3.out 2).trans rfl; have kv := (blk_cell HV1.out 0).trans rfl; have kn := (blk_cell HN1.out 0).trans rfl; have fn := blk_frozen HN1.out 0; clear hg hbox hb))
    simp only [Act.put, List.setIfInBounds_toArray, List.set_cons_zero, List.set_cons_succ]
    have H32 := Aside0.mk (blk_drew H3.out)
    have HV2 := Aside0.mk (blk_drew HV1.out)
    have HN2 := Aside0.mk (blk_drew HN1.out)
    have HB2 := Aside0.mk HB1.out.drew
    have HR2 := Aside0.mk (Kd.R_below HR.out HB2.out)
    clear k3_0 k3_1 k3_2 kv kn fn
    refine start_ (n := 7) (S := fun w' => w'.cell? ⟨g3, 2, none⟩ = some (.int .i64 r.va) ∧ w'.cell? ⟨gt, 0, none⟩ = some (.pointer (some ⟨g, 0, none⟩)) ∧ w'.cell? ⟨g, 2, none⟩ = some (.int .i64 z)) (ds := []) #[false, false, false, false, false, false, false] (by kernel_rfl) rfl rfl ⟨(blk_cell H32.out 2).trans rfl, (blk_cell HV2.out 0).trans rfl, pw_cell_below HB2.out HZ.out⟩ (fun hHeld => ?_)
    generalize w1.drew = w2 at H32 HV2 HN2 HB2 HR2 hHeld ⊢
    refine pure_ (i := 0) (N := some 4) (v := ?_) (a' := ?_) #[true, false, false, false, false, false, false] rfl rfl (by kernel_rfl) (fun _ _ _ h => h) (Or.inl ⟨by rfl, ?_⟩) ?_ ?_
    rotate_left
    · intro w'
      go_simp
      with_reducible rfl
    rotate_left
    · simp only [Act.put, List.setIfInBounds_toArray, List.set_cons_zero, List.set_cons_succ, i64_w, i32_w]
      rfl
    refine take_ (i := 1) (N := some 5) (v := ?_) (a' := ?_) #[true, true, false, false, false, false, false] rfl rfl (by kernel_rfl) (fun _ _ _ h => h) (Or.inl ⟨by rfl, ?_⟩) hHeld ?_ ?_
    rotate_left
    · rintro w' ⟨s0, s1, s2⟩
      go_simp
      with_reducible rfl
    rotate_left
    · simp only [Act.put, List.setIfInBounds_toArray, List.set_cons_zero, List.set_cons_succ, i64_w, i32_w]
      rfl
    refine take_ (i := 2) (N := some 6) (v := ?_) (a' := ?_) #[true, true, true, false, false, false, false] rfl rfl (by kernel_rfl) (fun _ _ _ h => h) (Or.inl ⟨by rfl, ?_⟩) hHeld ?_ ?_
    rotate_left
    · rintro w' ⟨s0, s1, s2⟩
      go_simp
      with_reducible rfl
    rotate_left
    · simp only [Act.put, List.setIfInBounds_toArray, List.set_cons_zero, List.set_cons_succ, i64_w, i32_w]
      rfl
    refine pure_ (i := 3) (N := some 7) (v := ?_) (a' := ?_) #[true, true, true, true, false, false, false] rfl rfl (by kernel_rfl) (fun _ _ _ h => h) (Or.inl ⟨by rfl, ?_⟩) ?_ ?_
    rotate_left
    · intro w'
      go_simp
      with_reducible rfl
    rotate_left
    · simp only [Act.put, List.setIfInBounds_toArray, List.set_cons_zero, List.set_cons_succ, i64_w, i32_w]
      rfl
    refine pure_ (i := 4) (N := some 8) (v := ?_) (a' := ?_) #[true, true, true, true, true, false, false] rfl rfl (by kernel_rfl) (fun _ _ _ h => h) (Or.inl ⟨by rfl, ?_⟩) ?_ ?_
    rotate_left
    · intro w'
      go_simp
      with_reducible rfl
    rotate_left
    · simp only [Act.put, List.setIfInBounds_toArray, List.set_cons_zero, List.set_cons_succ, i64_w, i32_w]
      rfl
    refine take_ (i := 5) (N := some 9) (v := ?_) (a' := ?_) #[true, true, true, true, true, true, false] rfl rfl (by kernel_rfl) (fun _ _ _ h => h) (Or.inl ⟨by rfl, ?_⟩) hHeld ?_ ?_
    rotate_left
    · rintro w' ⟨s0, s1, s2⟩
      go_simp
      with_reducible rfl
    rotate_left
    · simp only [Act.put, List.setIfInBounds_toArray, List.set_cons_zero, List.set_cons_succ, i64_w, i32_w]
      rfl
    refine pure_ (i := 6) (N := some 10) (v := .bool false) (a' := ?_) #[true, true, true, true, true, true, true] rfl rfl (by kernel_rfl) (fun _ _ _ h => h) (Or.inl ⟨by rfl, ?_⟩) ?_ ?_
    · intro w'
      go_simp
      all_goals with_reducible rfl
    rotate_left
    · simp only [Act.put, List.setIfInBounds_toArray, List.set_cons_zero, List.set_cons_succ, i64_w, i32_w]
      rfl
    refine done_ (by kernel_rfl) ?_
    go_wp2
    first | go_end0 | ((try simp only [Exit.inBlock, Exit.then]); refine bodyPost_ret (results_none rfl _ _ _) rfl ?_)
    exact ⟨by first | rfl | (simp; done), v, HN2.out, HR2.out, Mv.of_below HB2.out gl v⟩
  · have b0 : (r.va != z) = true := by simp [hv]
    rw [if_neg hv]
    clear hv
    go_enter Try.func93, Try.ntmps93
    go_wp2_with (first | ((with_reducible refine gate_dst (N := 3) rfl ?_); refine box_event ?hg (N := 3) ?hd (cs := #[.int .i64 r.lo, .int .i64 r.hi, .int .i64 r.va]) (t := 66) ?hr ?_; (case hd => rfl); (case hg => rfl); (case hr => first | (go_simp; done) | (go_simp; rfl)); intro g3 hg w1 hbox hb; have H3 := Aside0.mk hbox; have HB1 := Aside0.mk hb; have HV1 := Aside0.mk (blk_below HV.out hb); have HN1 := Aside0.mk (blk_below HN.out hb); have k3_0 := (blk_cell H3.out 0).trans rfl; have k3_1 := (blk_cell H3.out 1).trans rfl; have k3_2 := (blk_cell H3.out 2).trans rfl; have kv := (blk_cell HV1.out 0).trans rfl; have kn := (blk_cell HN1.out 0).trans rfl; have fn := blk_frozen HN1.out 0; clear hg hbox hb))
    simp only [Act.put, List.setIfInBounds_toArray, List.set_cons_zero, List.set_cons_succ]
    have H32 := Aside0.mk (blk_drew H3.out)
    have HV2 := Aside0.mk (blk_drew HV1.out)
    have HN2 := Aside0.mk (blk_drew HN1.out)
    have HB2 := Aside0.mk HB1.out.drew
    have HR2 := Aside0.mk (Kd.R_below HR.out HB2.out)
    have HBB2 := Aside0.mk (show Below base w w1.drew from HB2.out.mono HBS.out)
    clear k3_0 k3_1 k3_2 kv kn fn
    refine start_ (n := 7) (S := fun w' => w'.cell? ⟨g3, 2, none⟩ = some (.int .i64 r.va) ∧ w'.cell? ⟨gt, 0, none⟩ = some (.pointer (some ⟨g, 0, none⟩)) ∧ w'.cell? ⟨g, 2, none⟩ = some (.int .i64 z)) (ds := []) #[false, false, false, false, false, false, false] (by kernel_rfl) rfl rfl ⟨(blk_cell H32.out 2).trans rfl, (blk_cell HV2.out 0).trans rfl, pw_cell_below HB2.out HZ.out⟩ (fun hHeld => ?_)
    generalize w1.drew = w2 at H32 HV2 HN2 HB2 HR2 HBB2 hHeld ⊢
    refine pure_ (i := 0) (N := some 4) (v := ?_) (a' := ?_) #[true, false, false, false, false, false, false] rfl rfl (by kernel_rfl) (fun _ _ _ h => h) (Or.inl ⟨by rfl, ?_⟩) ?_ ?_
    rotate_left
    · intro w'
      go_simp
      with_reducible rfl
    rotate_left
    · simp only [Act.put, List.setIfInBounds_toArray, List.set_cons_zero, List.set_cons_succ, i64_w, i32_w]
      rfl
    refine take_ (i := 1) (N := some 5) (v := ?_) (a' := ?_) #[true, true, false, false, false, false, false] rfl rfl (by kernel_rfl) (fun _ _ _ h => h) (Or.inl ⟨by rfl, ?_⟩) hHeld ?_ ?_
    rotate_left
    · rintro w' ⟨s0, s1, s2⟩
      go_simp
      with_reducible rfl
    rotate_left
    · simp only [Act.put, List.setIfInBounds_toArray, List.set_cons_zero, List.set_cons_succ, i64_w, i32_w]
      rfl
    refine take_ (i := 2) (N := some 6) (v := ?_) (a' := ?_) #[true, true, true, false, false, false, false] rfl rfl (by kernel_rfl) (fun _ _ _ h => h) (Or.inl ⟨by rfl, ?_⟩) hHeld ?_ ?_
    rotate_left
    · rintro w' ⟨s0, s1, s2⟩
      go_simp
      with_reducible rfl
    rotate_left
    · simp only [Act.put, List.setIfInBounds_toArray, List.set_cons_zero, List.set_cons_succ, i64_w, i32_w]
      rfl
    refine pure_ (i := 3) (N := some 7) (v := ?_) (a' := ?_) #[true, true, true, true, false, false, false] rfl rfl (by kernel_rfl) (fun _ _ _ h => h) (Or.inl ⟨by rfl, ?_⟩) ?_ ?_
    rotate_left
    · intro w'
      go_simp
      with_reducible rfl
    rotate_left
    · simp only [Act.put, List.setIfInBounds_toArray, List.set_cons_zero, List.set_cons_succ, i64_w, i32_w]
      rfl
    refine pure_ (i := 4) (N := some 8) (v := ?_) (a' := ?_) #[true, true, true, true, true, false, false] rfl rfl (by kernel_rfl) (fun _ _ _ h => h) (Or.inl ⟨by rfl, ?_⟩) ?_ ?_
    rotate_left
    · intro w'
      go_simp
      with_reducible rfl
    rotate_left
    · simp only [Act.put, List.setIfInBounds_toArray, List.set_cons_zero, List.set_cons_succ, i64_w, i32_w]
      rfl
    refine take_ (i := 5) (N := some 9) (v := ?_) (a' := ?_) #[true, true, true, true, true, true, false] rfl rfl (by kernel_rfl) (fun _ _ _ h => h) (Or.inl ⟨by rfl, ?_⟩) hHeld ?_ ?_
    rotate_left
    · rintro w' ⟨s0, s1, s2⟩
      go_simp
      with_reducible rfl
    rotate_left
    · simp only [Act.put, List.setIfInBounds_toArray, List.set_cons_zero, List.set_cons_succ, i64_w, i32_w]
      rfl
    refine pure_ (i := 6) (N := some 10) (v := .bool true) (a' := ?_) #[true, true, true, true, true, true, true] rfl rfl (by kernel_rfl) (fun _ _ _ h => h) (Or.inl ⟨by rfl, ?_⟩) ?_ ?_
    · intro w'
      go_simp
      all_goals with_reducible rfl
    rotate_left
    · simp only [Act.put, List.setIfInBounds_toArray, List.set_cons_zero, List.set_cons_succ, i64_w, i32_w]
      rfl
    refine done_ (by kernel_rfl) ?_
    have k3_0 := (blk_cell H32.out 0).trans rfl
    have k3_1 := (blk_cell H32.out 1).trans rfl
    have k3_2 := (blk_cell H32.out 2).trans rfl
    have kl := (blk_cell HN2.out 0).trans rfl
    go_wp2_with (first | ((with_reducible refine gate_builtin (b := .append) (xs := #[.tmp 11, .tmp 13]) rfl ?_); at_builtin; refine Kd.R_append kR (w0 := w) base rfl (.tmp 11) (.tmp 13) 59 66 (.agg #[.int .i64 0, .int .i64 0, .int .i64 0]) 24 rfl Try.underlying59 info_rng rfl (by decide) (by omega) v xs r [.int .i64 r.lo, .int .i64 r.hi, .int .i64 r.va] (fun k => k ≠ gl) (fun _ => False) rfl rfl ?aP (fun _ hk => hk.elim) ?aF ?aO ?aB ?aS ?aL ?_; (case aP => exact kR_mkM _ _ _ r); (case aB => exact HBB2.out); (case aF => exact fun k hk => by have := blk_lt HN2.out; omega); (case aO => exact HR2.out); (case aS => exact (by have := HBS.out; have := HB2.out.size; omega)); (case aL => have := HLX.out; omega); intro v3 w3 ho hb hg hat; obtain ⟨A3, c3, e3⟩ := Kd.R_slice ho; generalize hn3 : (xs ++ [r]).length = n3 at e3; clear hn3; subst e3; have HR3 := Aside0.mk ho; have HN3 := Aside0.mk (blk_grown HN2.out hg (HNV.out)); have HM3 := Aside0.mk ((Mv.of_below HB2.out gl v).grown hg hat); have kn := (blk_cell HN3.out 0).trans rfl; have fn := blk_frozen HN3.out 0; clear ho hb hg hat))
    first | go_end0 | ((try simp only [Exit.inBlock, Exit.then]); refine bodyPost_ret (results_none rfl _ _ _) rfl ?_)
    exact ⟨by first | rfl | (simp; done), .slice A3 n3 c3, (blk_set HN3.out 0 _).trans rfl, Kd.R_far HR3.out (p := ⟨gl, 0, none⟩) (fun _ hk => hk) _, HM3.out.set 0 _⟩
section
variable {P : Program} {w : World} {ops : Array Oper} {rest : List Oper} {o : Oper} {a : Act} {Q : Exit → Act → World → Prop}
/-- A new variable of one cell. -/
theorem wp_alloc_one (hg : o.guard = none) (t : TypeId) (hop : o.op = .alloc t) (v : Value) (hz : (P.info? t).map (·.zero) = some (some v)) (hc : v.cells = #[v])
    (h : ∀ g, g = w.heap.size → ∀ w1, w1.heap[g]? = some (.cells #[v] t (0, 0)) → Below w.heap.size w w1 → wpList P ops Q rest (a.put o.dst (.pointer (some ⟨g, 0, none⟩))) w1) : wpList P ops Q (o :: rest) a w := by
  refine Kd.event_run hg (w1 := w.alloc (.cells #[v] t (0, 0))) (v := .pointer (some ⟨w.heap.size, 0, none⟩)) ?_ (h _ rfl _ (blk_new w _) (below_alloc (Below.refl _ _) _))
  have hzv : (zeroValue t).run P w = .ok v w := by
    cases hq : P.info? t with
    | none => simp [hq] at hz
    | some i => simp [hq] at hz; simp [zeroValue, typeInfo, hq, hz]
  unfold execOp
  simp only [hop, Instr.alloc, Sem.run_bind, hzv, Result.andThen_ok]
  unfold newVar
  rw [hc]
  rfl
end
theorem zero_int : (Try.prog.info? 3).map (·.zero) = some (some (.int .i64 0)) := by kernel_rfl
theorem zero_trs : (Try.prog.info? 59).map (·.zero) = some (some (.slice none 0 0)) := by kernel_rfl
def RngInv (w0 : World) (g gt gl : Nat) (z : Int) (g4 : Nat) (w' : World) (rs : List Rg) : Prop := Below w0.heap.size w0 w' ∧ w'.heap[gt]? = some (.cells #[.pointer (some ⟨g, 0, none⟩)] 68 (0, 0)) ∧ ∃ v, w'.heap[gl]? = some (.cells #[v] 59 (0, 0)) ∧ Kd.R kR 66 w' w0.heap.size (fun k => k ≠ gl) v (keepR z rs) ∧ some gt ≠ v.ownBlock ∧ some g4 ≠ v.ownBlock ∧ g4 < w'.heap.size
theorem tab_none {w : World} {g : Nat} {fs : List Int} {bs : List (List Int)} {z : Int} {m : Bool} (h : TabR w g fs bs z m) : w.cell? ⟨g, 2, none⟩ = some (.int .i64 z) := by
  obtain ⟨A1, c1, A2, c2, hG, _⟩ := h
  exact (blk_cell hG 2).trans rfl
theorem p_each_ranges {w0 w : World} {g gt gl : Nat} {fs : List Int} {bs : List (List Int)} {z : Int} (h0 : TabR w0 g fs bs z true) (hk : TabOk fs bs) (hB : Below w0.heap.size w0 w) (hV : w.heap[gt]? = some (.cells #[.pointer (some ⟨g, 0, none⟩)] 68 (0, 0))) (hN : w.heap[gl]? = some (.cells #[.slice none 0 0] 59 (0, 0))) (hgl : w0.heap.size ≤ gl) (hne : gt ≠ gl) :
    Calls Try.prog 92 #[.pointer (some ⟨g, 0, none⟩), .func (.func 93) #[] #[.pointer (some ⟨gt, 0, none⟩), .pointer (some ⟨gl, 0, none⟩)]] w fun e w' => e = .returned (.tuple #[]) ∧ ∃ rs v, Below w0.heap.size w0 w' ∧ w'.heap[gl]? = some (.cells #[v] 59 (0, 0)) ∧ Kd.R kR 66 w' w0.heap.size (fun k => k ≠ gl) v (keepR z rs) ∧ Seg (tabv fs bs) rs 0 1114112 := by
  have hlv := blk_lt hV
  have hln := blk_lt hN
  have hsz := hB.size
  refine (p_each93 (tab_below h0 hB) hk _ _ (RngInv w0 g gt gl z) (fun g4 w' h4 hl4 hb => ⟨hB.trans (hb.mono hsz), blk_below hV hb, _, blk_below hN hb, Kd.R_nil _ _ _ _ _, by simp [Value.ownBlock], by simp [Value.ownBlock], hl4⟩) (fun g4 w' w'' rs h4 ⟨i1, i2, v, i3, i4, i5, i6, i7⟩ hb => ⟨i1.trans (hb.mono i1.size), blk_below i2 hb, v, blk_below i3 hb, Kd.R_below i4 hb, i5, i6, Nat.lt_of_lt_of_le i7 hb.size⟩) (fun g4 w' w'' rs h4 ⟨i1, i2, v, i3, i4, i5, i6, i7⟩ hw => ⟨hw.below i1 (by omega), hw.blk i2 (by omega), v, hw.blk i3 (by omega), Kd.R_drop (Kd.R_step (Kd.R_far1 i4 rfl i6) (fun k hk _ => hw.2.1 k hk.2)), i5, i6, by rw [hw.1]; exact i7⟩) (fun g4 w' rs hi => tab_below h0 hi.1) (fun g4 w' rs r cells t h4 hc4 ⟨i1, i2, v, i3, i4, i5, i6, i7⟩ hl => ?_)).mono fun e w' ⟨he, g4, rs, ⟨i1, i2, v, i3, i4, i5, i6, i7⟩, hs⟩ => ⟨he, rs, v, i1, i3, i4, hs⟩
  refine (p_rcl i2 i3 (tab_none (tab_below h0 i1)) i4 i1.size (Nat.le_trans (List.length_filter_le _ _) hl) r).mono fun e w'' ⟨he, v', h1, h2, h3⟩ => ⟨he, ⟨i1.trans (h3.below_base i1.size hgl (fun k hk => ((Kd.R_bound i4).1 k hk).2.1)), h3.keeps i2 hne i5, v', h1, ?_, ?_, ?_, ?_⟩, ?_⟩
  · rw [keepR_snoc]; exact h2
  · intro e; rcases h3.2.1 _ e.symm with h | h
    · exact i5 h.symm
    · have := blk_lt i2; omega
  · intro e; rcases h3.2.1 _ e.symm with h | h
    · exact i6 h.symm
    · omega
  · exact Nat.lt_of_lt_of_le i7 h3.1.1
  · exact (h3.keeps hc4 (by omega) i6).trans hc4.symm
set_option maxHeartbeats 8000000 in
set_option maxRecDepth 100000 in
theorem p_clip (A : Option Addr) (n c : Nat) (hc : n ≤ c) (w : World) : Calls Try.prog 94 #[.slice A n c] w fun e w' => e = .returned (.slice A n n) ∧ Below w.heap.size w w' := by
  have q0 := eq_true (show (0 : Int) ≤ (n : Int) by omega)
  have q1 := eq_true (show (n : Int) ≤ (c : Int) by omega)
  have q2 := eq_true hc
  have hu := Try.underlying59
  go_enter Try.func94, Try.ntmps94
  go_wp2
  go_ret
  exact ⟨by first | rfl | (simp; done), by first | exact Below.refl _ _ | exact (Below.refl _ _).drew⟩
set_option maxHeartbeats 8000000 in
set_option maxRecDepth 100000 in
theorem p_ranges {w : World} {g : Nat} {fs : List Int} {bs : List (List Int)} {z : Int} (h : TabR w g fs bs z true) (hk : TabOk fs bs) :
    Calls Try.prog 75 #[.pointer (some ⟨g, 0, none⟩)] w fun e w' => ∃ rs A, e = .returned (.slice A (keepR z rs).length (keepR z rs).length) ∧ Kd.C kR w' A (keepR z rs).length (keepR z rs) ∧ Seg (tabv fs bs) rs 0 1114112 ∧ Below w.heap.size w w' := by
  have HT := Aside0.mk h
  have HK := Aside0.mk hk
  clear h hk
  go_enter Try.func75, Try.ntmps75
  go_wp2_with (first | ((with_reducible refine gate_dst (N := 1) rfl ?_); refine box_event ?hg (N := 1) ?hd (cs := #[.pointer (some ⟨g, 0, none⟩)]) (t := 68) ?hr ?_; (case hd => rfl); (case hg => rfl); (case hr => first | (go_simp; done) | (go_simp; rfl)); intro g1 hg w1 hbox hb; have H1 := Aside0.mk hbox; have HB1 := Aside0.mk hb; have HG1 := Aside0.mk (show w.heap.size ≤ g1 by omega); clear hg hbox hb) | ((with_reducible refine gate_dst (N := 3) rfl ?_); refine wp_alloc_one rfl 59 rfl (.slice none 0 0) zero_trs rfl ?_; intro g3 hg w2 hb hB; have H3 := Aside0.mk hb; have H12 := Aside0.mk (blk_below H1.out hB); have HB2 := Aside0.mk (below_step HB1.out hB); have HG3 := Aside0.mk (show w.heap.size ≤ g3 ∧ g1 ≠ g3 by have := HB1.out.size; have := blk_lt H1.out; omega); have k1 := (blk_cell H12.out 0).trans rfl; clear hg hb hB) | (go_at_call 92; (with_reducible refine (p_each_ranges HT.out HK.out HB2.out H12.out H3.out HG3.out.1 HG3.out.2).mono ?_); rintro e w4 ⟨rfl, rs, v, hb, hn, hR, hs⟩; obtain ⟨A4, c4, e4, hc4, hC4⟩ := Kd.R_reads hR; subst e4; have HB4 := Aside0.mk hb; have HS4 := Aside0.mk hs; have HC4 := Aside0.mk hC4; have HCC4 := Aside0.mk hc4; have k4 := (blk_cell hn 0).trans rfl; clear hb hn hR hs hc4 hC4) | (go_at_call 94; (with_reducible refine (p_clip A4 (keepR z rs).length c4 HCC4.out w4).mono ?_); rintro e w5 ⟨rfl, hb⟩; have HB5 := Aside0.mk (below_step HB4.out hb); have HC5 := Aside0.mk (Kd.C_below HC4.out hb); clear hb))
  go_ret
  exact ⟨rs, A4, by first | rfl | (simp; done), HC5.out, HS4.out, HB5.out⟩
set_option maxHeartbeats 8000000 in
set_option maxRecDepth 100000 in
theorem p_each_nil (f : Value) (w : World) : Calls Try.prog 92 #[.pointer none, f] w fun e w' => e = .returned (.tuple #[]) ∧ Below w.heap.size w w' := by
  go_enter Try.func92, Try.ntmps92
  go_wp2
  first | go_end0 | ((try simp only [Exit.inBlock, Exit.then]); refine bodyPost_ret (results_none rfl _ _ _) rfl ?_)
  exact ⟨by first | rfl | (simp; done), by first | exact Below.refl _ _ | exact (Below.refl _ _).drew⟩
theorem p_each_zero {w : World} {g : Nat} {fs : List Int} {bs : List (List Int)} {z : Int} (h : TabR w g fs bs z false) (f : Value) : Calls Try.prog 92 #[.pointer (some ⟨g, 0, none⟩), f] w fun e w' => e = .returned (.tuple #[]) ∧ Below w.heap.size w w' := by
  obtain ⟨A1, c1, A2, c2, hG, _, _⟩ := h
  have k3 := (blk_cell hG 3).trans rfl
  clear hG
  go_enter Try.func92, Try.ntmps92
  go_wp2
  first | go_end0 | ((try simp only [Exit.inBlock, Exit.then]); refine bodyPost_ret (results_none rfl _ _ _) rfl ?_)
  exact ⟨by first | rfl | (simp; done), by first | exact Below.refl _ _ | exact (Below.refl _ _).drew⟩
set_option maxHeartbeats 8000000 in
set_option maxRecDepth 100000 in
theorem p_ranges_nil {w : World} : Calls Try.prog 75 #[.pointer none] w fun e w' => e = .returned (.slice none 0 0) ∧ Below w.heap.size w w' := by
  go_enter Try.func75, Try.ntmps75
  go_wp2_with (first | ((with_reducible refine gate_dst (N := 1) rfl ?_); refine box_event ?hg (N := 1) ?hd (cs := #[.pointer none]) (t := 68) ?hr ?_; (case hd => rfl); (case hg => rfl); (case hr => first | (go_simp; done) | (go_simp; rfl)); intro g1 hg w1 hbox hb; have H1 := Aside0.mk hbox; have HB1 := Aside0.mk hb; have HG1 := Aside0.mk (show w.heap.size ≤ g1 by omega); clear hg hbox hb) | ((with_reducible refine gate_dst (N := 3) rfl ?_); refine wp_alloc_one rfl 59 rfl (.slice none 0 0) zero_trs rfl ?_; intro g3 hg w2 hb hB; have H3 := Aside0.mk hb; have H12 := Aside0.mk (blk_below H1.out hB); have HB2 := Aside0.mk (below_step HB1.out hB); have HG3 := Aside0.mk (show w.heap.size ≤ g3 ∧ g1 ≠ g3 by have := HB1.out.size; have := blk_lt H1.out; omega); have k1 := (blk_cell H12.out 0).trans rfl; clear hg hb hB) | (go_at_call 92; have HBX := Aside0.mk HB2.out; (with_reducible refine (p_each_nil _ _).mono ?_); rintro e w4 ⟨rfl, hb⟩; have HB4 := Aside0.mk (below_step HB2.out hb); have k4 := (blk_cell (blk_below H3.out hb) 0).trans rfl; clear hb) | (go_at_call 94; (with_reducible refine (p_clip none 0 0 (Nat.le_refl _) w4).mono ?_); rintro e w5 ⟨rfl, hb⟩; have HB5 := Aside0.mk (below_step HB4.out hb); clear hb))
  go_ret
  exact ⟨by first | rfl | (simp; done), HB5.out⟩
set_option maxHeartbeats 8000000 in
set_option maxRecDepth 100000 in
theorem p_ranges_zero {w : World} {g : Nat} {fs : List Int} {bs : List (List Int)} {z : Int} (h : TabR w g fs bs z false) : Calls Try.prog 75 #[.pointer (some ⟨g, 0, none⟩)] w fun e w' => e = .returned (.slice none 0 0) ∧ Below w.heap.size w w' := by
  have HT := Aside0.mk h
  clear h
  go_enter Try.func75, Try.ntmps75
  go_wp2_with (first | ((with_reducible refine gate_dst (N := 1) rfl ?_); refine box_event ?hg (N := 1) ?hd (cs := #[.pointer (some ⟨g, 0, none⟩)]) (t := 68) ?hr ?_; (case hd => rfl); (case hg => rfl); (case hr => first | (go_simp; done) | (go_simp; rfl)); intro g1 hg w1 hbox hb; have H1 := Aside0.mk hbox; have HB1 := Aside0.mk hb; have HG1 := Aside0.mk (show w.heap.size ≤ g1 by omega); clear hg hbox hb) | ((with_reducible refine gate_dst (N := 3) rfl ?_); refine wp_alloc_one rfl 59 rfl (.slice none 0 0) zero_trs rfl ?_; intro g3 hg w2 hb hB; have H3 := Aside0.mk hb; have H12 := Aside0.mk (blk_below H1.out hB); have HB2 := Aside0.mk (below_step HB1.out hB); have HG3 := Aside0.mk (show w.heap.size ≤ g3 ∧ g1 ≠ g3 by have := HB1.out.size; have := blk_lt H1.out; omega); have k1 := (blk_cell H12.out 0).trans rfl; clear hg hb hB) | (go_at_call 92; have HBX := Aside0.mk HB2.out; (with_reducible refine (p_each_zero (tab_below HT.out HBX.out) _).mono ?_); rintro e w4 ⟨rfl, hb⟩; have HB4 := Aside0.mk (below_step HB2.out hb); have k4 := (blk_cell (blk_below H3.out hb) 0).trans rfl; clear hb) | (go_at_call 94; (with_reducible refine (p_clip none 0 0 (Nat.le_refl _) w4).mono ?_); rintro e w5 ⟨rfl, hb⟩; have HB5 := Aside0.mk (below_step HB4.out hb); clear hb))
  go_ret
  exact ⟨by first | rfl | (simp; done), HB5.out⟩
theorem up1 {i n : Nat} (h : i < n) (hn : n ≤ 9223372036854775807) : wrap64 ((i : Int) + 1) = ((i + 1 : Nat) : Int) := by unfold wrap64; omega
theorem valR_in {l : List Rg} {z c : Int} {i : Nat} (hO : OkL l) (hi : i < l.length) (h1 : (rgAt l i).lo ≤ c) (h2 : c ≤ (rgAt l i).hi) : valR l z c = (rgAt l i).va := by
  rw [← valR_end (m := i + 1) (fun j hj hl => by have := hO.2 i j (by omega) hl; omega), valR_take hi, if_pos ⟨h1, h2⟩]
theorem valR_out {l : List Rg} {z c : Int} (h : ∀ i, i < l.length → ¬ ((rgAt l i).lo ≤ c ∧ c ≤ (rgAt l i).hi)) : valR l z c = z := valR_none fun r hr => by
  obtain ⟨j, hj, e⟩ := List.mem_iff_getElem.1 hr
  have e2 : rgAt l j = r := by rw [← e]; simp [rgAt, List.getD, hj]
  rw [← e2]
  exact h j hj

theorem rgAt_zero (r : Rg) (rs : List Rg) : rgAt (r :: rs) 0 = r := rfl
theorem rgAt_succ (r : Rg) (rs : List Rg) (i : Nat) : rgAt (r :: rs) (i + 1) = rgAt rs i := rfl
theorem rgAt_last (init : List Rg) (r : Rg) : rgAt (init ++ [r]) init.length = r := by simp [rgAt, List.getD]
/-- What a row of ranges that are longest says of V, from a on ahead of b. -/
def OutP (V : Int → Int) (z : Int) : List Rg → Int → Int → Prop
  | [], a, b => ∀ x, a ≤ x → x < b → V x = z
  | r :: out, a, b => (a ≤ r.lo ∧ r.lo ≤ r.hi ∧ r.hi < b ∧ r.va ≠ z) ∧ (∀ x, a ≤ x → x < r.lo → V x = z) ∧ (∀ x, r.lo ≤ x → x ≤ r.hi → V x = r.va) ∧ (r.hi + 1 < b → V (r.hi + 1) ≠ r.va) ∧ OutP V z out (r.hi + 1) b
theorem outp_z {V : Int → Int} {z b b' : Int} (hb : b ≤ b') (h : ∀ x, b ≤ x → x < b' → V x = z) : ∀ {out : List Rg} {a : Int}, OutP V z out a b → OutP V z out a b'
  | [], a, h1 => fun x hx hy => by
    by_cases e : x < b
    · exact h1 x hx e
    · exact h x (by omega) hy
  | r :: out, a, h1 => ⟨⟨h1.1.1, h1.1.2.1, by have := h1.1.2.2.1; omega, h1.1.2.2.2⟩, h1.2.1, h1.2.2.1, fun h2 => by
    by_cases e : r.hi + 1 < b
    · exact h1.2.2.2.1 e
    · have := h1.1.2.2.1
      rw [h (r.hi + 1) (by omega) h2]
      exact Ne.symm h1.1.2.2.2, outp_z hb h h1.2.2.2.2⟩
theorem outp_snoc {V : Int → Int} {z b : Int} {r : Rg} (h1 : r.lo = b) (h2 : r.lo ≤ r.hi) (h3 : r.va ≠ z) (h4 : ∀ x, r.lo ≤ x → x ≤ r.hi → V x = r.va) : ∀ {out : List Rg} {a : Int}, a ≤ b → (∀ q, q ∈ out.getLast? → q.hi + 1 = r.lo → q.va ≠ r.va) → OutP V z out a b → OutP V z (out ++ [r]) a (r.hi + 1)
  | [], a, ha, hl, h => ⟨⟨by omega, h2, by omega, h3⟩, fun x hx hy => h x hx (by omega), h4, fun h5 => by omega, fun x hx hy => by omega⟩
  | q :: out, a, ha, hl, h => by
    refine ⟨⟨h.1.1, h.1.2.1, by have := h.1.2.2.1; omega, h.1.2.2.2⟩, h.2.1, h.2.2.1, fun h5 => ?_, outp_snoc h1 h2 h3 h4 (by have := h.1.2.2.1; omega) (fun p hp e => ?_) h.2.2.2.2⟩
    · by_cases e : q.hi + 1 < b
      · exact h.2.2.2.1 e
      · have := h.1.2.2.1
        have e2 : q.hi + 1 = r.lo := by omega
        rw [e2, h4 r.lo (by omega) h2]
        cases out with
        | nil => exact Ne.symm (hl q (by simp) e2)
        | cons p out =>
          have := h.2.2.2.2.1
          omega
    · refine hl p ?_ e
      cases out with
      | nil => simp at hp
      | cons p2 out => simpa using hp
theorem outp_more {V : Int → Int} {z b hi : Int} {q : Rg} (h1 : q.hi + 1 = b) (h2 : b ≤ hi) (h3 : ∀ x, b ≤ x → x ≤ hi → V x = q.va) : ∀ {out : List Rg} {a : Int}, OutP V z (out ++ [q]) a b → OutP V z (out ++ [⟨q.lo, hi, q.va⟩]) a (hi + 1)
  | [], a, h => by
    have h := (show OutP V z [q] a b from h)
    exact ⟨⟨h.1.1, by have := h.1.2.1; show q.lo ≤ hi; omega, by show hi < hi + 1; omega, h.1.2.2.2⟩, h.2.1, fun x hx hy => by
      by_cases e : x ≤ q.hi
      · exact h.2.2.1 x hx e
      · exact h3 x (by omega) hy, fun h5 => by have : hi + 1 < hi + 1 := h5; omega, fun x hx hy => by have : hi + 1 ≤ x := hx; omega⟩
  | p :: out, a, h => by
    have h := (show OutP V z (p :: (out ++ [q])) a b from h)
    refine ⟨⟨h.1.1, h.1.2.1, by have := h.1.2.2.1; omega, h.1.2.2.2⟩, h.2.1, h.2.2.1, fun h5 => ?_, outp_more h1 h2 h3 h.2.2.2.2⟩
    by_cases e : p.hi + 1 < b
    · exact h.2.2.2.1 e
    · exfalso
      have h6 := h.2.2.2.2
      have h7 := h.1.2.2.1
      cases out with
      | nil =>
        have h8 : OutP V z [q] (p.hi + 1) b := h6
        have := h8.1.2.1
        have := h8.1.1
        omega
      | cons p2 out =>
        have h8 : OutP V z (p2 :: (out ++ [q])) (p.hi + 1) b := h6
        have := h8.1.2.2.1
        have := h8.1.1
        have := h8.1.2.1
        omega
theorem outp_in {V : Int → Int} {z b : Int} : ∀ {out : List Rg} {a : Int}, OutP V z out a b → ∀ i, i < out.length → a ≤ (rgAt out i).lo ∧ (rgAt out i).lo ≤ (rgAt out i).hi ∧ (rgAt out i).hi < b ∧ ∀ x, (rgAt out i).lo ≤ x → x ≤ (rgAt out i).hi → V x = (rgAt out i).va
  | [], a, h, i, hi => by simp at hi
  | r :: out, a, h, 0, hi => ⟨h.1.1, h.1.2.1, h.1.2.2.1, h.2.2.1⟩
  | r :: out, a, h, i + 1, hi => by
    have h1 := outp_in h.2.2.2.2 i (by simpa using hi)
    rw [rgAt_succ]
    exact ⟨by have := h.1.1; have := h.1.2.1; omega, h1.2⟩
theorem outp_lt {V : Int → Int} {z b : Int} : ∀ {out : List Rg} {a : Int}, OutP V z out a b → ∀ i j, i < j → j < out.length → (rgAt out i).hi < (rgAt out j).lo
  | [], a, h, i, j, hij, hj => by simp at hj
  | r :: out, a, h, 0, j + 1, hij, hj => by
    have h1 := outp_in h.2.2.2.2 j (by simpa using hj)
    rw [rgAt_succ, rgAt_zero]
    omega
  | r :: out, a, h, i + 1, j + 1, hij, hj => by
    rw [rgAt_succ, rgAt_succ]
    exact outp_lt h.2.2.2.2 i j (by omega) (by simpa using hj)
theorem outp_gap {V : Int → Int} {z b : Int} : ∀ {out : List Rg} {a : Int}, OutP V z out a b → ∀ x, a ≤ x → x < b → (∀ i, i < out.length → ¬ ((rgAt out i).lo ≤ x ∧ x ≤ (rgAt out i).hi)) → V x = z
  | [], a, h, x, hx, hy, hn => h x hx hy
  | r :: out, a, h, x, hx, hy, hn => by
    by_cases e : x < r.lo
    · exact h.2.1 x hx e
    · have h0 := hn 0 (by simp)
      rw [rgAt_zero] at h0
      exact outp_gap h.2.2.2.2 x (by omega) hy (fun i hi => hn (i + 1) (by simpa using hi))
/-- The ranges, and what lies between them. -/
def fillG (z : Int) : List Rg → Int → List Rg
  | [], a => if a ≤ 1114111 then [⟨a, 1114111, z⟩] else []
  | r :: out, a => (if a < r.lo then [⟨a, r.lo - 1, z⟩] else []) ++ r :: fillG z out (r.hi + 1)
theorem keep_fill {V : Int → Int} {z : Int} : ∀ {out : List Rg} {a : Int}, OutP V z out a 1114112 → keepR z (fillG z out a) = out
  | [], a, h => by unfold fillG; split <;> simp [keepR]
  | r :: out, a, h => by
    have h1 := keep_fill h.2.2.2.2
    have h2 := h.1.2.2.2
    unfold fillG
    unfold keepR at h1 ⊢
    rw [List.filter_append, List.filter_cons_of_pos (by simpa using h2), h1]
    split <;> simp
theorem seg_fill {V : Int → Int} {z : Int} : ∀ {out : List Rg} {a : Int}, a ≤ 1114112 → OutP V z out a 1114112 → Seg V (fillG z out a) a 1114112
  | [], a, ha, h => by
    unfold fillG
    split
    · exact ⟨⟨rfl, by show a ≤ 1114111; omega, by show (1114111 : Int) ≤ 1114111; omega⟩, fun x hx hy => h x hx (by have : x ≤ 1114111 := hy; omega), fun h5 => by have : (1114111 : Int) < 1114111 := h5; omega, rfl⟩
    · show a = 1114112; omega
  | r :: out, a, ha, h => by
    have h1 := seg_fill (by have := h.1.2.2.1; omega) h.2.2.2.2
    have h2 : Seg V (r :: fillG z out (r.hi + 1)) r.lo 1114112 := ⟨⟨rfl, h.1.2.1, by have := h.1.2.2.1; omega⟩, h.2.2.1, fun h5 => h.2.2.2.1 (by omega), h1⟩
    unfold fillG
    by_cases e : a < r.lo
    · rw [if_pos e]
      have h3 := h.1
      refine ⟨⟨rfl, by show a ≤ r.lo - 1; omega, by show r.lo - 1 ≤ 1114111; omega⟩, fun x hx hy => h.2.1 x hx (by have : x ≤ r.lo - 1 := hy; omega), fun h5 => ?_, ?_⟩
      · show V (r.lo - 1 + 1) ≠ z
        rw [show r.lo - 1 + 1 = r.lo by omega, h.2.2.1 r.lo (by omega) h3.2.1]
        exact h3.2.2.2
      · show Seg V (r :: fillG z out (r.hi + 1)) (r.lo - 1 + 1) 1114112
        rw [show r.lo - 1 + 1 = r.lo by omega]
        exact h2
    · rw [if_neg e, List.nil_append, show a = r.lo by have := h.1.1; omega]
      exact h2
theorem seg_uniq {V V' : Int → Int} : ∀ {rs rs' : List Rg} {a : Int}, 0 ≤ a → (∀ x, 0 ≤ x → x ≤ 1114111 → V x = V' x) → Seg V rs a 1114112 → Seg V' rs' a 1114112 → rs = rs'
  | [], [], a, h0, hv, h, h' => rfl
  | [], r :: rs', a, h0, hv, h, h' => by
    have e : a = 1114112 := h
    have := h'.1
    omega
  | r :: rs, [], a, h0, hv, h, h' => by
    have e : a = 1114112 := h'
    have := h.1
    omega
  | r :: rs, r' :: rs', a, h0, hv, h, h' => by
    have h1 := h.1
    have h2 := h'.1
    have ev : r.va = r'.va := by rw [← h.2.1 a (Int.le_refl _) h1.2.1, ← h'.2.1 a (Int.le_refl _) h2.2.1]; exact hv a h0 (by omega)
    have eh : r.hi = r'.hi := by
      rcases Int.lt_trichotomy r.hi r'.hi with e | e | e
      · exfalso
        refine h.2.2.1 (by omega) ?_
        rw [hv _ (by omega) (by omega), h'.2.1 (r.hi + 1) (by omega) (by omega), ev]
      · exact e
      · exfalso
        refine h'.2.2.1 (by omega) ?_
        rw [← hv _ (by omega) (by omega), h.2.1 (r'.hi + 1) (by omega) (by omega), ev]
    have er : r = r' := by
      obtain ⟨a1, a2, a3⟩ := r
      obtain ⟨b1, b2, b3⟩ := r'
      simp only at ev eh h1 h2
      rw [ev, eh, h1.1, h2.1]
    have h3 := h'.2.2.2
    rw [← eh] at h3
    rw [er, seg_uniq (by omega) hv h.2.2.2 h3]
/-- How many codes have v, from a on. -/
def cF (V : Int → Int) (v a : Int) : Nat → Int
  | 0 => 0
  | m + 1 => (if V (a + m) = v then 1 else 0) + cF V v a m
theorem cF_succ (V : Int → Int) (v a : Int) (m : Nat) : cF V v a (m + 1) = (if V (a + m) = v then 1 else 0) + cF V v a m := rfl
theorem cF_le (V : Int → Int) (v a : Int) : ∀ m, 0 ≤ cF V v a m ∧ cF V v a m ≤ m
  | 0 => ⟨Int.le_refl _, Int.le_refl _⟩
  | m + 1 => by have := cF_le V v a m; rw [cF_succ]; split <;> omega
theorem cF_add (V : Int → Int) (v a : Int) (m : Nat) : ∀ k, cF V v a (m + k) = cF V v a m + cF V v (a + m) k
  | 0 => by simp [cF]
  | k + 1 => by
    rw [← Nat.add_assoc, cF_succ, cF_succ, cF_add V v a m k, show a + ((m + k : Nat) : Int) = a + (m : Int) + (k : Int) by omega]
    omega
theorem cF_const {V : Int → Int} {v a u : Int} : ∀ {m : Nat}, (∀ x, a ≤ x → x < a + m → V x = u) → cF V v a m = if u = v then (m : Int) else 0
  | 0, h => by simp [cF]
  | m + 1, h => by
    rw [cF_succ, h (a + m) (by omega) (by omega), cF_const (fun x hx hy => h x hx (by omega))]
    split <;> omega
theorem cF_congr {V V' : Int → Int} {v a : Int} : ∀ {m : Nat}, (∀ x, a ≤ x → x < a + m → V x = V' x) → cF V v a m = cF V' v a m
  | 0, h => rfl
  | m + 1, h => by
    rw [cF_succ, cF_succ, h (a + m) (by omega) (by omega), cF_congr (fun x hx hy => h x hx (by omega))]
theorem seg_count {V : Int → Int} {v : Int} : ∀ {rs : List Rg} {a n : Int}, 0 ≤ a → 0 ≤ n → n ≤ a → Seg V rs a 1114112 → rs.foldl (cntW v) n = n + cF V v a (1114112 - a).toNat
  | [], a, n, h0, h1, h2, h => by
    have e : a = 1114112 := h
    subst e
    simp [cF]
  | r :: rs, a, n, h0, h1, h2, h => by
    have h3 := h.1
    have hm : (1114112 - a).toNat = (r.hi + 1 - a).toNat + (1114112 - (r.hi + 1)).toNat := by omega
    have hc := cF_const (V := V) (v := v) (a := a) (u := r.va) (m := (r.hi + 1 - a).toNat) (fun x hx hy => h.2.1 x hx (by omega))
    rw [List.foldl_cons, hm, cF_add, hc, show a + (((r.hi + 1 - a).toNat : Nat) : Int) = r.hi + 1 by omega]
    by_cases e : r.va = v
    · rw [if_pos e, show cntW v n r = n + (r.hi + 1 - a) by unfold cntW; rw [if_pos e]; unfold wrap64; omega, seg_count (by omega) (by omega) (by omega) h.2.2.2]
      omega
    · rw [if_neg e, show cntW v n r = n from if_neg e, seg_count (by omega) h1 (by omega) h.2.2.2]
      omega

def stepM (z : Int) (out : List Rg) (r : Rg) : List Rg :=
  if r.va = z then out else if 0 < out.length ∧ (rgAt out (out.length - 1)).hi + 1 = r.lo ∧ (rgAt out (out.length - 1)).va = r.va then out.set (out.length - 1) ⟨(rgAt out (out.length - 1)).lo, r.hi, (rgAt out (out.length - 1)).va⟩ else out ++ [r]
/-- The ranges, those of one value beside one another put together. -/
def mrgF (z : Int) (l : List Rg) : List Rg := l.foldl (stepM z) []
theorem stepM_len (z : Int) (out : List Rg) (r : Rg) : (stepM z out r).length ≤ out.length + 1 := by
  unfold stepM
  split
  · omega
  · split <;> simp
theorem foldM_len (z : Int) : ∀ (l out : List Rg), (l.foldl (stepM z) out).length ≤ out.length + l.length
  | [], out => by simp
  | r :: l, out => by
    have h1 := foldM_len z l (stepM z out r)
    have h2 := stepM_len z out r
    rw [List.foldl_cons, List.length_cons]
    omega
theorem mrg_len (z : Int) (l : List Rg) : (mrgF z l).length ≤ l.length := by have := foldM_len z l []; simpa [mrgF] using this
def bAt (l : List Rg) : Nat → Int
  | 0 => 0
  | j + 1 => (rgAt l j).hi + 1
theorem bAt_ok {l : List Rg} (hO : OkL l) {i : Nat} (hi : i ≤ l.length) : 0 ≤ bAt l i ∧ bAt l i ≤ 1114112 ∧ (i < l.length → bAt l i ≤ (rgAt l i).lo) := by
  cases i with
  | zero => exact ⟨Int.le_refl _, by show (0 : Int) ≤ 1114112; omega, fun h => (hO.1 0 h).1⟩
  | succ j =>
    have h1 := hO.1 j (by omega)
    show 0 ≤ (rgAt l j).hi + 1 ∧ (rgAt l j).hi + 1 ≤ 1114112 ∧ _
    exact ⟨by omega, by omega, fun h => by have := hO.2 j (j + 1) (by omega) h; show (rgAt l j).hi + 1 ≤ _; omega⟩
theorem bAt_gap {l : List Rg} {z : Int} (hO : OkL l) {i : Nat} (hi : i ≤ l.length) (x : Int) (h1 : bAt l i ≤ x) (h2 : i < l.length → x < (rgAt l i).lo) : valR l z x = z := valR_out fun j hj hx => by
  rcases Nat.lt_trichotomy j i with e | e | e
  · obtain ⟨i, rfl⟩ : ∃ i', i = i' + 1 := ⟨i - 1, by omega⟩
    have h3 : (rgAt l i).hi + 1 ≤ x := h1
    by_cases e2 : j = i
    · subst e2; omega
    · have := hO.2 j i (by omega) (by omega)
      have := hO.1 i (by omega)
      omega
  · subst e; have := h2 hj; omega
  · have := h2 (by omega)
    have := hO.2 i j e hj
    have := hO.1 i (by omega)
    omega
theorem take_snoc {l : List Rg} {i : Nat} (hi : i < l.length) : l.take (i + 1) = l.take i ++ [rgAt l i] := by
  rw [List.take_add_one]
  simp [rgAt, List.getD, hi]
theorem mrg_step {V : Int → Int} {z : Int} {out : List Rg} {r : Rg} (h : OutP V z out 0 r.lo) (h0 : 0 ≤ r.lo) (h1 : r.lo ≤ r.hi) (h2 : ∀ x, r.lo ≤ x → x ≤ r.hi → V x = r.va) : OutP V z (stepM z out r) 0 (r.hi + 1) := by
  unfold stepM
  by_cases e : r.va = z
  · rw [if_pos e]
    exact outp_z (by omega) (fun x hx hy => (h2 x hx (by omega)).trans e) h
  · rw [if_neg e]
    rcases List.eq_nil_or_concat out with e2 | ⟨init, q, e2⟩
    · subst e2
      rw [if_neg (by simp)]
      exact outp_snoc rfl h1 e h2 h0 (fun q hq => by simp at hq) h
    · rw [List.concat_eq_append] at e2
      subst e2
      have el : (init ++ [q]).length - 1 = init.length := by simp
      rw [el, rgAt_last]
      by_cases c : 0 < (init ++ [q]).length ∧ q.hi + 1 = r.lo ∧ q.va = r.va
      · rw [if_pos c, show (init ++ [q]).set init.length ⟨q.lo, r.hi, q.va⟩ = init ++ [⟨q.lo, r.hi, q.va⟩] by simp]
        exact outp_more c.2.1 h1 (fun x hx hy => (h2 x hx hy).trans c.2.2.symm) h
      · rw [if_neg c]
        exact outp_snoc rfl h1 e h2 h0 (fun p hp e3 e4 => by
          rw [List.getLast?_append] at hp
          simp at hp
          subst hp
          exact c ⟨by simp, e3, e4⟩) h
theorem mrg_take {l : List Rg} {z : Int} (hO : OkL l) : ∀ i, i ≤ l.length → OutP (valR l z) z ((l.take i).foldl (stepM z) []) 0 (bAt l i)
  | 0, hi => by
    rw [List.take_zero]
    exact fun x hx hy => by have : x < 0 := hy; omega
  | i + 1, hi => by
    have h1 := mrg_take (z := z) hO i (by omega)
    have h2 := hO.1 i (by omega)
    have h3 := bAt_ok hO (i := i) (by omega)
    rw [take_snoc (by omega), List.foldl_append]
    exact mrg_step (outp_z (h3.2.2 (by omega)) (fun x hx hy => bAt_gap hO (by omega) x hx (fun _ => hy)) h1) h2.1 h2.2.1 (fun x hx hy => valR_in hO (by omega) hx hy)
theorem mrg_out {l : List Rg} (z : Int) (hO : OkL l) : OutP (valR l z) z (mrgF z l) 0 1114112 := by
  have h1 := mrg_take (z := z) hO l.length (Nat.le_refl _)
  rw [List.take_length] at h1
  exact outp_z (bAt_ok hO (Nat.le_refl _)).2.1 (fun x hx hy => bAt_gap hO (Nat.le_refl _) x hx (fun h => by omega)) h1
theorem ranges_same {l rs : List Rg} {z : Int} {V : Int → Int} (hO : OkL l) (hV : ∀ x, 0 ≤ x → x ≤ 1114111 → V x = valR l z x) (hs : Seg V rs 0 1114112) : keepR z rs = mrgF z l := by
  rw [seg_uniq (Int.le_refl _) hV hs (seg_fill (by decide) (mrg_out z hO)), keep_fill (mrg_out z hO)]
theorem count_same {l rs : List Rg} {z v : Int} {V : Int → Int} (hV : ∀ x, 0 ≤ x → x ≤ 1114111 → V x = valR l z x) (hs : Seg V rs 0 1114112) : rs.foldl (cntW v) 0 = cF (valR l z) v 0 1114112 := by
  rw [seg_count (Int.le_refl _) (Int.le_refl _) (Int.le_refl _) hs, cF_congr (fun x hx hy => hV x hx (by omega))]
  show 0 + cF (valR l z) v 0 (1114112 - 0 : Int).toNat = _
  rw [Int.zero_add]
  rfl

theorem outp_chk {V : Int → Int} {z b : Int} (hb : b ≤ 1114112) : ∀ {out : List Rg} {a last : Int}, OutP V z out a b → last < a → chkL out last = 0
  | [], a, last, h, hl => rfl
  | r :: out, a, last, h, hl => by
    have h1 := h.1
    unfold chkL
    rw [if_neg (by omega)]
    exact outp_chk hb h.2.2.2.2 (by omega)
theorem mrg_chk {l : List Rg} (z : Int) (hO : OkL l) (hl : l.length ≤ 4096) : chk (mrgF z l) = 0 := by
  unfold chk
  rw [if_neg (by have := mrg_len z l; omega)]
  exact outp_chk (by decide) (mrg_out z hO) (by decide)
theorem mrg_val {l : List Rg} (z : Int) (hO : OkL l) (hl : l.length ≤ 4096) (c : Int) : valR (mrgF z l) z c = valR l z c := by
  have hM := (chk_ok (mrg_chk z hO hl)).2
  have hP := mrg_out z hO
  by_cases h : ∃ i, i < (mrgF z l).length ∧ (rgAt (mrgF z l) i).lo ≤ c ∧ c ≤ (rgAt (mrgF z l) i).hi
  · obtain ⟨i, hi, h1, h2⟩ := h
    rw [valR_in hM hi h1 h2, (outp_in hP i hi).2.2.2 c h1 h2]
  · have hn : ∀ i, i < (mrgF z l).length → ¬ ((rgAt (mrgF z l) i).lo ≤ c ∧ c ≤ (rgAt (mrgF z l) i).hi) := fun i hi h1 => h ⟨i, hi, h1⟩
    rw [valR_out hn]
    by_cases h0 : 0 ≤ c ∧ c < 1114112
    · exact (outp_gap hP c h0.1 h0.2 hn).symm
    · exact (valR_out fun i hi => by have := hO.1 i hi; omega).symm

theorem p_rng {w : World} {g : Nat} {l M : List Rg} {z : Int} {fs : List Int} {bs : List (List Int)} (hT : TabR w g fs bs z true) (hB : Built l z fs bs) (hO : OkL l) (hM : mrgF z l = M) : Calls Try.prog 75 #[.pointer (some ⟨g, 0, none⟩)] w fun e w' => ∃ A, e = .returned (.slice A M.length M.length) ∧ Kd.C kR w' A M.length M ∧ Below w.heap.size w w' := by
  refine (p_ranges hT hB.1).mono fun e w' ⟨rs, A, he, hC, hs, hb⟩ => ?_
  have h1 := ranges_same hO (fun x h0 h1 => built_at hB x h0 h1) hs
  rw [h1, hM] at he hC
  exact ⟨A, he, hC, hb⟩

end Go.Proofs.Ytmkgihmchkphaaa.Stk
