/- A call done at both stacks: they do the same. -/
import Derived.Test.YtimkacnkmoofdaaStkL4
namespace Go.Proofs.Ytimkacnkmoofdaa.Stk
open Go.RowKit Go.Proofs.YtimkacnkmoofdaaW.PrintWords Go.Proofs.YtimkacnkmoofdaaW.PrintLast Go.Proofs.YtimkacnkmoofdaaW.PrintMore
attribute [local go_sem] max2_int min2_int max_two min_two max_three min_three max_four min_four   -- for this text's walks alone
set_option linter.unusedVariables false
set_option linter.unusedSimpArgs false
def DoPost (w : World) (base g gx : Nat) (a b c : Int) (l : List Ent) (e : Ending) (w' : World) : Prop := ∃ v vx, e = .returned (.bool true) ∧ StkP w' base g v a b c l ∧ StkX w' base gx vx a b c l ∧ Below base w w' ∧ ∀ (b_ : Nat) (t_ : TypeId) (cs_ : Array Value), w.heap[b_]? = some (.cells cs_ t_ (0, 0)) → t_ ≠ 52 → t_ ≠ 28 → t_ ≠ 45 → t_ ≠ 41 → w'.heap[b_]? = some (.cells cs_ t_ (0, 0))
theorem below_weaken0 {w w1 : World} {B : Nat} (hB : B ≤ w.heap.size) (h : Below w.heap.size w w1) : Below B w w1 := ⟨h.os, h.tape, h.output, h.size, fun k hk => h.block k (by omega)⟩
set_option maxHeartbeats 8000000 in
set_option maxRecDepth 100000 in
theorem do_push {w : World} {base g gx : Nat} {v vx : Value} {a b c : Int} {l : List Ent} (h : StkP w base g v a b c l) (hX : StkX w base gx vx a b c l) {a' b' c' : Int} {l' : List Ent} {r : Bool} (d1 d3 : Int) (d2 : Bool)
    (HP : ∀ (W : World) (v_ : Value), StkP W base g v_ a b c l → Calls Try.prog 30 #[.pointer (some ⟨g, 0, none⟩), .agg #[.int .i64 d1, .int .i64 d3, .bool d2]] W (Upd W base g v_ (.returned (.bool r)) a' b' c' l')) (HQ : ∀ (W : World) (v_ : Value), StkX W base gx v_ a b c l → Calls Try.prog 57 #[.pointer (some ⟨gx, 0, none⟩), .agg #[.int .i64 d1, .int .i64 d3, .bool d2]] W (UpdX W base gx v_ (.returned (.bool r)) a' b' c' l')) :
    Calls Try.prog 24 #[.pointer (some ⟨g, 0, none⟩), .pointer (some ⟨gx, 0, none⟩), .agg #[.int .i64 (0), .int .i64 d1, .bool d2, .int .i64 d3]] w (DoPost w base g gx a' b' c' l') := by
  have HS0 := Aside0.mk h
  have HX0 := Aside0.mk hX
  have HPA := Aside0.mk HP
  have HQA := Aside0.mk HQ
  have HSZ := Aside0.mk (show base ≤ w.heap.size by have := stk_lt h; have := h.2.2; omega)
  clear h hX HP HQ
  go_enter Try.func24, Try.ntmps24
  go_wp2_with (first | ((with_reducible refine gate_dst (N := 5) rfl ?_); refine box_event ?hg (N := 5) ?hd (cs := #[.int .i64 0, .int .i64 d1, .bool d2, .int .i64 d3]) (t := 26) ?hr ?_; (case hd => rfl); (case hg => rfl); (case hr => first | (go_simp; done) | (go_simp; rfl)); intro g5 hg w1 hbox hb; have BX := Aside0.mk hbox; have HB := Aside0.mk (show Below base w w1 from below_weaken0 HSZ.out hb); have HS := Aside0.mk (show StkP w1 base g v a b c l from stk_below HS0.out hb); have HX := Aside0.mk (show StkX w1 base gx vx a b c l from stk_below HX0.out hb); have HF := Aside0.mk (show ∀ (b_ : Nat) (t_ : TypeId) (cs_ : Array Value), w.heap[b_]? = some (.cells cs_ t_ (0, 0)) → w1.heap[b_]? = some (.cells cs_ t_ (0, 0)) from fun b_ t_ cs_ hb_ => blk_below hb_ hb); have hx0 := (blk_cell BX.out 0).trans rfl; have hx2 := (blk_cell BX.out 2).trans rfl; have hx3 := (blk_cell BX.out 3).trans rfl; clear hg hbox hb))
  clear hx0 hx2 hx3
  have BXD := Aside0.mk (blk_drew BX.out)
  have HSD := Aside0.mk (show StkP w1.drew base g v a b c l from stk_drew HS.out)
  have HXD := Aside0.mk (show StkX w1.drew base gx vx a b c l from stk_drew HX.out)
  have HBD := Aside0.mk (show Below base w w1.drew from HB.out.drew)
  have HFD := Aside0.mk (show ∀ (b_ : Nat) (t_ : TypeId) (cs_ : Array Value), w.heap[b_]? = some (.cells cs_ t_ (0, 0)) → w1.drew.heap[b_]? = some (.cells cs_ t_ (0, 0)) from HF.out)
  clear BX HS HX HB HF
  have BX := BXD
  have HS := HSD
  have HX := HXD
  have HB := HBD
  have HF := HFD
  clear HFD BXD HSD HXD HBD
  refine start_ (n := 20) (S := fun w' => w'.cell? ⟨g5, 0, none⟩ = some (.int .i64 0) ∧ w'.cell? ⟨g5, 1, none⟩ = some (.int .i64 d1) ∧ w'.cell? ⟨g5, 2, none⟩ = some (.bool d2) ∧ w'.cell? ⟨g5, 3, none⟩ = some (.int .i64 d3)) (ds := []) #[false, false, false, false, false, false, false, false, false, false, false, false, false, false, false, false, false, false, false, false] (by kernel_rfl) rfl rfl ⟨(blk_cell BX.out 0).trans rfl, (blk_cell BX.out 1).trans rfl, (blk_cell BX.out 2).trans rfl, (blk_cell BX.out 3).trans rfl⟩ (fun hHeld => ?_)
  generalize w1.drew = w2 at BX HS HX HB HF hHeld ⊢
  refine pure_ (i := 0) (N := some 15) (v := ?_) (a' := ?_) #[true, false, false, false, false, false, false, false, false, false, false, false, false, false, false, false, false, false, false, false] rfl rfl (by kernel_rfl) (fun _ _ _ h => h) (Or.inl ⟨by rfl, ?_⟩) ?_ ?_
  rotate_left
  · intro w'
    go_simp
    with_reducible rfl
  rotate_left
  · simp only [Act.put, List.setIfInBounds_toArray, List.set_cons_zero, List.set_cons_succ, i64_w, i32_w]
    rfl
  refine pure_ (i := 1) (N := some 16) (v := ?_) (a' := ?_) #[true, true, false, false, false, false, false, false, false, false, false, false, false, false, false, false, false, false, false, false] rfl rfl (by kernel_rfl) (fun _ _ _ h => h) (Or.inl ⟨by rfl, ?_⟩) ?_ ?_
  rotate_left
  · intro w'
    go_simp
    with_reducible rfl
  rotate_left
  · simp only [Act.put, List.setIfInBounds_toArray, List.set_cons_zero, List.set_cons_succ, i64_w, i32_w]
    rfl
  refine take_ (i := 2) (N := some 17) (v := ?_) (a' := ?_) #[true, true, true, false, false, false, false, false, false, false, false, false, false, false, false, false, false, false, false, false] rfl rfl (by kernel_rfl) (fun _ _ _ h => h) (Or.inl ⟨by rfl, ?_⟩) hHeld ?_ ?_
  rotate_left
  · rintro w' ⟨s0, s1, s2, s3⟩
    go_simp
    with_reducible rfl
  rotate_left
  · simp only [Act.put, List.setIfInBounds_toArray, List.set_cons_zero, List.set_cons_succ, i64_w, i32_w]
    rfl
  refine pure_ (i := 3) (N := some 18) (v := ?_) (a' := ?_) #[true, true, true, true, false, false, false, false, false, false, false, false, false, false, false, false, false, false, false, false] rfl rfl (by kernel_rfl) (fun _ _ _ h => h) (Or.inl ⟨by rfl, ?_⟩) ?_ ?_
  rotate_left
  · intro w'
    go_simp
    with_reducible rfl
  rotate_left
  · simp only [Act.put, List.setIfInBounds_toArray, List.set_cons_zero, List.set_cons_succ, i64_w, i32_w]
    rfl
  refine take_ (i := 4) (N := some 19) (v := ?_) (a' := ?_) #[true, true, true, true, true, false, false, false, false, false, false, false, false, false, false, false, false, false, false, false] rfl rfl (by kernel_rfl) (fun _ _ _ h => h) (Or.inl ⟨by rfl, ?_⟩) hHeld ?_ ?_
  rotate_left
  · rintro w' ⟨s0, s1, s2, s3⟩
    go_simp
    with_reducible rfl
  rotate_left
  · simp only [Act.put, List.setIfInBounds_toArray, List.set_cons_zero, List.set_cons_succ, i64_w, i32_w]
    rfl
  refine pure_ (i := 5) (N := some 20) (v := ?_) (a' := ?_) #[true, true, true, true, true, true, false, false, false, false, false, false, false, false, false, false, false, false, false, false] rfl rfl (by kernel_rfl) (fun _ _ _ h => h) (Or.inl ⟨by rfl, ?_⟩) ?_ ?_
  rotate_left
  · intro w'
    go_simp
    with_reducible rfl
  rotate_left
  · simp only [Act.put, List.setIfInBounds_toArray, List.set_cons_zero, List.set_cons_succ, i64_w, i32_w]
    rfl
  refine take_ (i := 6) (N := some 21) (v := ?_) (a' := ?_) #[true, true, true, true, true, true, true, false, false, false, false, false, false, false, false, false, false, false, false, false] rfl rfl (by kernel_rfl) (fun _ _ _ h => h) (Or.inl ⟨by rfl, ?_⟩) hHeld ?_ ?_
  rotate_left
  · rintro w' ⟨s0, s1, s2, s3⟩
    go_simp
    with_reducible rfl
  rotate_left
  · simp only [Act.put, List.setIfInBounds_toArray, List.set_cons_zero, List.set_cons_succ, i64_w, i32_w]
    rfl
  refine pure_ (i := 7) (N := some 22) (v := ?_) (a' := ?_) #[true, true, true, true, true, true, true, true, false, false, false, false, false, false, false, false, false, false, false, false] rfl rfl (by kernel_rfl) (fun _ _ _ h => h) (Or.inl ⟨by rfl, ?_⟩) ?_ ?_
  rotate_left
  · intro w'
    go_simp
    with_reducible rfl
  rotate_left
  · simp only [Act.put, List.setIfInBounds_toArray, List.set_cons_zero, List.set_cons_succ, i64_w, i32_w]
    rfl
  refine pure_ (i := 9) (N := some 24) (v := ?_) (a' := ?_) #[true, true, true, true, true, true, true, true, false, true, false, false, false, false, false, false, false, false, false, false] rfl rfl (by kernel_rfl) (fun _ _ _ h => h) (Or.inl ⟨by rfl, ?_⟩) ?_ ?_
  rotate_left
  · intro w'
    go_simp
    with_reducible rfl
  rotate_left
  · simp only [Act.put, List.setIfInBounds_toArray, List.set_cons_zero, List.set_cons_succ, i64_w, i32_w]
    rfl
  refine pure_ (i := 10) (N := some 25) (v := ?_) (a' := ?_) #[true, true, true, true, true, true, true, true, false, true, true, false, false, false, false, false, false, false, false, false] rfl rfl (by kernel_rfl) (fun _ _ _ h => h) (Or.inl ⟨by rfl, ?_⟩) ?_ ?_
  rotate_left
  · intro w'
    go_simp
    with_reducible rfl
  rotate_left
  · simp only [Act.put, List.setIfInBounds_toArray, List.set_cons_zero, List.set_cons_succ, i64_w, i32_w]
    rfl
  refine take_ (i := 11) (N := some 26) (v := ?_) (a' := ?_) #[true, true, true, true, true, true, true, true, false, true, true, true, false, false, false, false, false, false, false, false] rfl rfl (by kernel_rfl) (fun _ _ _ h => h) (Or.inl ⟨by rfl, ?_⟩) hHeld ?_ ?_
  rotate_left
  · rintro w' ⟨s0, s1, s2, s3⟩
    go_simp
    with_reducible rfl
  rotate_left
  · simp only [Act.put, List.setIfInBounds_toArray, List.set_cons_zero, List.set_cons_succ, i64_w, i32_w]
    rfl
  refine pure_ (i := 12) (N := some 27) (v := ?_) (a' := ?_) #[true, true, true, true, true, true, true, true, false, true, true, true, true, false, false, false, false, false, false, false] rfl rfl (by kernel_rfl) (fun _ _ _ h => h) (Or.inl ⟨by rfl, ?_⟩) ?_ ?_
  rotate_left
  · intro w'
    go_simp
    with_reducible rfl
  rotate_left
  · simp only [Act.put, List.setIfInBounds_toArray, List.set_cons_zero, List.set_cons_succ, i64_w, i32_w]
    rfl
  refine take_ (i := 13) (N := some 28) (v := ?_) (a' := ?_) #[true, true, true, true, true, true, true, true, false, true, true, true, true, true, false, false, false, false, false, false] rfl rfl (by kernel_rfl) (fun _ _ _ h => h) (Or.inl ⟨by rfl, ?_⟩) hHeld ?_ ?_
  rotate_left
  · rintro w' ⟨s0, s1, s2, s3⟩
    go_simp
    with_reducible rfl
  rotate_left
  · simp only [Act.put, List.setIfInBounds_toArray, List.set_cons_zero, List.set_cons_succ, i64_w, i32_w]
    rfl
  refine pure_ (i := 14) (N := some 29) (v := ?_) (a' := ?_) #[true, true, true, true, true, true, true, true, false, true, true, true, true, true, true, false, false, false, false, false] rfl rfl (by kernel_rfl) (fun _ _ _ h => h) (Or.inl ⟨by rfl, ?_⟩) ?_ ?_
  rotate_left
  · intro w'
    go_simp
    with_reducible rfl
  rotate_left
  · simp only [Act.put, List.setIfInBounds_toArray, List.set_cons_zero, List.set_cons_succ, i64_w, i32_w]
    rfl
  refine take_ (i := 15) (N := some 30) (v := ?_) (a' := ?_) #[true, true, true, true, true, true, true, true, false, true, true, true, true, true, true, true, false, false, false, false] rfl rfl (by kernel_rfl) (fun _ _ _ h => h) (Or.inl ⟨by rfl, ?_⟩) hHeld ?_ ?_
  rotate_left
  · rintro w' ⟨s0, s1, s2, s3⟩
    go_simp
    with_reducible rfl
  rotate_left
  · simp only [Act.put, List.setIfInBounds_toArray, List.set_cons_zero, List.set_cons_succ, i64_w, i32_w]
    rfl
  refine pure_ (i := 16) (N := some 31) (v := ?_) (a' := ?_) #[true, true, true, true, true, true, true, true, false, true, true, true, true, true, true, true, true, false, false, false] rfl rfl (by kernel_rfl) (fun _ _ _ h => h) (Or.inl ⟨by rfl, ?_⟩) ?_ ?_
  rotate_left
  · intro w'
    go_simp
    with_reducible rfl
  rotate_left
  · simp only [Act.put, List.setIfInBounds_toArray, List.set_cons_zero, List.set_cons_succ, i64_w, i32_w]
    rfl
  refine one_ (i := 8) (N := some 23) #[true, true, true, true, true, true, true, true, true, true, true, true, true, true, true, true, true, false, false, false] rfl rfl (by kernel_rfl) (by decide) (fun K hK => ?_)
  refine (goes_ Try.func30 (by kernel_rfl) rfl #[.pointer (some ⟨g, 0, none⟩), .agg #[.int .i64 d1, .int .i64 d3, .bool d2]] (by rfl) rfl rfl (by (try simp only [List.map_toArray, List.map_cons, List.map_nil]); first | done | rfl) ?_)
  (with_reducible refine (HPA.out _ _ HS.out).mono ?_)
  rintro e w5 ⟨v5, rfl, hS, hM⟩
  refine ⟨_, rfl, ?_⟩
  have HS5 := Aside0.mk (show StkP w5 base g v5 a' b' c' l' from hS)
  have HX5 := Aside0.mk (show StkX w5 base gx vx a b c l from stk_other HX.out HS.out hM (by decide) (by decide) (by decide) (by decide))
  have BX5 := Aside0.mk (hM.blk HS.out BX.out (by decide) (by decide))
  have HB5 := Aside0.mk (HB.out.trans (hM.below HS.out))
  have HF5 := Aside0.mk (fun (b_ : Nat) (t_ : TypeId) (cs_ : Array Value) hb_ (n1 : t_ ≠ 52) (n2 : t_ ≠ 28) => hM.blk HS.out (HF.out b_ t_ cs_ hb_) n1 n2)
  clear hS hM
  refine hK.out _ _ ⟨(blk_cell BX5.out 0).trans rfl, (blk_cell BX5.out 1).trans rfl, (blk_cell BX5.out 2).trans rfl, (blk_cell BX5.out 3).trans rfl⟩ (fun hHeld => ?_)
  clear hK K
  refine norm_ (a' := ?_) ?_ ?_
  rotate_left
  · show Act.put _ (some 23) _ = _
    simp only [Act.put, List.setIfInBounds_toArray, List.set_cons_zero, List.set_cons_succ, i64_w, i32_w]
    rfl
  refine one_ (i := 17) (N := some 32) #[true, true, true, true, true, true, true, true, true, true, true, true, true, true, true, true, true, true, false, false] rfl rfl (by kernel_rfl) (by decide) (fun K hK => ?_)
  refine (goes_ Try.func57 (by kernel_rfl) rfl #[.pointer (some ⟨gx, 0, none⟩), .agg #[.int .i64 d1, .int .i64 d3, .bool d2]] (by rfl) rfl rfl (by (try simp only [List.map_toArray, List.map_cons, List.map_nil]); first | done | rfl) ?_)
  (with_reducible refine (HQA.out _ _ HX5.out).mono ?_)
  rintro e w6 ⟨v6, rfl, hS, hM⟩
  refine ⟨_, rfl, ?_⟩
  have HX6 := Aside0.mk (show StkX w6 base gx v6 a' b' c' l' from hS)
  have HS6 := Aside0.mk (show StkP w6 base g v5 a' b' c' l' from stk_other HS5.out HX5.out hM (by decide) (by decide) (by decide) (by decide))
  have BX6 := Aside0.mk (hM.blk HX5.out BX5.out (by decide) (by decide))
  have HB6 := Aside0.mk (HB5.out.trans (hM.below HX5.out))
  have HF6 := Aside0.mk (fun (b_ : Nat) (t_ : TypeId) (cs_ : Array Value) hb_ (n1 : t_ ≠ 52) (n2 : t_ ≠ 28) (n3 : t_ ≠ 45) (n4 : t_ ≠ 41) => hM.blk HX5.out (HF5.out b_ t_ cs_ hb_ n1 n2) n3 n4)
  clear hS hM
  refine hK.out _ _ ⟨(blk_cell BX6.out 0).trans rfl, (blk_cell BX6.out 1).trans rfl, (blk_cell BX6.out 2).trans rfl, (blk_cell BX6.out 3).trans rfl⟩ (fun hHeld => ?_)
  clear hK K
  refine norm_ (a' := ?_) ?_ ?_
  rotate_left
  · show Act.put _ (some 32) _ = _
    simp only [Act.put, List.setIfInBounds_toArray, List.set_cons_zero, List.set_cons_succ, i64_w, i32_w]
    rfl
  refine pure_ (i := 18) (N := some 33) (v := .bool true) (a' := ?_) #[true, true, true, true, true, true, true, true, true, true, true, true, true, true, true, true, true, true, true, false] rfl rfl (by kernel_rfl) (fun _ _ _ h => h) (Or.inl ⟨by rfl, ?_⟩) ?_ ?_
  · intro w'
    go_simp
    first | done | with_reducible rfl | rfl | (simp; done)
  rotate_left
  · simp only [Act.put, List.setIfInBounds_toArray, List.set_cons_zero, List.set_cons_succ, i64_w, i32_w]
    rfl
  refine pure_ (i := 19) (N := some 6) (v := ?_) (a' := ?_) #[true, true, true, true, true, true, true, true, true, true, true, true, true, true, true, true, true, true, true, true] rfl rfl (by kernel_rfl) (fun _ _ _ h => h) (Or.inl ⟨by rfl, ?_⟩) ?_ ?_
  rotate_left
  · intro w'
    go_simp
    with_reducible rfl
  rotate_left
  · simp only [Act.put, List.setIfInBounds_toArray, List.set_cons_zero, List.set_cons_succ, i64_w, i32_w]
    rfl
  refine done_ (by kernel_rfl) ?_
  go_wp2
  go_ret
  unfold DoPost
  exact ⟨v5, v6, by first | rfl | simp [*], HS6.out, HX6.out, HB6.out, HF6.out⟩
set_option maxHeartbeats 8000000 in
set_option maxRecDepth 100000 in
theorem do_embed2 {w : World} {base g gx : Nat} {v vx : Value} {a b c : Int} {l : List Ent} (h : StkP w base g v a b c l) (hX : StkX w base gx vx a b c l) {a' b' c' : Int} {l' : List Ent} {r : Bool} (d1 d3 : Int) (d2 : Bool)
    (HP : ∀ (W : World) (v_ : Value), StkP W base g v_ a b c l → Calls Try.prog 18 #[.pointer (some ⟨g, 0, none⟩), .bool d2, .int .i64 d3] W (Upd W base g v_ (.returned (.bool r)) a' b' c' l')) (HQ : ∀ (W : World) (v_ : Value), StkX W base gx v_ a b c l → Calls Try.prog 59 #[.pointer (some ⟨gx, 0, none⟩), .bool d2, .int .i64 d3] W (UpdX W base gx v_ (.returned (.bool r)) a' b' c' l')) :
    Calls Try.prog 24 #[.pointer (some ⟨g, 0, none⟩), .pointer (some ⟨gx, 0, none⟩), .agg #[.int .i64 (2), .int .i64 d1, .bool d2, .int .i64 d3]] w (DoPost w base g gx a' b' c' l') := by
  have HS0 := Aside0.mk h
  have HX0 := Aside0.mk hX
  have HPA := Aside0.mk HP
  have HQA := Aside0.mk HQ
  have HSZ := Aside0.mk (show base ≤ w.heap.size by have := stk_lt h; have := h.2.2; omega)
  clear h hX HP HQ
  go_enter Try.func24, Try.ntmps24
  go_wp2_with (first | ((with_reducible refine gate_dst (N := 5) rfl ?_); refine box_event ?hg (N := 5) ?hd (cs := #[.int .i64 2, .int .i64 d1, .bool d2, .int .i64 d3]) (t := 26) ?hr ?_; (case hd => rfl); (case hg => rfl); (case hr => first | (go_simp; done) | (go_simp; rfl)); intro g5 hg w1 hbox hb; have BX := Aside0.mk hbox; have HB := Aside0.mk (show Below base w w1 from below_weaken0 HSZ.out hb); have HS := Aside0.mk (show StkP w1 base g v a b c l from stk_below HS0.out hb); have HX := Aside0.mk (show StkX w1 base gx vx a b c l from stk_below HX0.out hb); have HF := Aside0.mk (show ∀ (b_ : Nat) (t_ : TypeId) (cs_ : Array Value), w.heap[b_]? = some (.cells cs_ t_ (0, 0)) → w1.heap[b_]? = some (.cells cs_ t_ (0, 0)) from fun b_ t_ cs_ hb_ => blk_below hb_ hb); have hx0 := (blk_cell BX.out 0).trans rfl; have hx2 := (blk_cell BX.out 2).trans rfl; have hx3 := (blk_cell BX.out 3).trans rfl; clear hg hbox hb))
  clear hx0 hx2 hx3
  have BXD := Aside0.mk (blk_drew BX.out)
  have HSD := Aside0.mk (show StkP w1.drew base g v a b c l from stk_drew HS.out)
  have HXD := Aside0.mk (show StkX w1.drew base gx vx a b c l from stk_drew HX.out)
  have HBD := Aside0.mk (show Below base w w1.drew from HB.out.drew)
  have HFD := Aside0.mk (show ∀ (b_ : Nat) (t_ : TypeId) (cs_ : Array Value), w.heap[b_]? = some (.cells cs_ t_ (0, 0)) → w1.drew.heap[b_]? = some (.cells cs_ t_ (0, 0)) from HF.out)
  clear BX HS HX HB HF
  have BX := BXD
  have HS := HSD
  have HX := HXD
  have HB := HBD
  have HF := HFD
  clear HFD BXD HSD HXD HBD
  refine start_ (n := 14) (S := fun w' => w'.cell? ⟨g5, 0, none⟩ = some (.int .i64 2) ∧ w'.cell? ⟨g5, 1, none⟩ = some (.int .i64 d1) ∧ w'.cell? ⟨g5, 2, none⟩ = some (.bool d2) ∧ w'.cell? ⟨g5, 3, none⟩ = some (.int .i64 d3)) (ds := []) #[false, false, false, false, false, false, false, false, false, false, false, false, false, false] (by kernel_rfl) rfl rfl ⟨(blk_cell BX.out 0).trans rfl, (blk_cell BX.out 1).trans rfl, (blk_cell BX.out 2).trans rfl, (blk_cell BX.out 3).trans rfl⟩ (fun hHeld => ?_)
  generalize w1.drew = w2 at BX HS HX HB HF hHeld ⊢
  refine pure_ (i := 0) (N := some 45) (v := ?_) (a' := ?_) #[true, false, false, false, false, false, false, false, false, false, false, false, false, false] rfl rfl (by kernel_rfl) (fun _ _ _ h => h) (Or.inl ⟨by rfl, ?_⟩) ?_ ?_
  rotate_left
  · intro w'
    go_simp
    with_reducible rfl
  rotate_left
  · simp only [Act.put, List.setIfInBounds_toArray, List.set_cons_zero, List.set_cons_succ, i64_w, i32_w]
    rfl
  refine pure_ (i := 1) (N := some 46) (v := ?_) (a' := ?_) #[true, true, false, false, false, false, false, false, false, false, false, false, false, false] rfl rfl (by kernel_rfl) (fun _ _ _ h => h) (Or.inl ⟨by rfl, ?_⟩) ?_ ?_
  rotate_left
  · intro w'
    go_simp
    with_reducible rfl
  rotate_left
  · simp only [Act.put, List.setIfInBounds_toArray, List.set_cons_zero, List.set_cons_succ, i64_w, i32_w]
    rfl
  refine take_ (i := 2) (N := some 47) (v := ?_) (a' := ?_) #[true, true, true, false, false, false, false, false, false, false, false, false, false, false] rfl rfl (by kernel_rfl) (fun _ _ _ h => h) (Or.inl ⟨by rfl, ?_⟩) hHeld ?_ ?_
  rotate_left
  · rintro w' ⟨s0, s1, s2, s3⟩
    go_simp
    with_reducible rfl
  rotate_left
  · simp only [Act.put, List.setIfInBounds_toArray, List.set_cons_zero, List.set_cons_succ, i64_w, i32_w]
    rfl
  refine pure_ (i := 3) (N := some 48) (v := ?_) (a' := ?_) #[true, true, true, true, false, false, false, false, false, false, false, false, false, false] rfl rfl (by kernel_rfl) (fun _ _ _ h => h) (Or.inl ⟨by rfl, ?_⟩) ?_ ?_
  rotate_left
  · intro w'
    go_simp
    with_reducible rfl
  rotate_left
  · simp only [Act.put, List.setIfInBounds_toArray, List.set_cons_zero, List.set_cons_succ, i64_w, i32_w]
    rfl
  refine take_ (i := 4) (N := some 49) (v := ?_) (a' := ?_) #[true, true, true, true, true, false, false, false, false, false, false, false, false, false] rfl rfl (by kernel_rfl) (fun _ _ _ h => h) (Or.inl ⟨by rfl, ?_⟩) hHeld ?_ ?_
  rotate_left
  · rintro w' ⟨s0, s1, s2, s3⟩
    go_simp
    with_reducible rfl
  rotate_left
  · simp only [Act.put, List.setIfInBounds_toArray, List.set_cons_zero, List.set_cons_succ, i64_w, i32_w]
    rfl
  refine pure_ (i := 6) (N := some 51) (v := ?_) (a' := ?_) #[true, true, true, true, true, false, true, false, false, false, false, false, false, false] rfl rfl (by kernel_rfl) (fun _ _ _ h => h) (Or.inl ⟨by rfl, ?_⟩) ?_ ?_
  rotate_left
  · intro w'
    go_simp
    with_reducible rfl
  rotate_left
  · simp only [Act.put, List.setIfInBounds_toArray, List.set_cons_zero, List.set_cons_succ, i64_w, i32_w]
    rfl
  refine pure_ (i := 7) (N := some 52) (v := ?_) (a' := ?_) #[true, true, true, true, true, false, true, true, false, false, false, false, false, false] rfl rfl (by kernel_rfl) (fun _ _ _ h => h) (Or.inl ⟨by rfl, ?_⟩) ?_ ?_
  rotate_left
  · intro w'
    go_simp
    with_reducible rfl
  rotate_left
  · simp only [Act.put, List.setIfInBounds_toArray, List.set_cons_zero, List.set_cons_succ, i64_w, i32_w]
    rfl
  refine take_ (i := 8) (N := some 53) (v := ?_) (a' := ?_) #[true, true, true, true, true, false, true, true, true, false, false, false, false, false] rfl rfl (by kernel_rfl) (fun _ _ _ h => h) (Or.inl ⟨by rfl, ?_⟩) hHeld ?_ ?_
  rotate_left
  · rintro w' ⟨s0, s1, s2, s3⟩
    go_simp
    with_reducible rfl
  rotate_left
  · simp only [Act.put, List.setIfInBounds_toArray, List.set_cons_zero, List.set_cons_succ, i64_w, i32_w]
    rfl
  refine pure_ (i := 9) (N := some 54) (v := ?_) (a' := ?_) #[true, true, true, true, true, false, true, true, true, true, false, false, false, false] rfl rfl (by kernel_rfl) (fun _ _ _ h => h) (Or.inl ⟨by rfl, ?_⟩) ?_ ?_
  rotate_left
  · intro w'
    go_simp
    with_reducible rfl
  rotate_left
  · simp only [Act.put, List.setIfInBounds_toArray, List.set_cons_zero, List.set_cons_succ, i64_w, i32_w]
    rfl
  refine take_ (i := 10) (N := some 55) (v := ?_) (a' := ?_) #[true, true, true, true, true, false, true, true, true, true, true, false, false, false] rfl rfl (by kernel_rfl) (fun _ _ _ h => h) (Or.inl ⟨by rfl, ?_⟩) hHeld ?_ ?_
  rotate_left
  · rintro w' ⟨s0, s1, s2, s3⟩
    go_simp
    with_reducible rfl
  rotate_left
  · simp only [Act.put, List.setIfInBounds_toArray, List.set_cons_zero, List.set_cons_succ, i64_w, i32_w]
    rfl
  refine one_ (i := 5) (N := some 50) #[true, true, true, true, true, true, true, true, true, true, true, false, false, false] rfl rfl (by kernel_rfl) (by decide) (fun K hK => ?_)
  refine (goes_ Try.func18 (by kernel_rfl) rfl #[.pointer (some ⟨g, 0, none⟩), .bool d2, .int .i64 d3] (by rfl) rfl rfl (by (try simp only [List.map_toArray, List.map_cons, List.map_nil]); first | done | rfl) ?_)
  (with_reducible refine (HPA.out _ _ HS.out).mono ?_)
  rintro e w5 ⟨v5, rfl, hS, hM⟩
  refine ⟨_, rfl, ?_⟩
  have HS5 := Aside0.mk (show StkP w5 base g v5 a' b' c' l' from hS)
  have HX5 := Aside0.mk (show StkX w5 base gx vx a b c l from stk_other HX.out HS.out hM (by decide) (by decide) (by decide) (by decide))
  have BX5 := Aside0.mk (hM.blk HS.out BX.out (by decide) (by decide))
  have HB5 := Aside0.mk (HB.out.trans (hM.below HS.out))
  have HF5 := Aside0.mk (fun (b_ : Nat) (t_ : TypeId) (cs_ : Array Value) hb_ (n1 : t_ ≠ 52) (n2 : t_ ≠ 28) => hM.blk HS.out (HF.out b_ t_ cs_ hb_) n1 n2)
  clear hS hM
  refine hK.out _ _ ⟨(blk_cell BX5.out 0).trans rfl, (blk_cell BX5.out 1).trans rfl, (blk_cell BX5.out 2).trans rfl, (blk_cell BX5.out 3).trans rfl⟩ (fun hHeld => ?_)
  clear hK K
  refine norm_ (a' := ?_) ?_ ?_
  rotate_left
  · show Act.put _ (some 50) _ = _
    simp only [Act.put, List.setIfInBounds_toArray, List.set_cons_zero, List.set_cons_succ, i64_w, i32_w]
    rfl
  refine one_ (i := 11) (N := some 56) #[true, true, true, true, true, true, true, true, true, true, true, true, false, false] rfl rfl (by kernel_rfl) (by decide) (fun K hK => ?_)
  refine (goes_ Try.func59 (by kernel_rfl) rfl #[.pointer (some ⟨gx, 0, none⟩), .bool d2, .int .i64 d3] (by rfl) rfl rfl (by (try simp only [List.map_toArray, List.map_cons, List.map_nil]); first | done | rfl) ?_)
  (with_reducible refine (HQA.out _ _ HX5.out).mono ?_)
  rintro e w6 ⟨v6, rfl, hS, hM⟩
  refine ⟨_, rfl, ?_⟩
  have HX6 := Aside0.mk (show StkX w6 base gx v6 a' b' c' l' from hS)
  have HS6 := Aside0.mk (show StkP w6 base g v5 a' b' c' l' from stk_other HS5.out HX5.out hM (by decide) (by decide) (by decide) (by decide))
  have BX6 := Aside0.mk (hM.blk HX5.out BX5.out (by decide) (by decide))
  have HB6 := Aside0.mk (HB5.out.trans (hM.below HX5.out))
  have HF6 := Aside0.mk (fun (b_ : Nat) (t_ : TypeId) (cs_ : Array Value) hb_ (n1 : t_ ≠ 52) (n2 : t_ ≠ 28) (n3 : t_ ≠ 45) (n4 : t_ ≠ 41) => hM.blk HX5.out (HF5.out b_ t_ cs_ hb_ n1 n2) n3 n4)
  clear hS hM
  refine hK.out _ _ ⟨(blk_cell BX6.out 0).trans rfl, (blk_cell BX6.out 1).trans rfl, (blk_cell BX6.out 2).trans rfl, (blk_cell BX6.out 3).trans rfl⟩ (fun hHeld => ?_)
  clear hK K
  refine norm_ (a' := ?_) ?_ ?_
  rotate_left
  · show Act.put _ (some 56) _ = _
    simp only [Act.put, List.setIfInBounds_toArray, List.set_cons_zero, List.set_cons_succ, i64_w, i32_w]
    rfl
  refine pure_ (i := 12) (N := some 57) (v := .bool true) (a' := ?_) #[true, true, true, true, true, true, true, true, true, true, true, true, true, false] rfl rfl (by kernel_rfl) (fun _ _ _ h => h) (Or.inl ⟨by rfl, ?_⟩) ?_ ?_
  · intro w'
    go_simp
    first | done | with_reducible rfl | rfl | (simp; done)
  rotate_left
  · simp only [Act.put, List.setIfInBounds_toArray, List.set_cons_zero, List.set_cons_succ, i64_w, i32_w]
    rfl
  refine pure_ (i := 13) (N := some 6) (v := ?_) (a' := ?_) #[true, true, true, true, true, true, true, true, true, true, true, true, true, true] rfl rfl (by kernel_rfl) (fun _ _ _ h => h) (Or.inl ⟨by rfl, ?_⟩) ?_ ?_
  rotate_left
  · intro w'
    go_simp
    with_reducible rfl
  rotate_left
  · simp only [Act.put, List.setIfInBounds_toArray, List.set_cons_zero, List.set_cons_succ, i64_w, i32_w]
    rfl
  refine done_ (by kernel_rfl) ?_
  go_wp2
  go_ret
  unfold DoPost
  exact ⟨v5, v6, by first | rfl | simp [*], HS6.out, HX6.out, HB6.out, HF6.out⟩
set_option maxHeartbeats 8000000 in
set_option maxRecDepth 100000 in
theorem do_embed3 {w : World} {base g gx : Nat} {v vx : Value} {a b c : Int} {l : List Ent} (h : StkP w base g v a b c l) (hX : StkX w base gx vx a b c l) {a' b' c' : Int} {l' : List Ent} {r : Bool} (d1 d3 : Int) (d2 : Bool)
    (HP : ∀ (W : World) (v_ : Value), StkP W base g v_ a b c l → Calls Try.prog 18 #[.pointer (some ⟨g, 0, none⟩), .bool d2, .int .i64 d3] W (Upd W base g v_ (.returned (.bool r)) a' b' c' l')) (HQ : ∀ (W : World) (v_ : Value), StkX W base gx v_ a b c l → Calls Try.prog 59 #[.pointer (some ⟨gx, 0, none⟩), .bool d2, .int .i64 d3] W (UpdX W base gx v_ (.returned (.bool r)) a' b' c' l')) :
    Calls Try.prog 24 #[.pointer (some ⟨g, 0, none⟩), .pointer (some ⟨gx, 0, none⟩), .agg #[.int .i64 (3), .int .i64 d1, .bool d2, .int .i64 d3]] w (DoPost w base g gx a' b' c' l') := by
  have HS0 := Aside0.mk h
  have HX0 := Aside0.mk hX
  have HPA := Aside0.mk HP
  have HQA := Aside0.mk HQ
  have HSZ := Aside0.mk (show base ≤ w.heap.size by have := stk_lt h; have := h.2.2; omega)
  clear h hX HP HQ
  go_enter Try.func24, Try.ntmps24
  go_wp2_with (first | ((with_reducible refine gate_dst (N := 5) rfl ?_); refine box_event ?hg (N := 5) ?hd (cs := #[.int .i64 3, .int .i64 d1, .bool d2, .int .i64 d3]) (t := 26) ?hr ?_; (case hd => rfl); (case hg => rfl); (case hr => first | (go_simp; done) | (go_simp; rfl)); intro g5 hg w1 hbox hb; have BX := Aside0.mk hbox; have HB := Aside0.mk (show Below base w w1 from below_weaken0 HSZ.out hb); have HS := Aside0.mk (show StkP w1 base g v a b c l from stk_below HS0.out hb); have HX := Aside0.mk (show StkX w1 base gx vx a b c l from stk_below HX0.out hb); have HF := Aside0.mk (show ∀ (b_ : Nat) (t_ : TypeId) (cs_ : Array Value), w.heap[b_]? = some (.cells cs_ t_ (0, 0)) → w1.heap[b_]? = some (.cells cs_ t_ (0, 0)) from fun b_ t_ cs_ hb_ => blk_below hb_ hb); have hx0 := (blk_cell BX.out 0).trans rfl; have hx2 := (blk_cell BX.out 2).trans rfl; have hx3 := (blk_cell BX.out 3).trans rfl; clear hg hbox hb))
  clear hx0 hx2 hx3
  have BXD := Aside0.mk (blk_drew BX.out)
  have HSD := Aside0.mk (show StkP w1.drew base g v a b c l from stk_drew HS.out)
  have HXD := Aside0.mk (show StkX w1.drew base gx vx a b c l from stk_drew HX.out)
  have HBD := Aside0.mk (show Below base w w1.drew from HB.out.drew)
  have HFD := Aside0.mk (show ∀ (b_ : Nat) (t_ : TypeId) (cs_ : Array Value), w.heap[b_]? = some (.cells cs_ t_ (0, 0)) → w1.drew.heap[b_]? = some (.cells cs_ t_ (0, 0)) from HF.out)
  clear BX HS HX HB HF
  have BX := BXD
  have HS := HSD
  have HX := HXD
  have HB := HBD
  have HF := HFD
  clear HFD BXD HSD HXD HBD
  refine start_ (n := 14) (S := fun w' => w'.cell? ⟨g5, 0, none⟩ = some (.int .i64 3) ∧ w'.cell? ⟨g5, 1, none⟩ = some (.int .i64 d1) ∧ w'.cell? ⟨g5, 2, none⟩ = some (.bool d2) ∧ w'.cell? ⟨g5, 3, none⟩ = some (.int .i64 d3)) (ds := []) #[false, false, false, false, false, false, false, false, false, false, false, false, false, false] (by kernel_rfl) rfl rfl ⟨(blk_cell BX.out 0).trans rfl, (blk_cell BX.out 1).trans rfl, (blk_cell BX.out 2).trans rfl, (blk_cell BX.out 3).trans rfl⟩ (fun hHeld => ?_)
  generalize w1.drew = w2 at BX HS HX HB HF hHeld ⊢
  refine pure_ (i := 0) (N := some 45) (v := ?_) (a' := ?_) #[true, false, false, false, false, false, false, false, false, false, false, false, false, false] rfl rfl (by kernel_rfl) (fun _ _ _ h => h) (Or.inl ⟨by rfl, ?_⟩) ?_ ?_
  rotate_left
  · intro w'
    go_simp
    with_reducible rfl
  rotate_left
  · simp only [Act.put, List.setIfInBounds_toArray, List.set_cons_zero, List.set_cons_succ, i64_w, i32_w]
    rfl
  refine pure_ (i := 1) (N := some 46) (v := ?_) (a' := ?_) #[true, true, false, false, false, false, false, false, false, false, false, false, false, false] rfl rfl (by kernel_rfl) (fun _ _ _ h => h) (Or.inl ⟨by rfl, ?_⟩) ?_ ?_
  rotate_left
  · intro w'
    go_simp
    with_reducible rfl
  rotate_left
  · simp only [Act.put, List.setIfInBounds_toArray, List.set_cons_zero, List.set_cons_succ, i64_w, i32_w]
    rfl
  refine take_ (i := 2) (N := some 47) (v := ?_) (a' := ?_) #[true, true, true, false, false, false, false, false, false, false, false, false, false, false] rfl rfl (by kernel_rfl) (fun _ _ _ h => h) (Or.inl ⟨by rfl, ?_⟩) hHeld ?_ ?_
  rotate_left
  · rintro w' ⟨s0, s1, s2, s3⟩
    go_simp
    with_reducible rfl
  rotate_left
  · simp only [Act.put, List.setIfInBounds_toArray, List.set_cons_zero, List.set_cons_succ, i64_w, i32_w]
    rfl
  refine pure_ (i := 3) (N := some 48) (v := ?_) (a' := ?_) #[true, true, true, true, false, false, false, false, false, false, false, false, false, false] rfl rfl (by kernel_rfl) (fun _ _ _ h => h) (Or.inl ⟨by rfl, ?_⟩) ?_ ?_
  rotate_left
  · intro w'
    go_simp
    with_reducible rfl
  rotate_left
  · simp only [Act.put, List.setIfInBounds_toArray, List.set_cons_zero, List.set_cons_succ, i64_w, i32_w]
    rfl
  refine take_ (i := 4) (N := some 49) (v := ?_) (a' := ?_) #[true, true, true, true, true, false, false, false, false, false, false, false, false, false] rfl rfl (by kernel_rfl) (fun _ _ _ h => h) (Or.inl ⟨by rfl, ?_⟩) hHeld ?_ ?_
  rotate_left
  · rintro w' ⟨s0, s1, s2, s3⟩
    go_simp
    with_reducible rfl
  rotate_left
  · simp only [Act.put, List.setIfInBounds_toArray, List.set_cons_zero, List.set_cons_succ, i64_w, i32_w]
    rfl
  refine pure_ (i := 6) (N := some 51) (v := ?_) (a' := ?_) #[true, true, true, true, true, false, true, false, false, false, false, false, false, false] rfl rfl (by kernel_rfl) (fun _ _ _ h => h) (Or.inl ⟨by rfl, ?_⟩) ?_ ?_
  rotate_left
  · intro w'
    go_simp
    with_reducible rfl
  rotate_left
  · simp only [Act.put, List.setIfInBounds_toArray, List.set_cons_zero, List.set_cons_succ, i64_w, i32_w]
    rfl
  refine pure_ (i := 7) (N := some 52) (v := ?_) (a' := ?_) #[true, true, true, true, true, false, true, true, false, false, false, false, false, false] rfl rfl (by kernel_rfl) (fun _ _ _ h => h) (Or.inl ⟨by rfl, ?_⟩) ?_ ?_
  rotate_left
  · intro w'
    go_simp
    with_reducible rfl
  rotate_left
  · simp only [Act.put, List.setIfInBounds_toArray, List.set_cons_zero, List.set_cons_succ, i64_w, i32_w]
    rfl
  refine take_ (i := 8) (N := some 53) (v := ?_) (a' := ?_) #[true, true, true, true, true, false, true, true, true, false, false, false, false, false] rfl rfl (by kernel_rfl) (fun _ _ _ h => h) (Or.inl ⟨by rfl, ?_⟩) hHeld ?_ ?_
  rotate_left
  · rintro w' ⟨s0, s1, s2, s3⟩
    go_simp
    with_reducible rfl
  rotate_left
  · simp only [Act.put, List.setIfInBounds_toArray, List.set_cons_zero, List.set_cons_succ, i64_w, i32_w]
    rfl
  refine pure_ (i := 9) (N := some 54) (v := ?_) (a' := ?_) #[true, true, true, true, true, false, true, true, true, true, false, false, false, false] rfl rfl (by kernel_rfl) (fun _ _ _ h => h) (Or.inl ⟨by rfl, ?_⟩) ?_ ?_
  rotate_left
  · intro w'
    go_simp
    with_reducible rfl
  rotate_left
  · simp only [Act.put, List.setIfInBounds_toArray, List.set_cons_zero, List.set_cons_succ, i64_w, i32_w]
    rfl
  refine take_ (i := 10) (N := some 55) (v := ?_) (a' := ?_) #[true, true, true, true, true, false, true, true, true, true, true, false, false, false] rfl rfl (by kernel_rfl) (fun _ _ _ h => h) (Or.inl ⟨by rfl, ?_⟩) hHeld ?_ ?_
  rotate_left
  · rintro w' ⟨s0, s1, s2, s3⟩
    go_simp
    with_reducible rfl
  rotate_left
  · simp only [Act.put, List.setIfInBounds_toArray, List.set_cons_zero, List.set_cons_succ, i64_w, i32_w]
    rfl
  refine one_ (i := 5) (N := some 50) #[true, true, true, true, true, true, true, true, true, true, true, false, false, false] rfl rfl (by kernel_rfl) (by decide) (fun K hK => ?_)
  refine (goes_ Try.func18 (by kernel_rfl) rfl #[.pointer (some ⟨g, 0, none⟩), .bool d2, .int .i64 d3] (by rfl) rfl rfl (by (try simp only [List.map_toArray, List.map_cons, List.map_nil]); first | done | rfl) ?_)
  (with_reducible refine (HPA.out _ _ HS.out).mono ?_)
  rintro e w5 ⟨v5, rfl, hS, hM⟩
  refine ⟨_, rfl, ?_⟩
  have HS5 := Aside0.mk (show StkP w5 base g v5 a' b' c' l' from hS)
  have HX5 := Aside0.mk (show StkX w5 base gx vx a b c l from stk_other HX.out HS.out hM (by decide) (by decide) (by decide) (by decide))
  have BX5 := Aside0.mk (hM.blk HS.out BX.out (by decide) (by decide))
  have HB5 := Aside0.mk (HB.out.trans (hM.below HS.out))
  have HF5 := Aside0.mk (fun (b_ : Nat) (t_ : TypeId) (cs_ : Array Value) hb_ (n1 : t_ ≠ 52) (n2 : t_ ≠ 28) => hM.blk HS.out (HF.out b_ t_ cs_ hb_) n1 n2)
  clear hS hM
  refine hK.out _ _ ⟨(blk_cell BX5.out 0).trans rfl, (blk_cell BX5.out 1).trans rfl, (blk_cell BX5.out 2).trans rfl, (blk_cell BX5.out 3).trans rfl⟩ (fun hHeld => ?_)
  clear hK K
  refine norm_ (a' := ?_) ?_ ?_
  rotate_left
  · show Act.put _ (some 50) _ = _
    simp only [Act.put, List.setIfInBounds_toArray, List.set_cons_zero, List.set_cons_succ, i64_w, i32_w]
    rfl
  refine one_ (i := 11) (N := some 56) #[true, true, true, true, true, true, true, true, true, true, true, true, false, false] rfl rfl (by kernel_rfl) (by decide) (fun K hK => ?_)
  refine (goes_ Try.func59 (by kernel_rfl) rfl #[.pointer (some ⟨gx, 0, none⟩), .bool d2, .int .i64 d3] (by rfl) rfl rfl (by (try simp only [List.map_toArray, List.map_cons, List.map_nil]); first | done | rfl) ?_)
  (with_reducible refine (HQA.out _ _ HX5.out).mono ?_)
  rintro e w6 ⟨v6, rfl, hS, hM⟩
  refine ⟨_, rfl, ?_⟩
  have HX6 := Aside0.mk (show StkX w6 base gx v6 a' b' c' l' from hS)
  have HS6 := Aside0.mk (show StkP w6 base g v5 a' b' c' l' from stk_other HS5.out HX5.out hM (by decide) (by decide) (by decide) (by decide))
  have BX6 := Aside0.mk (hM.blk HX5.out BX5.out (by decide) (by decide))
  have HB6 := Aside0.mk (HB5.out.trans (hM.below HX5.out))
  have HF6 := Aside0.mk (fun (b_ : Nat) (t_ : TypeId) (cs_ : Array Value) hb_ (n1 : t_ ≠ 52) (n2 : t_ ≠ 28) (n3 : t_ ≠ 45) (n4 : t_ ≠ 41) => hM.blk HX5.out (HF5.out b_ t_ cs_ hb_ n1 n2) n3 n4)
  clear hS hM
  refine hK.out _ _ ⟨(blk_cell BX6.out 0).trans rfl, (blk_cell BX6.out 1).trans rfl, (blk_cell BX6.out 2).trans rfl, (blk_cell BX6.out 3).trans rfl⟩ (fun hHeld => ?_)
  clear hK K
  refine norm_ (a' := ?_) ?_ ?_
  rotate_left
  · show Act.put _ (some 56) _ = _
    simp only [Act.put, List.setIfInBounds_toArray, List.set_cons_zero, List.set_cons_succ, i64_w, i32_w]
    rfl
  refine pure_ (i := 12) (N := some 57) (v := .bool true) (a' := ?_) #[true, true, true, true, true, true, true, true, true, true, true, true, true, false] rfl rfl (by kernel_rfl) (fun _ _ _ h => h) (Or.inl ⟨by rfl, ?_⟩) ?_ ?_
  · intro w'
    go_simp
    first | done | with_reducible rfl | rfl | (simp; done)
  rotate_left
  · simp only [Act.put, List.setIfInBounds_toArray, List.set_cons_zero, List.set_cons_succ, i64_w, i32_w]
    rfl
  refine pure_ (i := 13) (N := some 6) (v := ?_) (a' := ?_) #[true, true, true, true, true, true, true, true, true, true, true, true, true, true] rfl rfl (by kernel_rfl) (fun _ _ _ h => h) (Or.inl ⟨by rfl, ?_⟩) ?_ ?_
  rotate_left
  · intro w'
    go_simp
    with_reducible rfl
  rotate_left
  · simp only [Act.put, List.setIfInBounds_toArray, List.set_cons_zero, List.set_cons_succ, i64_w, i32_w]
    rfl
  refine done_ (by kernel_rfl) ?_
  go_wp2
  go_ret
  unfold DoPost
  exact ⟨v5, v6, by first | rfl | simp [*], HS6.out, HX6.out, HB6.out, HF6.out⟩
set_option maxHeartbeats 8000000 in
set_option maxRecDepth 100000 in
theorem do_embed4 {w : World} {base g gx : Nat} {v vx : Value} {a b c : Int} {l : List Ent} (h : StkP w base g v a b c l) (hX : StkX w base gx vx a b c l) {a' b' c' : Int} {l' : List Ent} {r : Bool} (d1 d3 : Int) (d2 : Bool)
    (HP : ∀ (W : World) (v_ : Value), StkP W base g v_ a b c l → Calls Try.prog 18 #[.pointer (some ⟨g, 0, none⟩), .bool d2, .int .i64 d3] W (Upd W base g v_ (.returned (.bool r)) a' b' c' l')) (HQ : ∀ (W : World) (v_ : Value), StkX W base gx v_ a b c l → Calls Try.prog 59 #[.pointer (some ⟨gx, 0, none⟩), .bool d2, .int .i64 d3] W (UpdX W base gx v_ (.returned (.bool r)) a' b' c' l')) :
    Calls Try.prog 24 #[.pointer (some ⟨g, 0, none⟩), .pointer (some ⟨gx, 0, none⟩), .agg #[.int .i64 (4), .int .i64 d1, .bool d2, .int .i64 d3]] w (DoPost w base g gx a' b' c' l') := by
  have HS0 := Aside0.mk h
  have HX0 := Aside0.mk hX
  have HPA := Aside0.mk HP
  have HQA := Aside0.mk HQ
  have HSZ := Aside0.mk (show base ≤ w.heap.size by have := stk_lt h; have := h.2.2; omega)
  clear h hX HP HQ
  go_enter Try.func24, Try.ntmps24
  go_wp2_with (first | ((with_reducible refine gate_dst (N := 5) rfl ?_); refine box_event ?hg (N := 5) ?hd (cs := #[.int .i64 4, .int .i64 d1, .bool d2, .int .i64 d3]) (t := 26) ?hr ?_; (case hd => rfl); (case hg => rfl); (case hr => first | (go_simp; done) | (go_simp; rfl)); intro g5 hg w1 hbox hb; have BX := Aside0.mk hbox; have HB := Aside0.mk (show Below base w w1 from below_weaken0 HSZ.out hb); have HS := Aside0.mk (show StkP w1 base g v a b c l from stk_below HS0.out hb); have HX := Aside0.mk (show StkX w1 base gx vx a b c l from stk_below HX0.out hb); have HF := Aside0.mk (show ∀ (b_ : Nat) (t_ : TypeId) (cs_ : Array Value), w.heap[b_]? = some (.cells cs_ t_ (0, 0)) → w1.heap[b_]? = some (.cells cs_ t_ (0, 0)) from fun b_ t_ cs_ hb_ => blk_below hb_ hb); have hx0 := (blk_cell BX.out 0).trans rfl; have hx2 := (blk_cell BX.out 2).trans rfl; have hx3 := (blk_cell BX.out 3).trans rfl; clear hg hbox hb))
  clear hx0 hx2 hx3
  have BXD := Aside0.mk (blk_drew BX.out)
  have HSD := Aside0.mk (show StkP w1.drew base g v a b c l from stk_drew HS.out)
  have HXD := Aside0.mk (show StkX w1.drew base gx vx a b c l from stk_drew HX.out)
  have HBD := Aside0.mk (show Below base w w1.drew from HB.out.drew)
  have HFD := Aside0.mk (show ∀ (b_ : Nat) (t_ : TypeId) (cs_ : Array Value), w.heap[b_]? = some (.cells cs_ t_ (0, 0)) → w1.drew.heap[b_]? = some (.cells cs_ t_ (0, 0)) from HF.out)
  clear BX HS HX HB HF
  have BX := BXD
  have HS := HSD
  have HX := HXD
  have HB := HBD
  have HF := HFD
  clear HFD BXD HSD HXD HBD
  refine start_ (n := 14) (S := fun w' => w'.cell? ⟨g5, 0, none⟩ = some (.int .i64 4) ∧ w'.cell? ⟨g5, 1, none⟩ = some (.int .i64 d1) ∧ w'.cell? ⟨g5, 2, none⟩ = some (.bool d2) ∧ w'.cell? ⟨g5, 3, none⟩ = some (.int .i64 d3)) (ds := []) #[false, false, false, false, false, false, false, false, false, false, false, false, false, false] (by kernel_rfl) rfl rfl ⟨(blk_cell BX.out 0).trans rfl, (blk_cell BX.out 1).trans rfl, (blk_cell BX.out 2).trans rfl, (blk_cell BX.out 3).trans rfl⟩ (fun hHeld => ?_)
  generalize w1.drew = w2 at BX HS HX HB HF hHeld ⊢
  refine pure_ (i := 0) (N := some 45) (v := ?_) (a' := ?_) #[true, false, false, false, false, false, false, false, false, false, false, false, false, false] rfl rfl (by kernel_rfl) (fun _ _ _ h => h) (Or.inl ⟨by rfl, ?_⟩) ?_ ?_
  rotate_left
  · intro w'
    go_simp
    with_reducible rfl
  rotate_left
  · simp only [Act.put, List.setIfInBounds_toArray, List.set_cons_zero, List.set_cons_succ, i64_w, i32_w]
    rfl
  refine pure_ (i := 1) (N := some 46) (v := ?_) (a' := ?_) #[true, true, false, false, false, false, false, false, false, false, false, false, false, false] rfl rfl (by kernel_rfl) (fun _ _ _ h => h) (Or.inl ⟨by rfl, ?_⟩) ?_ ?_
  rotate_left
  · intro w'
    go_simp
    with_reducible rfl
  rotate_left
  · simp only [Act.put, List.setIfInBounds_toArray, List.set_cons_zero, List.set_cons_succ, i64_w, i32_w]
    rfl
  refine take_ (i := 2) (N := some 47) (v := ?_) (a' := ?_) #[true, true, true, false, false, false, false, false, false, false, false, false, false, false] rfl rfl (by kernel_rfl) (fun _ _ _ h => h) (Or.inl ⟨by rfl, ?_⟩) hHeld ?_ ?_
  rotate_left
  · rintro w' ⟨s0, s1, s2, s3⟩
    go_simp
    with_reducible rfl
  rotate_left
  · simp only [Act.put, List.setIfInBounds_toArray, List.set_cons_zero, List.set_cons_succ, i64_w, i32_w]
    rfl
  refine pure_ (i := 3) (N := some 48) (v := ?_) (a' := ?_) #[true, true, true, true, false, false, false, false, false, false, false, false, false, false] rfl rfl (by kernel_rfl) (fun _ _ _ h => h) (Or.inl ⟨by rfl, ?_⟩) ?_ ?_
  rotate_left
  · intro w'
    go_simp
    with_reducible rfl
  rotate_left
  · simp only [Act.put, List.setIfInBounds_toArray, List.set_cons_zero, List.set_cons_succ, i64_w, i32_w]
    rfl
  refine take_ (i := 4) (N := some 49) (v := ?_) (a' := ?_) #[true, true, true, true, true, false, false, false, false, false, false, false, false, false] rfl rfl (by kernel_rfl) (fun _ _ _ h => h) (Or.inl ⟨by rfl, ?_⟩) hHeld ?_ ?_
  rotate_left
  · rintro w' ⟨s0, s1, s2, s3⟩
    go_simp
    with_reducible rfl
  rotate_left
  · simp only [Act.put, List.setIfInBounds_toArray, List.set_cons_zero, List.set_cons_succ, i64_w, i32_w]
    rfl
  refine pure_ (i := 6) (N := some 51) (v := ?_) (a' := ?_) #[true, true, true, true, true, false, true, false, false, false, false, false, false, false] rfl rfl (by kernel_rfl) (fun _ _ _ h => h) (Or.inl ⟨by rfl, ?_⟩) ?_ ?_
  rotate_left
  · intro w'
    go_simp
    with_reducible rfl
  rotate_left
  · simp only [Act.put, List.setIfInBounds_toArray, List.set_cons_zero, List.set_cons_succ, i64_w, i32_w]
    rfl
  refine pure_ (i := 7) (N := some 52) (v := ?_) (a' := ?_) #[true, true, true, true, true, false, true, true, false, false, false, false, false, false] rfl rfl (by kernel_rfl) (fun _ _ _ h => h) (Or.inl ⟨by rfl, ?_⟩) ?_ ?_
  rotate_left
  · intro w'
    go_simp
    with_reducible rfl
  rotate_left
  · simp only [Act.put, List.setIfInBounds_toArray, List.set_cons_zero, List.set_cons_succ, i64_w, i32_w]
    rfl
  refine take_ (i := 8) (N := some 53) (v := ?_) (a' := ?_) #[true, true, true, true, true, false, true, true, true, false, false, false, false, false] rfl rfl (by kernel_rfl) (fun _ _ _ h => h) (Or.inl ⟨by rfl, ?_⟩) hHeld ?_ ?_
  rotate_left
  · rintro w' ⟨s0, s1, s2, s3⟩
    go_simp
    with_reducible rfl
  rotate_left
  · simp only [Act.put, List.setIfInBounds_toArray, List.set_cons_zero, List.set_cons_succ, i64_w, i32_w]
    rfl
  refine pure_ (i := 9) (N := some 54) (v := ?_) (a' := ?_) #[true, true, true, true, true, false, true, true, true, true, false, false, false, false] rfl rfl (by kernel_rfl) (fun _ _ _ h => h) (Or.inl ⟨by rfl, ?_⟩) ?_ ?_
  rotate_left
  · intro w'
    go_simp
    with_reducible rfl
  rotate_left
  · simp only [Act.put, List.setIfInBounds_toArray, List.set_cons_zero, List.set_cons_succ, i64_w, i32_w]
    rfl
  refine take_ (i := 10) (N := some 55) (v := ?_) (a' := ?_) #[true, true, true, true, true, false, true, true, true, true, true, false, false, false] rfl rfl (by kernel_rfl) (fun _ _ _ h => h) (Or.inl ⟨by rfl, ?_⟩) hHeld ?_ ?_
  rotate_left
  · rintro w' ⟨s0, s1, s2, s3⟩
    go_simp
    with_reducible rfl
  rotate_left
  · simp only [Act.put, List.setIfInBounds_toArray, List.set_cons_zero, List.set_cons_succ, i64_w, i32_w]
    rfl
  refine one_ (i := 5) (N := some 50) #[true, true, true, true, true, true, true, true, true, true, true, false, false, false] rfl rfl (by kernel_rfl) (by decide) (fun K hK => ?_)
  refine (goes_ Try.func18 (by kernel_rfl) rfl #[.pointer (some ⟨g, 0, none⟩), .bool d2, .int .i64 d3] (by rfl) rfl rfl (by (try simp only [List.map_toArray, List.map_cons, List.map_nil]); first | done | rfl) ?_)
  (with_reducible refine (HPA.out _ _ HS.out).mono ?_)
  rintro e w5 ⟨v5, rfl, hS, hM⟩
  refine ⟨_, rfl, ?_⟩
  have HS5 := Aside0.mk (show StkP w5 base g v5 a' b' c' l' from hS)
  have HX5 := Aside0.mk (show StkX w5 base gx vx a b c l from stk_other HX.out HS.out hM (by decide) (by decide) (by decide) (by decide))
  have BX5 := Aside0.mk (hM.blk HS.out BX.out (by decide) (by decide))
  have HB5 := Aside0.mk (HB.out.trans (hM.below HS.out))
  have HF5 := Aside0.mk (fun (b_ : Nat) (t_ : TypeId) (cs_ : Array Value) hb_ (n1 : t_ ≠ 52) (n2 : t_ ≠ 28) => hM.blk HS.out (HF.out b_ t_ cs_ hb_) n1 n2)
  clear hS hM
  refine hK.out _ _ ⟨(blk_cell BX5.out 0).trans rfl, (blk_cell BX5.out 1).trans rfl, (blk_cell BX5.out 2).trans rfl, (blk_cell BX5.out 3).trans rfl⟩ (fun hHeld => ?_)
  clear hK K
  refine norm_ (a' := ?_) ?_ ?_
  rotate_left
  · show Act.put _ (some 50) _ = _
    simp only [Act.put, List.setIfInBounds_toArray, List.set_cons_zero, List.set_cons_succ, i64_w, i32_w]
    rfl
  refine one_ (i := 11) (N := some 56) #[true, true, true, true, true, true, true, true, true, true, true, true, false, false] rfl rfl (by kernel_rfl) (by decide) (fun K hK => ?_)
  refine (goes_ Try.func59 (by kernel_rfl) rfl #[.pointer (some ⟨gx, 0, none⟩), .bool d2, .int .i64 d3] (by rfl) rfl rfl (by (try simp only [List.map_toArray, List.map_cons, List.map_nil]); first | done | rfl) ?_)
  (with_reducible refine (HQA.out _ _ HX5.out).mono ?_)
  rintro e w6 ⟨v6, rfl, hS, hM⟩
  refine ⟨_, rfl, ?_⟩
  have HX6 := Aside0.mk (show StkX w6 base gx v6 a' b' c' l' from hS)
  have HS6 := Aside0.mk (show StkP w6 base g v5 a' b' c' l' from stk_other HS5.out HX5.out hM (by decide) (by decide) (by decide) (by decide))
  have BX6 := Aside0.mk (hM.blk HX5.out BX5.out (by decide) (by decide))
  have HB6 := Aside0.mk (HB5.out.trans (hM.below HX5.out))
  have HF6 := Aside0.mk (fun (b_ : Nat) (t_ : TypeId) (cs_ : Array Value) hb_ (n1 : t_ ≠ 52) (n2 : t_ ≠ 28) (n3 : t_ ≠ 45) (n4 : t_ ≠ 41) => hM.blk HX5.out (HF5.out b_ t_ cs_ hb_ n1 n2) n3 n4)
  clear hS hM
  refine hK.out _ _ ⟨(blk_cell BX6.out 0).trans rfl, (blk_cell BX6.out 1).trans rfl, (blk_cell BX6.out 2).trans rfl, (blk_cell BX6.out 3).trans rfl⟩ (fun hHeld => ?_)
  clear hK K
  refine norm_ (a' := ?_) ?_ ?_
  rotate_left
  · show Act.put _ (some 56) _ = _
    simp only [Act.put, List.setIfInBounds_toArray, List.set_cons_zero, List.set_cons_succ, i64_w, i32_w]
    rfl
  refine pure_ (i := 12) (N := some 57) (v := .bool true) (a' := ?_) #[true, true, true, true, true, true, true, true, true, true, true, true, true, false] rfl rfl (by kernel_rfl) (fun _ _ _ h => h) (Or.inl ⟨by rfl, ?_⟩) ?_ ?_
  · intro w'
    go_simp
    first | done | with_reducible rfl | rfl | (simp; done)
  rotate_left
  · simp only [Act.put, List.setIfInBounds_toArray, List.set_cons_zero, List.set_cons_succ, i64_w, i32_w]
    rfl
  refine pure_ (i := 13) (N := some 6) (v := ?_) (a' := ?_) #[true, true, true, true, true, true, true, true, true, true, true, true, true, true] rfl rfl (by kernel_rfl) (fun _ _ _ h => h) (Or.inl ⟨by rfl, ?_⟩) ?_ ?_
  rotate_left
  · intro w'
    go_simp
    with_reducible rfl
  rotate_left
  · simp only [Act.put, List.setIfInBounds_toArray, List.set_cons_zero, List.set_cons_succ, i64_w, i32_w]
    rfl
  refine done_ (by kernel_rfl) ?_
  go_wp2
  go_ret
  unfold DoPost
  exact ⟨v5, v6, by first | rfl | simp [*], HS6.out, HX6.out, HB6.out, HF6.out⟩
set_option maxHeartbeats 8000000 in
set_option maxRecDepth 100000 in
theorem do_isolate5 {w : World} {base g gx : Nat} {v vx : Value} {a b c : Int} {l : List Ent} (h : StkP w base g v a b c l) (hX : StkX w base gx vx a b c l) {a' b' c' : Int} {l' : List Ent} {r : Bool} (d1 d3 : Int) (d2 : Bool)
    (HP : ∀ (W : World) (v_ : Value), StkP W base g v_ a b c l → Calls Try.prog 19 #[.pointer (some ⟨g, 0, none⟩), .bool d2] W (Upd W base g v_ (.returned (.bool r)) a' b' c' l')) (HQ : ∀ (W : World) (v_ : Value), StkX W base gx v_ a b c l → Calls Try.prog 60 #[.pointer (some ⟨gx, 0, none⟩), .bool d2] W (UpdX W base gx v_ (.returned (.bool r)) a' b' c' l')) :
    Calls Try.prog 24 #[.pointer (some ⟨g, 0, none⟩), .pointer (some ⟨gx, 0, none⟩), .agg #[.int .i64 (5), .int .i64 d1, .bool d2, .int .i64 d3]] w (DoPost w base g gx a' b' c' l') := by
  have HS0 := Aside0.mk h
  have HX0 := Aside0.mk hX
  have HPA := Aside0.mk HP
  have HQA := Aside0.mk HQ
  have HSZ := Aside0.mk (show base ≤ w.heap.size by have := stk_lt h; have := h.2.2; omega)
  clear h hX HP HQ
  go_enter Try.func24, Try.ntmps24
  go_wp2_with (first | ((with_reducible refine gate_dst (N := 5) rfl ?_); refine box_event ?hg (N := 5) ?hd (cs := #[.int .i64 5, .int .i64 d1, .bool d2, .int .i64 d3]) (t := 26) ?hr ?_; (case hd => rfl); (case hg => rfl); (case hr => first | (go_simp; done) | (go_simp; rfl)); intro g5 hg w1 hbox hb; have BX := Aside0.mk hbox; have HB := Aside0.mk (show Below base w w1 from below_weaken0 HSZ.out hb); have HS := Aside0.mk (show StkP w1 base g v a b c l from stk_below HS0.out hb); have HX := Aside0.mk (show StkX w1 base gx vx a b c l from stk_below HX0.out hb); have HF := Aside0.mk (show ∀ (b_ : Nat) (t_ : TypeId) (cs_ : Array Value), w.heap[b_]? = some (.cells cs_ t_ (0, 0)) → w1.heap[b_]? = some (.cells cs_ t_ (0, 0)) from fun b_ t_ cs_ hb_ => blk_below hb_ hb); have hx0 := (blk_cell BX.out 0).trans rfl; have hx2 := (blk_cell BX.out 2).trans rfl; have hx3 := (blk_cell BX.out 3).trans rfl; clear hg hbox hb))
  clear hx0 hx2 hx3
  have BXD := Aside0.mk (blk_drew BX.out)
  have HSD := Aside0.mk (show StkP w1.drew base g v a b c l from stk_drew HS.out)
  have HXD := Aside0.mk (show StkX w1.drew base gx vx a b c l from stk_drew HX.out)
  have HBD := Aside0.mk (show Below base w w1.drew from HB.out.drew)
  have HFD := Aside0.mk (show ∀ (b_ : Nat) (t_ : TypeId) (cs_ : Array Value), w.heap[b_]? = some (.cells cs_ t_ (0, 0)) → w1.drew.heap[b_]? = some (.cells cs_ t_ (0, 0)) from HF.out)
  clear BX HS HX HB HF
  have BX := BXD
  have HS := HSD
  have HX := HXD
  have HB := HBD
  have HF := HFD
  clear HFD BXD HSD HXD HBD
  refine start_ (n := 10) (S := fun w' => w'.cell? ⟨g5, 0, none⟩ = some (.int .i64 5) ∧ w'.cell? ⟨g5, 1, none⟩ = some (.int .i64 d1) ∧ w'.cell? ⟨g5, 2, none⟩ = some (.bool d2) ∧ w'.cell? ⟨g5, 3, none⟩ = some (.int .i64 d3)) (ds := []) #[false, false, false, false, false, false, false, false, false, false] (by kernel_rfl) rfl rfl ⟨(blk_cell BX.out 0).trans rfl, (blk_cell BX.out 1).trans rfl, (blk_cell BX.out 2).trans rfl, (blk_cell BX.out 3).trans rfl⟩ (fun hHeld => ?_)
  generalize w1.drew = w2 at BX HS HX HB HF hHeld ⊢
  refine pure_ (i := 0) (N := some 62) (v := ?_) (a' := ?_) #[true, false, false, false, false, false, false, false, false, false] rfl rfl (by kernel_rfl) (fun _ _ _ h => h) (Or.inl ⟨by rfl, ?_⟩) ?_ ?_
  rotate_left
  · intro w'
    go_simp
    with_reducible rfl
  rotate_left
  · simp only [Act.put, List.setIfInBounds_toArray, List.set_cons_zero, List.set_cons_succ, i64_w, i32_w]
    rfl
  refine pure_ (i := 1) (N := some 63) (v := ?_) (a' := ?_) #[true, true, false, false, false, false, false, false, false, false] rfl rfl (by kernel_rfl) (fun _ _ _ h => h) (Or.inl ⟨by rfl, ?_⟩) ?_ ?_
  rotate_left
  · intro w'
    go_simp
    with_reducible rfl
  rotate_left
  · simp only [Act.put, List.setIfInBounds_toArray, List.set_cons_zero, List.set_cons_succ, i64_w, i32_w]
    rfl
  refine take_ (i := 2) (N := some 64) (v := ?_) (a' := ?_) #[true, true, true, false, false, false, false, false, false, false] rfl rfl (by kernel_rfl) (fun _ _ _ h => h) (Or.inl ⟨by rfl, ?_⟩) hHeld ?_ ?_
  rotate_left
  · rintro w' ⟨s0, s1, s2, s3⟩
    go_simp
    with_reducible rfl
  rotate_left
  · simp only [Act.put, List.setIfInBounds_toArray, List.set_cons_zero, List.set_cons_succ, i64_w, i32_w]
    rfl
  refine pure_ (i := 4) (N := some 66) (v := ?_) (a' := ?_) #[true, true, true, false, true, false, false, false, false, false] rfl rfl (by kernel_rfl) (fun _ _ _ h => h) (Or.inl ⟨by rfl, ?_⟩) ?_ ?_
  rotate_left
  · intro w'
    go_simp
    with_reducible rfl
  rotate_left
  · simp only [Act.put, List.setIfInBounds_toArray, List.set_cons_zero, List.set_cons_succ, i64_w, i32_w]
    rfl
  refine pure_ (i := 5) (N := some 67) (v := ?_) (a' := ?_) #[true, true, true, false, true, true, false, false, false, false] rfl rfl (by kernel_rfl) (fun _ _ _ h => h) (Or.inl ⟨by rfl, ?_⟩) ?_ ?_
  rotate_left
  · intro w'
    go_simp
    with_reducible rfl
  rotate_left
  · simp only [Act.put, List.setIfInBounds_toArray, List.set_cons_zero, List.set_cons_succ, i64_w, i32_w]
    rfl
  refine take_ (i := 6) (N := some 68) (v := ?_) (a' := ?_) #[true, true, true, false, true, true, true, false, false, false] rfl rfl (by kernel_rfl) (fun _ _ _ h => h) (Or.inl ⟨by rfl, ?_⟩) hHeld ?_ ?_
  rotate_left
  · rintro w' ⟨s0, s1, s2, s3⟩
    go_simp
    with_reducible rfl
  rotate_left
  · simp only [Act.put, List.setIfInBounds_toArray, List.set_cons_zero, List.set_cons_succ, i64_w, i32_w]
    rfl
  refine one_ (i := 3) (N := some 65) #[true, true, true, true, true, true, true, false, false, false] rfl rfl (by kernel_rfl) (by decide) (fun K hK => ?_)
  refine (goes_ Try.func19 (by kernel_rfl) rfl #[.pointer (some ⟨g, 0, none⟩), .bool d2] (by rfl) rfl rfl (by (try simp only [List.map_toArray, List.map_cons, List.map_nil]); first | done | rfl) ?_)
  (with_reducible refine (HPA.out _ _ HS.out).mono ?_)
  rintro e w5 ⟨v5, rfl, hS, hM⟩
  refine ⟨_, rfl, ?_⟩
  have HS5 := Aside0.mk (show StkP w5 base g v5 a' b' c' l' from hS)
  have HX5 := Aside0.mk (show StkX w5 base gx vx a b c l from stk_other HX.out HS.out hM (by decide) (by decide) (by decide) (by decide))
  have BX5 := Aside0.mk (hM.blk HS.out BX.out (by decide) (by decide))
  have HB5 := Aside0.mk (HB.out.trans (hM.below HS.out))
  have HF5 := Aside0.mk (fun (b_ : Nat) (t_ : TypeId) (cs_ : Array Value) hb_ (n1 : t_ ≠ 52) (n2 : t_ ≠ 28) => hM.blk HS.out (HF.out b_ t_ cs_ hb_) n1 n2)
  clear hS hM
  refine hK.out _ _ ⟨(blk_cell BX5.out 0).trans rfl, (blk_cell BX5.out 1).trans rfl, (blk_cell BX5.out 2).trans rfl, (blk_cell BX5.out 3).trans rfl⟩ (fun hHeld => ?_)
  clear hK K
  refine norm_ (a' := ?_) ?_ ?_
  rotate_left
  · show Act.put _ (some 65) _ = _
    simp only [Act.put, List.setIfInBounds_toArray, List.set_cons_zero, List.set_cons_succ, i64_w, i32_w]
    rfl
  refine one_ (i := 7) (N := some 69) #[true, true, true, true, true, true, true, true, false, false] rfl rfl (by kernel_rfl) (by decide) (fun K hK => ?_)
  refine (goes_ Try.func60 (by kernel_rfl) rfl #[.pointer (some ⟨gx, 0, none⟩), .bool d2] (by rfl) rfl rfl (by (try simp only [List.map_toArray, List.map_cons, List.map_nil]); first | done | rfl) ?_)
  (with_reducible refine (HQA.out _ _ HX5.out).mono ?_)
  rintro e w6 ⟨v6, rfl, hS, hM⟩
  refine ⟨_, rfl, ?_⟩
  have HX6 := Aside0.mk (show StkX w6 base gx v6 a' b' c' l' from hS)
  have HS6 := Aside0.mk (show StkP w6 base g v5 a' b' c' l' from stk_other HS5.out HX5.out hM (by decide) (by decide) (by decide) (by decide))
  have BX6 := Aside0.mk (hM.blk HX5.out BX5.out (by decide) (by decide))
  have HB6 := Aside0.mk (HB5.out.trans (hM.below HX5.out))
  have HF6 := Aside0.mk (fun (b_ : Nat) (t_ : TypeId) (cs_ : Array Value) hb_ (n1 : t_ ≠ 52) (n2 : t_ ≠ 28) (n3 : t_ ≠ 45) (n4 : t_ ≠ 41) => hM.blk HX5.out (HF5.out b_ t_ cs_ hb_ n1 n2) n3 n4)
  clear hS hM
  refine hK.out _ _ ⟨(blk_cell BX6.out 0).trans rfl, (blk_cell BX6.out 1).trans rfl, (blk_cell BX6.out 2).trans rfl, (blk_cell BX6.out 3).trans rfl⟩ (fun hHeld => ?_)
  clear hK K
  refine norm_ (a' := ?_) ?_ ?_
  rotate_left
  · show Act.put _ (some 69) _ = _
    simp only [Act.put, List.setIfInBounds_toArray, List.set_cons_zero, List.set_cons_succ, i64_w, i32_w]
    rfl
  refine pure_ (i := 8) (N := some 70) (v := .bool true) (a' := ?_) #[true, true, true, true, true, true, true, true, true, false] rfl rfl (by kernel_rfl) (fun _ _ _ h => h) (Or.inl ⟨by rfl, ?_⟩) ?_ ?_
  · intro w'
    go_simp
    first | done | with_reducible rfl | rfl | (simp; done)
  rotate_left
  · simp only [Act.put, List.setIfInBounds_toArray, List.set_cons_zero, List.set_cons_succ, i64_w, i32_w]
    rfl
  refine pure_ (i := 9) (N := some 6) (v := ?_) (a' := ?_) #[true, true, true, true, true, true, true, true, true, true] rfl rfl (by kernel_rfl) (fun _ _ _ h => h) (Or.inl ⟨by rfl, ?_⟩) ?_ ?_
  rotate_left
  · intro w'
    go_simp
    with_reducible rfl
  rotate_left
  · simp only [Act.put, List.setIfInBounds_toArray, List.set_cons_zero, List.set_cons_succ, i64_w, i32_w]
    rfl
  refine done_ (by kernel_rfl) ?_
  go_wp2
  go_ret
  unfold DoPost
  exact ⟨v5, v6, by first | rfl | simp [*], HS6.out, HX6.out, HB6.out, HF6.out⟩
set_option maxHeartbeats 8000000 in
set_option maxRecDepth 100000 in
theorem do_isolate6 {w : World} {base g gx : Nat} {v vx : Value} {a b c : Int} {l : List Ent} (h : StkP w base g v a b c l) (hX : StkX w base gx vx a b c l) {a' b' c' : Int} {l' : List Ent} {r : Bool} (d1 d3 : Int) (d2 : Bool)
    (HP : ∀ (W : World) (v_ : Value), StkP W base g v_ a b c l → Calls Try.prog 19 #[.pointer (some ⟨g, 0, none⟩), .bool d2] W (Upd W base g v_ (.returned (.bool r)) a' b' c' l')) (HQ : ∀ (W : World) (v_ : Value), StkX W base gx v_ a b c l → Calls Try.prog 60 #[.pointer (some ⟨gx, 0, none⟩), .bool d2] W (UpdX W base gx v_ (.returned (.bool r)) a' b' c' l')) :
    Calls Try.prog 24 #[.pointer (some ⟨g, 0, none⟩), .pointer (some ⟨gx, 0, none⟩), .agg #[.int .i64 (6), .int .i64 d1, .bool d2, .int .i64 d3]] w (DoPost w base g gx a' b' c' l') := by
  have HS0 := Aside0.mk h
  have HX0 := Aside0.mk hX
  have HPA := Aside0.mk HP
  have HQA := Aside0.mk HQ
  have HSZ := Aside0.mk (show base ≤ w.heap.size by have := stk_lt h; have := h.2.2; omega)
  clear h hX HP HQ
  go_enter Try.func24, Try.ntmps24
  go_wp2_with (first | ((with_reducible refine gate_dst (N := 5) rfl ?_); refine box_event ?hg (N := 5) ?hd (cs := #[.int .i64 6, .int .i64 d1, .bool d2, .int .i64 d3]) (t := 26) ?hr ?_; (case hd => rfl); (case hg => rfl); (case hr => first | (go_simp; done) | (go_simp; rfl)); intro g5 hg w1 hbox hb; have BX := Aside0.mk hbox; have HB := Aside0.mk (show Below base w w1 from below_weaken0 HSZ.out hb); have HS := Aside0.mk (show StkP w1 base g v a b c l from stk_below HS0.out hb); have HX := Aside0.mk (show StkX w1 base gx vx a b c l from stk_below HX0.out hb); have HF := Aside0.mk (show ∀ (b_ : Nat) (t_ : TypeId) (cs_ : Array Value), w.heap[b_]? = some (.cells cs_ t_ (0, 0)) → w1.heap[b_]? = some (.cells cs_ t_ (0, 0)) from fun b_ t_ cs_ hb_ => blk_below hb_ hb); have hx0 := (blk_cell BX.out 0).trans rfl; have hx2 := (blk_cell BX.out 2).trans rfl; have hx3 := (blk_cell BX.out 3).trans rfl; clear hg hbox hb))
  clear hx0 hx2 hx3
  have BXD := Aside0.mk (blk_drew BX.out)
  have HSD := Aside0.mk (show StkP w1.drew base g v a b c l from stk_drew HS.out)
  have HXD := Aside0.mk (show StkX w1.drew base gx vx a b c l from stk_drew HX.out)
  have HBD := Aside0.mk (show Below base w w1.drew from HB.out.drew)
  have HFD := Aside0.mk (show ∀ (b_ : Nat) (t_ : TypeId) (cs_ : Array Value), w.heap[b_]? = some (.cells cs_ t_ (0, 0)) → w1.drew.heap[b_]? = some (.cells cs_ t_ (0, 0)) from HF.out)
  clear BX HS HX HB HF
  have BX := BXD
  have HS := HSD
  have HX := HXD
  have HB := HBD
  have HF := HFD
  clear HFD BXD HSD HXD HBD
  refine start_ (n := 10) (S := fun w' => w'.cell? ⟨g5, 0, none⟩ = some (.int .i64 6) ∧ w'.cell? ⟨g5, 1, none⟩ = some (.int .i64 d1) ∧ w'.cell? ⟨g5, 2, none⟩ = some (.bool d2) ∧ w'.cell? ⟨g5, 3, none⟩ = some (.int .i64 d3)) (ds := []) #[false, false, false, false, false, false, false, false, false, false] (by kernel_rfl) rfl rfl ⟨(blk_cell BX.out 0).trans rfl, (blk_cell BX.out 1).trans rfl, (blk_cell BX.out 2).trans rfl, (blk_cell BX.out 3).trans rfl⟩ (fun hHeld => ?_)
  generalize w1.drew = w2 at BX HS HX HB HF hHeld ⊢
  refine pure_ (i := 0) (N := some 62) (v := ?_) (a' := ?_) #[true, false, false, false, false, false, false, false, false, false] rfl rfl (by kernel_rfl) (fun _ _ _ h => h) (Or.inl ⟨by rfl, ?_⟩) ?_ ?_
  rotate_left
  · intro w'
    go_simp
    with_reducible rfl
  rotate_left
  · simp only [Act.put, List.setIfInBounds_toArray, List.set_cons_zero, List.set_cons_succ, i64_w, i32_w]
    rfl
  refine pure_ (i := 1) (N := some 63) (v := ?_) (a' := ?_) #[true, true, false, false, false, false, false, false, false, false] rfl rfl (by kernel_rfl) (fun _ _ _ h => h) (Or.inl ⟨by rfl, ?_⟩) ?_ ?_
  rotate_left
  · intro w'
    go_simp
    with_reducible rfl
  rotate_left
  · simp only [Act.put, List.setIfInBounds_toArray, List.set_cons_zero, List.set_cons_succ, i64_w, i32_w]
    rfl
  refine take_ (i := 2) (N := some 64) (v := ?_) (a' := ?_) #[true, true, true, false, false, false, false, false, false, false] rfl rfl (by kernel_rfl) (fun _ _ _ h => h) (Or.inl ⟨by rfl, ?_⟩) hHeld ?_ ?_
  rotate_left
  · rintro w' ⟨s0, s1, s2, s3⟩
    go_simp
    with_reducible rfl
  rotate_left
  · simp only [Act.put, List.setIfInBounds_toArray, List.set_cons_zero, List.set_cons_succ, i64_w, i32_w]
    rfl
  refine pure_ (i := 4) (N := some 66) (v := ?_) (a' := ?_) #[true, true, true, false, true, false, false, false, false, false] rfl rfl (by kernel_rfl) (fun _ _ _ h => h) (Or.inl ⟨by rfl, ?_⟩) ?_ ?_
  rotate_left
  · intro w'
    go_simp
    with_reducible rfl
  rotate_left
  · simp only [Act.put, List.setIfInBounds_toArray, List.set_cons_zero, List.set_cons_succ, i64_w, i32_w]
    rfl
  refine pure_ (i := 5) (N := some 67) (v := ?_) (a' := ?_) #[true, true, true, false, true, true, false, false, false, false] rfl rfl (by kernel_rfl) (fun _ _ _ h => h) (Or.inl ⟨by rfl, ?_⟩) ?_ ?_
  rotate_left
  · intro w'
    go_simp
    with_reducible rfl
  rotate_left
  · simp only [Act.put, List.setIfInBounds_toArray, List.set_cons_zero, List.set_cons_succ, i64_w, i32_w]
    rfl
  refine take_ (i := 6) (N := some 68) (v := ?_) (a' := ?_) #[true, true, true, false, true, true, true, false, false, false] rfl rfl (by kernel_rfl) (fun _ _ _ h => h) (Or.inl ⟨by rfl, ?_⟩) hHeld ?_ ?_
  rotate_left
  · rintro w' ⟨s0, s1, s2, s3⟩
    go_simp
    with_reducible rfl
  rotate_left
  · simp only [Act.put, List.setIfInBounds_toArray, List.set_cons_zero, List.set_cons_succ, i64_w, i32_w]
    rfl
  refine one_ (i := 3) (N := some 65) #[true, true, true, true, true, true, true, false, false, false] rfl rfl (by kernel_rfl) (by decide) (fun K hK => ?_)
  refine (goes_ Try.func19 (by kernel_rfl) rfl #[.pointer (some ⟨g, 0, none⟩), .bool d2] (by rfl) rfl rfl (by (try simp only [List.map_toArray, List.map_cons, List.map_nil]); first | done | rfl) ?_)
  (with_reducible refine (HPA.out _ _ HS.out).mono ?_)
  rintro e w5 ⟨v5, rfl, hS, hM⟩
  refine ⟨_, rfl, ?_⟩
  have HS5 := Aside0.mk (show StkP w5 base g v5 a' b' c' l' from hS)
  have HX5 := Aside0.mk (show StkX w5 base gx vx a b c l from stk_other HX.out HS.out hM (by decide) (by decide) (by decide) (by decide))
  have BX5 := Aside0.mk (hM.blk HS.out BX.out (by decide) (by decide))
  have HB5 := Aside0.mk (HB.out.trans (hM.below HS.out))
  have HF5 := Aside0.mk (fun (b_ : Nat) (t_ : TypeId) (cs_ : Array Value) hb_ (n1 : t_ ≠ 52) (n2 : t_ ≠ 28) => hM.blk HS.out (HF.out b_ t_ cs_ hb_) n1 n2)
  clear hS hM
  refine hK.out _ _ ⟨(blk_cell BX5.out 0).trans rfl, (blk_cell BX5.out 1).trans rfl, (blk_cell BX5.out 2).trans rfl, (blk_cell BX5.out 3).trans rfl⟩ (fun hHeld => ?_)
  clear hK K
  refine norm_ (a' := ?_) ?_ ?_
  rotate_left
  · show Act.put _ (some 65) _ = _
    simp only [Act.put, List.setIfInBounds_toArray, List.set_cons_zero, List.set_cons_succ, i64_w, i32_w]
    rfl
  refine one_ (i := 7) (N := some 69) #[true, true, true, true, true, true, true, true, false, false] rfl rfl (by kernel_rfl) (by decide) (fun K hK => ?_)
  refine (goes_ Try.func60 (by kernel_rfl) rfl #[.pointer (some ⟨gx, 0, none⟩), .bool d2] (by rfl) rfl rfl (by (try simp only [List.map_toArray, List.map_cons, List.map_nil]); first | done | rfl) ?_)
  (with_reducible refine (HQA.out _ _ HX5.out).mono ?_)
  rintro e w6 ⟨v6, rfl, hS, hM⟩
  refine ⟨_, rfl, ?_⟩
  have HX6 := Aside0.mk (show StkX w6 base gx v6 a' b' c' l' from hS)
  have HS6 := Aside0.mk (show StkP w6 base g v5 a' b' c' l' from stk_other HS5.out HX5.out hM (by decide) (by decide) (by decide) (by decide))
  have BX6 := Aside0.mk (hM.blk HX5.out BX5.out (by decide) (by decide))
  have HB6 := Aside0.mk (HB5.out.trans (hM.below HX5.out))
  have HF6 := Aside0.mk (fun (b_ : Nat) (t_ : TypeId) (cs_ : Array Value) hb_ (n1 : t_ ≠ 52) (n2 : t_ ≠ 28) (n3 : t_ ≠ 45) (n4 : t_ ≠ 41) => hM.blk HX5.out (HF5.out b_ t_ cs_ hb_ n1 n2) n3 n4)
  clear hS hM
  refine hK.out _ _ ⟨(blk_cell BX6.out 0).trans rfl, (blk_cell BX6.out 1).trans rfl, (blk_cell BX6.out 2).trans rfl, (blk_cell BX6.out 3).trans rfl⟩ (fun hHeld => ?_)
  clear hK K
  refine norm_ (a' := ?_) ?_ ?_
  rotate_left
  · show Act.put _ (some 69) _ = _
    simp only [Act.put, List.setIfInBounds_toArray, List.set_cons_zero, List.set_cons_succ, i64_w, i32_w]
    rfl
  refine pure_ (i := 8) (N := some 70) (v := .bool true) (a' := ?_) #[true, true, true, true, true, true, true, true, true, false] rfl rfl (by kernel_rfl) (fun _ _ _ h => h) (Or.inl ⟨by rfl, ?_⟩) ?_ ?_
  · intro w'
    go_simp
    first | done | with_reducible rfl | rfl | (simp; done)
  rotate_left
  · simp only [Act.put, List.setIfInBounds_toArray, List.set_cons_zero, List.set_cons_succ, i64_w, i32_w]
    rfl
  refine pure_ (i := 9) (N := some 6) (v := ?_) (a' := ?_) #[true, true, true, true, true, true, true, true, true, true] rfl rfl (by kernel_rfl) (fun _ _ _ h => h) (Or.inl ⟨by rfl, ?_⟩) ?_ ?_
  rotate_left
  · intro w'
    go_simp
    with_reducible rfl
  rotate_left
  · simp only [Act.put, List.setIfInBounds_toArray, List.set_cons_zero, List.set_cons_succ, i64_w, i32_w]
    rfl
  refine done_ (by kernel_rfl) ?_
  go_wp2
  go_ret
  unfold DoPost
  exact ⟨v5, v6, by first | rfl | simp [*], HS6.out, HX6.out, HB6.out, HF6.out⟩
set_option maxHeartbeats 8000000 in
set_option maxRecDepth 100000 in
theorem do_isolate7 {w : World} {base g gx : Nat} {v vx : Value} {a b c : Int} {l : List Ent} (h : StkP w base g v a b c l) (hX : StkX w base gx vx a b c l) {a' b' c' : Int} {l' : List Ent} {r : Bool} (d1 d3 : Int) (d2 : Bool)
    (HP : ∀ (W : World) (v_ : Value), StkP W base g v_ a b c l → Calls Try.prog 19 #[.pointer (some ⟨g, 0, none⟩), .bool d2] W (Upd W base g v_ (.returned (.bool r)) a' b' c' l')) (HQ : ∀ (W : World) (v_ : Value), StkX W base gx v_ a b c l → Calls Try.prog 60 #[.pointer (some ⟨gx, 0, none⟩), .bool d2] W (UpdX W base gx v_ (.returned (.bool r)) a' b' c' l')) :
    Calls Try.prog 24 #[.pointer (some ⟨g, 0, none⟩), .pointer (some ⟨gx, 0, none⟩), .agg #[.int .i64 (7), .int .i64 d1, .bool d2, .int .i64 d3]] w (DoPost w base g gx a' b' c' l') := by
  have HS0 := Aside0.mk h
  have HX0 := Aside0.mk hX
  have HPA := Aside0.mk HP
  have HQA := Aside0.mk HQ
  have HSZ := Aside0.mk (show base ≤ w.heap.size by have := stk_lt h; have := h.2.2; omega)
  clear h hX HP HQ
  go_enter Try.func24, Try.ntmps24
  go_wp2_with (first | ((with_reducible refine gate_dst (N := 5) rfl ?_); refine box_event ?hg (N := 5) ?hd (cs := #[.int .i64 7, .int .i64 d1, .bool d2, .int .i64 d3]) (t := 26) ?hr ?_; (case hd => rfl); (case hg => rfl); (case hr => first | (go_simp; done) | (go_simp; rfl)); intro g5 hg w1 hbox hb; have BX := Aside0.mk hbox; have HB := Aside0.mk (show Below base w w1 from below_weaken0 HSZ.out hb); have HS := Aside0.mk (show StkP w1 base g v a b c l from stk_below HS0.out hb); have HX := Aside0.mk (show StkX w1 base gx vx a b c l from stk_below HX0.out hb); have HF := Aside0.mk (show ∀ (b_ : Nat) (t_ : TypeId) (cs_ : Array Value), w.heap[b_]? = some (.cells cs_ t_ (0, 0)) → w1.heap[b_]? = some (.cells cs_ t_ (0, 0)) from fun b_ t_ cs_ hb_ => blk_below hb_ hb); have hx0 := (blk_cell BX.out 0).trans rfl; have hx2 := (blk_cell BX.out 2).trans rfl; have hx3 := (blk_cell BX.out 3).trans rfl; clear hg hbox hb))
  clear hx0 hx2 hx3
  have BXD := Aside0.mk (blk_drew BX.out)
  have HSD := Aside0.mk (show StkP w1.drew base g v a b c l from stk_drew HS.out)
  have HXD := Aside0.mk (show StkX w1.drew base gx vx a b c l from stk_drew HX.out)
  have HBD := Aside0.mk (show Below base w w1.drew from HB.out.drew)
  have HFD := Aside0.mk (show ∀ (b_ : Nat) (t_ : TypeId) (cs_ : Array Value), w.heap[b_]? = some (.cells cs_ t_ (0, 0)) → w1.drew.heap[b_]? = some (.cells cs_ t_ (0, 0)) from HF.out)
  clear BX HS HX HB HF
  have BX := BXD
  have HS := HSD
  have HX := HXD
  have HB := HBD
  have HF := HFD
  clear HFD BXD HSD HXD HBD
  refine start_ (n := 10) (S := fun w' => w'.cell? ⟨g5, 0, none⟩ = some (.int .i64 7) ∧ w'.cell? ⟨g5, 1, none⟩ = some (.int .i64 d1) ∧ w'.cell? ⟨g5, 2, none⟩ = some (.bool d2) ∧ w'.cell? ⟨g5, 3, none⟩ = some (.int .i64 d3)) (ds := []) #[false, false, false, false, false, false, false, false, false, false] (by kernel_rfl) rfl rfl ⟨(blk_cell BX.out 0).trans rfl, (blk_cell BX.out 1).trans rfl, (blk_cell BX.out 2).trans rfl, (blk_cell BX.out 3).trans rfl⟩ (fun hHeld => ?_)
  generalize w1.drew = w2 at BX HS HX HB HF hHeld ⊢
  refine pure_ (i := 0) (N := some 62) (v := ?_) (a' := ?_) #[true, false, false, false, false, false, false, false, false, false] rfl rfl (by kernel_rfl) (fun _ _ _ h => h) (Or.inl ⟨by rfl, ?_⟩) ?_ ?_
  rotate_left
  · intro w'
    go_simp
    with_reducible rfl
  rotate_left
  · simp only [Act.put, List.setIfInBounds_toArray, List.set_cons_zero, List.set_cons_succ, i64_w, i32_w]
    rfl
  refine pure_ (i := 1) (N := some 63) (v := ?_) (a' := ?_) #[true, true, false, false, false, false, false, false, false, false] rfl rfl (by kernel_rfl) (fun _ _ _ h => h) (Or.inl ⟨by rfl, ?_⟩) ?_ ?_
  rotate_left
  · intro w'
    go_simp
    with_reducible rfl
  rotate_left
  · simp only [Act.put, List.setIfInBounds_toArray, List.set_cons_zero, List.set_cons_succ, i64_w, i32_w]
    rfl
  refine take_ (i := 2) (N := some 64) (v := ?_) (a' := ?_) #[true, true, true, false, false, false, false, false, false, false] rfl rfl (by kernel_rfl) (fun _ _ _ h => h) (Or.inl ⟨by rfl, ?_⟩) hHeld ?_ ?_
  rotate_left
  · rintro w' ⟨s0, s1, s2, s3⟩
    go_simp
    with_reducible rfl
  rotate_left
  · simp only [Act.put, List.setIfInBounds_toArray, List.set_cons_zero, List.set_cons_succ, i64_w, i32_w]
    rfl
  refine pure_ (i := 4) (N := some 66) (v := ?_) (a' := ?_) #[true, true, true, false, true, false, false, false, false, false] rfl rfl (by kernel_rfl) (fun _ _ _ h => h) (Or.inl ⟨by rfl, ?_⟩) ?_ ?_
  rotate_left
  · intro w'
    go_simp
    with_reducible rfl
  rotate_left
  · simp only [Act.put, List.setIfInBounds_toArray, List.set_cons_zero, List.set_cons_succ, i64_w, i32_w]
    rfl
  refine pure_ (i := 5) (N := some 67) (v := ?_) (a' := ?_) #[true, true, true, false, true, true, false, false, false, false] rfl rfl (by kernel_rfl) (fun _ _ _ h => h) (Or.inl ⟨by rfl, ?_⟩) ?_ ?_
  rotate_left
  · intro w'
    go_simp
    with_reducible rfl
  rotate_left
  · simp only [Act.put, List.setIfInBounds_toArray, List.set_cons_zero, List.set_cons_succ, i64_w, i32_w]
    rfl
  refine take_ (i := 6) (N := some 68) (v := ?_) (a' := ?_) #[true, true, true, false, true, true, true, false, false, false] rfl rfl (by kernel_rfl) (fun _ _ _ h => h) (Or.inl ⟨by rfl, ?_⟩) hHeld ?_ ?_
  rotate_left
  · rintro w' ⟨s0, s1, s2, s3⟩
    go_simp
    with_reducible rfl
  rotate_left
  · simp only [Act.put, List.setIfInBounds_toArray, List.set_cons_zero, List.set_cons_succ, i64_w, i32_w]
    rfl
  refine one_ (i := 3) (N := some 65) #[true, true, true, true, true, true, true, false, false, false] rfl rfl (by kernel_rfl) (by decide) (fun K hK => ?_)
  refine (goes_ Try.func19 (by kernel_rfl) rfl #[.pointer (some ⟨g, 0, none⟩), .bool d2] (by rfl) rfl rfl (by (try simp only [List.map_toArray, List.map_cons, List.map_nil]); first | done | rfl) ?_)
  (with_reducible refine (HPA.out _ _ HS.out).mono ?_)
  rintro e w5 ⟨v5, rfl, hS, hM⟩
  refine ⟨_, rfl, ?_⟩
  have HS5 := Aside0.mk (show StkP w5 base g v5 a' b' c' l' from hS)
  have HX5 := Aside0.mk (show StkX w5 base gx vx a b c l from stk_other HX.out HS.out hM (by decide) (by decide) (by decide) (by decide))
  have BX5 := Aside0.mk (hM.blk HS.out BX.out (by decide) (by decide))
  have HB5 := Aside0.mk (HB.out.trans (hM.below HS.out))
  have HF5 := Aside0.mk (fun (b_ : Nat) (t_ : TypeId) (cs_ : Array Value) hb_ (n1 : t_ ≠ 52) (n2 : t_ ≠ 28) => hM.blk HS.out (HF.out b_ t_ cs_ hb_) n1 n2)
  clear hS hM
  refine hK.out _ _ ⟨(blk_cell BX5.out 0).trans rfl, (blk_cell BX5.out 1).trans rfl, (blk_cell BX5.out 2).trans rfl, (blk_cell BX5.out 3).trans rfl⟩ (fun hHeld => ?_)
  clear hK K
  refine norm_ (a' := ?_) ?_ ?_
  rotate_left
  · show Act.put _ (some 65) _ = _
    simp only [Act.put, List.setIfInBounds_toArray, List.set_cons_zero, List.set_cons_succ, i64_w, i32_w]
    rfl
  refine one_ (i := 7) (N := some 69) #[true, true, true, true, true, true, true, true, false, false] rfl rfl (by kernel_rfl) (by decide) (fun K hK => ?_)
  refine (goes_ Try.func60 (by kernel_rfl) rfl #[.pointer (some ⟨gx, 0, none⟩), .bool d2] (by rfl) rfl rfl (by (try simp only [List.map_toArray, List.map_cons, List.map_nil]); first | done | rfl) ?_)
  (with_reducible refine (HQA.out _ _ HX5.out).mono ?_)
  rintro e w6 ⟨v6, rfl, hS, hM⟩
  refine ⟨_, rfl, ?_⟩
  have HX6 := Aside0.mk (show StkX w6 base gx v6 a' b' c' l' from hS)
  have HS6 := Aside0.mk (show StkP w6 base g v5 a' b' c' l' from stk_other HS5.out HX5.out hM (by decide) (by decide) (by decide) (by decide))
  have BX6 := Aside0.mk (hM.blk HX5.out BX5.out (by decide) (by decide))
  have HB6 := Aside0.mk (HB5.out.trans (hM.below HX5.out))
  have HF6 := Aside0.mk (fun (b_ : Nat) (t_ : TypeId) (cs_ : Array Value) hb_ (n1 : t_ ≠ 52) (n2 : t_ ≠ 28) (n3 : t_ ≠ 45) (n4 : t_ ≠ 41) => hM.blk HX5.out (HF5.out b_ t_ cs_ hb_ n1 n2) n3 n4)
  clear hS hM
  refine hK.out _ _ ⟨(blk_cell BX6.out 0).trans rfl, (blk_cell BX6.out 1).trans rfl, (blk_cell BX6.out 2).trans rfl, (blk_cell BX6.out 3).trans rfl⟩ (fun hHeld => ?_)
  clear hK K
  refine norm_ (a' := ?_) ?_ ?_
  rotate_left
  · show Act.put _ (some 69) _ = _
    simp only [Act.put, List.setIfInBounds_toArray, List.set_cons_zero, List.set_cons_succ, i64_w, i32_w]
    rfl
  refine pure_ (i := 8) (N := some 70) (v := .bool true) (a' := ?_) #[true, true, true, true, true, true, true, true, true, false] rfl rfl (by kernel_rfl) (fun _ _ _ h => h) (Or.inl ⟨by rfl, ?_⟩) ?_ ?_
  · intro w'
    go_simp
    first | done | with_reducible rfl | rfl | (simp; done)
  rotate_left
  · simp only [Act.put, List.setIfInBounds_toArray, List.set_cons_zero, List.set_cons_succ, i64_w, i32_w]
    rfl
  refine pure_ (i := 9) (N := some 6) (v := ?_) (a' := ?_) #[true, true, true, true, true, true, true, true, true, true] rfl rfl (by kernel_rfl) (fun _ _ _ h => h) (Or.inl ⟨by rfl, ?_⟩) ?_ ?_
  rotate_left
  · intro w'
    go_simp
    with_reducible rfl
  rotate_left
  · simp only [Act.put, List.setIfInBounds_toArray, List.set_cons_zero, List.set_cons_succ, i64_w, i32_w]
    rfl
  refine done_ (by kernel_rfl) ?_
  go_wp2
  go_ret
  unfold DoPost
  exact ⟨v5, v6, by first | rfl | simp [*], HS6.out, HX6.out, HB6.out, HF6.out⟩
set_option maxHeartbeats 8000000 in
set_option maxRecDepth 100000 in
theorem do_pop {w : World} {base g gx : Nat} {v vx : Value} {a b c : Int} {l : List Ent} (h : StkP w base g v a b c l) (hX : StkX w base gx vx a b c l) {a' b' c' : Int} {l' : List Ent} {r : Bool} (d1 d3 : Int) (d2 : Bool)
    (HP : ∀ (W : World) (v_ : Value), StkP W base g v_ a b c l → Calls Try.prog 31 #[.pointer (some ⟨g, 0, none⟩)] W (Upd W base g v_ (.returned (.bool r)) a' b' c' l')) (HQ : ∀ (W : World) (v_ : Value), StkX W base gx v_ a b c l → Calls Try.prog 58 #[.pointer (some ⟨gx, 0, none⟩)] W (UpdX W base gx v_ (.returned (.bool r)) a' b' c' l')) :
    Calls Try.prog 24 #[.pointer (some ⟨g, 0, none⟩), .pointer (some ⟨gx, 0, none⟩), .agg #[.int .i64 (1), .int .i64 d1, .bool d2, .int .i64 d3]] w (DoPost w base g gx a' b' c' l') := by
  have HS0 := Aside0.mk h
  have HX0 := Aside0.mk hX
  have HPA := Aside0.mk HP
  have HQA := Aside0.mk HQ
  have HSZ := Aside0.mk (show base ≤ w.heap.size by have := stk_lt h; have := h.2.2; omega)
  clear h hX HP HQ
  go_enter Try.func24, Try.ntmps24
  go_wp2_with (first | ((with_reducible refine gate_dst (N := 5) rfl ?_); refine box_event ?hg (N := 5) ?hd (cs := #[.int .i64 1, .int .i64 d1, .bool d2, .int .i64 d3]) (t := 26) ?hr ?_; (case hd => rfl); (case hg => rfl); (case hr => first | (go_simp; done) | (go_simp; rfl)); intro g5 hg w1 hbox hb; have BX := Aside0.mk hbox; have HB := Aside0.mk (show Below base w w1 from below_weaken0 HSZ.out hb); have HS := Aside0.mk (show StkP w1 base g v a b c l from stk_below HS0.out hb); have HX := Aside0.mk (show StkX w1 base gx vx a b c l from stk_below HX0.out hb); have HF := Aside0.mk (show ∀ (b_ : Nat) (t_ : TypeId) (cs_ : Array Value), w.heap[b_]? = some (.cells cs_ t_ (0, 0)) → w1.heap[b_]? = some (.cells cs_ t_ (0, 0)) from fun b_ t_ cs_ hb_ => blk_below hb_ hb); have hx0 := (blk_cell BX.out 0).trans rfl; have hx2 := (blk_cell BX.out 2).trans rfl; have hx3 := (blk_cell BX.out 3).trans rfl; clear hg hbox hb) | (go_at_call 31; (with_reducible refine (HPA.out _ _ HS.out).mono ?_); rintro e w5 ⟨v5, rfl, hS, hM⟩; have HS5 := Aside0.mk (show StkP w5 base g v5 a' b' c' l' from hS); have HX5 := Aside0.mk (show StkX w5 base gx vx a b c l from stk_other HX.out HS.out hM (by decide) (by decide) (by decide) (by decide)); have BX5 := Aside0.mk (hM.blk HS.out BX.out (by decide) (by decide)); have HB5 := Aside0.mk (HB.out.trans (hM.below HS.out)); have HF5 := Aside0.mk (fun (b_ : Nat) (t_ : TypeId) (cs_ : Array Value) hb_ (n1 : t_ ≠ 52) (n2 : t_ ≠ 28) => hM.blk HS.out (HF.out b_ t_ cs_ hb_) n1 n2); clear hS hM) | (go_at_call 58; (with_reducible refine (HQA.out _ _ HX5.out).mono ?_); rintro e w6 ⟨v6, rfl, hS, hM⟩; have HX6 := Aside0.mk (show StkX w6 base gx v6 a' b' c' l' from hS); have HS6 := Aside0.mk (show StkP w6 base g v5 a' b' c' l' from stk_other HS5.out HX5.out hM (by decide) (by decide) (by decide) (by decide)); have BX6 := Aside0.mk (hM.blk HX5.out BX5.out (by decide) (by decide)); have HB6 := Aside0.mk (HB5.out.trans (hM.below HX5.out)); have HF6 := Aside0.mk (fun (b_ : Nat) (t_ : TypeId) (cs_ : Array Value) hb_ (n1 : t_ ≠ 52) (n2 : t_ ≠ 28) (n3 : t_ ≠ 45) (n4 : t_ ≠ 41) => hM.blk HX5.out (HF5.out b_ t_ cs_ hb_ n1 n2) n3 n4); clear hS hM))
  go_ret
  unfold DoPost
  exact ⟨v5, v6, by first | rfl | simp [*], HS6.out, HX6.out, HB6.out, HF6.out⟩
set_option maxHeartbeats 8000000 in
set_option maxRecDepth 100000 in
theorem do_ee {w : World} {base g gx : Nat} {v vx : Value} {a b c : Int} {l : List Ent} (h : StkP w base g v a b c l) (hX : StkX w base gx vx a b c l) {a' b' c' : Int} {l' : List Ent} (d1 d3 : Int) (d2 : Bool)
    (HP : ∀ (W : World) (v_ : Value), StkP W base g v_ a b c l → Calls Try.prog 20 #[.pointer (some ⟨g, 0, none⟩)] W (Upd W base g v_ (.returned (.tuple #[])) a' b' c' l')) (HQ : ∀ (W : World) (v_ : Value), StkX W base gx v_ a b c l → Calls Try.prog 61 #[.pointer (some ⟨gx, 0, none⟩)] W (UpdX W base gx v_ (.returned (.tuple #[])) a' b' c' l')) :
    Calls Try.prog 24 #[.pointer (some ⟨g, 0, none⟩), .pointer (some ⟨gx, 0, none⟩), .agg #[.int .i64 (8), .int .i64 d1, .bool d2, .int .i64 d3]] w (DoPost w base g gx a' b' c' l') := by
  have HS0 := Aside0.mk h
  have HX0 := Aside0.mk hX
  have HPA := Aside0.mk HP
  have HQA := Aside0.mk HQ
  have HSZ := Aside0.mk (show base ≤ w.heap.size by have := stk_lt h; have := h.2.2; omega)
  clear h hX HP HQ
  go_enter Try.func24, Try.ntmps24
  go_wp2_with (first | ((with_reducible refine gate_dst (N := 5) rfl ?_); refine box_event ?hg (N := 5) ?hd (cs := #[.int .i64 8, .int .i64 d1, .bool d2, .int .i64 d3]) (t := 26) ?hr ?_; (case hd => rfl); (case hg => rfl); (case hr => first | (go_simp; done) | (go_simp; rfl)); intro g5 hg w1 hbox hb; have BX := Aside0.mk hbox; have HB := Aside0.mk (show Below base w w1 from below_weaken0 HSZ.out hb); have HS := Aside0.mk (show StkP w1 base g v a b c l from stk_below HS0.out hb); have HX := Aside0.mk (show StkX w1 base gx vx a b c l from stk_below HX0.out hb); have HF := Aside0.mk (show ∀ (b_ : Nat) (t_ : TypeId) (cs_ : Array Value), w.heap[b_]? = some (.cells cs_ t_ (0, 0)) → w1.heap[b_]? = some (.cells cs_ t_ (0, 0)) from fun b_ t_ cs_ hb_ => blk_below hb_ hb); have hx0 := (blk_cell BX.out 0).trans rfl; have hx2 := (blk_cell BX.out 2).trans rfl; have hx3 := (blk_cell BX.out 3).trans rfl; clear hg hbox hb) | (go_at_call 20; (with_reducible refine (HPA.out _ _ HS.out).mono ?_); rintro e w5 ⟨v5, rfl, hS, hM⟩; have HS5 := Aside0.mk (show StkP w5 base g v5 a' b' c' l' from hS); have HX5 := Aside0.mk (show StkX w5 base gx vx a b c l from stk_other HX.out HS.out hM (by decide) (by decide) (by decide) (by decide)); have BX5 := Aside0.mk (hM.blk HS.out BX.out (by decide) (by decide)); have HB5 := Aside0.mk (HB.out.trans (hM.below HS.out)); have HF5 := Aside0.mk (fun (b_ : Nat) (t_ : TypeId) (cs_ : Array Value) hb_ (n1 : t_ ≠ 52) (n2 : t_ ≠ 28) => hM.blk HS.out (HF.out b_ t_ cs_ hb_) n1 n2); clear hS hM) | (go_at_call 61; (with_reducible refine (HQA.out _ _ HX5.out).mono ?_); rintro e w6 ⟨v6, rfl, hS, hM⟩; have HX6 := Aside0.mk (show StkX w6 base gx v6 a' b' c' l' from hS); have HS6 := Aside0.mk (show StkP w6 base g v5 a' b' c' l' from stk_other HS5.out HX5.out hM (by decide) (by decide) (by decide) (by decide)); have BX6 := Aside0.mk (hM.blk HX5.out BX5.out (by decide) (by decide)); have HB6 := Aside0.mk (HB5.out.trans (hM.below HX5.out)); have HF6 := Aside0.mk (fun (b_ : Nat) (t_ : TypeId) (cs_ : Array Value) hb_ (n1 : t_ ≠ 52) (n2 : t_ ≠ 28) (n3 : t_ ≠ 45) (n4 : t_ ≠ 41) => hM.blk HX5.out (HF5.out b_ t_ cs_ hb_ n1 n2) n3 n4); clear hS hM))
  go_ret
  unfold DoPost
  exact ⟨v5, v6, by first | rfl | simp [*], HS6.out, HX6.out, HB6.out, HF6.out⟩
set_option maxHeartbeats 8000000 in
set_option maxRecDepth 100000 in
theorem do_ei {w : World} {base g gx : Nat} {v vx : Value} {a b c : Int} {l : List Ent} (h : StkP w base g v a b c l) (hX : StkX w base gx vx a b c l) {a' b' c' : Int} {l' : List Ent} (d0 d1 d3 : Int) (d2 : Bool) (hk : d0 ≠ 0 ∧ d0 ≠ 1 ∧ d0 ≠ 2 ∧ d0 ≠ 3 ∧ d0 ≠ 4 ∧ d0 ≠ 5 ∧ d0 ≠ 6 ∧ d0 ≠ 7 ∧ d0 ≠ 8)
    (HP : ∀ (W : World) (v_ : Value), StkP W base g v_ a b c l → Calls Try.prog 21 #[.pointer (some ⟨g, 0, none⟩)] W (Upd W base g v_ (.returned (.tuple #[])) a' b' c' l')) (HQ : ∀ (W : World) (v_ : Value), StkX W base gx v_ a b c l → Calls Try.prog 62 #[.pointer (some ⟨gx, 0, none⟩)] W (UpdX W base gx v_ (.returned (.tuple #[])) a' b' c' l')) :
    Calls Try.prog 24 #[.pointer (some ⟨g, 0, none⟩), .pointer (some ⟨gx, 0, none⟩), .agg #[.int .i64 (d0), .int .i64 d1, .bool d2, .int .i64 d3]] w (DoPost w base g gx a' b' c' l') := by
  have HS0 := Aside0.mk h
  have HX0 := Aside0.mk hX
  have HPA := Aside0.mk HP
  have HQA := Aside0.mk HQ
  have HSZ := Aside0.mk (show base ≤ w.heap.size by have := stk_lt h; have := h.2.2; omega)
  clear h hX HP HQ
  obtain ⟨n0_, n1_, n2_, n3_, n4_, n5_, n6_, n7_, n8_⟩ := hk
  have e0 := beq_eq_false_iff_ne.mpr n0_
  have e1 := beq_eq_false_iff_ne.mpr n1_
  have e2 := beq_eq_false_iff_ne.mpr n2_
  have e3 := beq_eq_false_iff_ne.mpr n3_
  have e4 := beq_eq_false_iff_ne.mpr n4_
  have e5 := beq_eq_false_iff_ne.mpr n5_
  have e6 := beq_eq_false_iff_ne.mpr n6_
  have e7 := beq_eq_false_iff_ne.mpr n7_
  have e8 := beq_eq_false_iff_ne.mpr n8_
  clear n0_ n1_ n2_ n3_ n4_ n5_ n6_ n7_ n8_
  go_enter Try.func24, Try.ntmps24
  go_wp2_with (first | ((with_reducible refine gate_dst (N := 5) rfl ?_); refine box_event ?hg (N := 5) ?hd (cs := #[.int .i64 d0, .int .i64 d1, .bool d2, .int .i64 d3]) (t := 26) ?hr ?_; (case hd => rfl); (case hg => rfl); (case hr => first | (go_simp; done) | (go_simp; rfl)); intro g5 hg w1 hbox hb; have BX := Aside0.mk hbox; have HB := Aside0.mk (show Below base w w1 from below_weaken0 HSZ.out hb); have HS := Aside0.mk (show StkP w1 base g v a b c l from stk_below HS0.out hb); have HX := Aside0.mk (show StkX w1 base gx vx a b c l from stk_below HX0.out hb); have HF := Aside0.mk (show ∀ (b_ : Nat) (t_ : TypeId) (cs_ : Array Value), w.heap[b_]? = some (.cells cs_ t_ (0, 0)) → w1.heap[b_]? = some (.cells cs_ t_ (0, 0)) from fun b_ t_ cs_ hb_ => blk_below hb_ hb); have hx0 := (blk_cell BX.out 0).trans rfl; have hx2 := (blk_cell BX.out 2).trans rfl; have hx3 := (blk_cell BX.out 3).trans rfl; clear hg hbox hb) | (go_at_call 21; (with_reducible refine (HPA.out _ _ HS.out).mono ?_); rintro e w5 ⟨v5, rfl, hS, hM⟩; have HS5 := Aside0.mk (show StkP w5 base g v5 a' b' c' l' from hS); have HX5 := Aside0.mk (show StkX w5 base gx vx a b c l from stk_other HX.out HS.out hM (by decide) (by decide) (by decide) (by decide)); have BX5 := Aside0.mk (hM.blk HS.out BX.out (by decide) (by decide)); have HB5 := Aside0.mk (HB.out.trans (hM.below HS.out)); have HF5 := Aside0.mk (fun (b_ : Nat) (t_ : TypeId) (cs_ : Array Value) hb_ (n1 : t_ ≠ 52) (n2 : t_ ≠ 28) => hM.blk HS.out (HF.out b_ t_ cs_ hb_) n1 n2); clear hS hM) | (go_at_call 62; (with_reducible refine (HQA.out _ _ HX5.out).mono ?_); rintro e w6 ⟨v6, rfl, hS, hM⟩; have HX6 := Aside0.mk (show StkX w6 base gx v6 a' b' c' l' from hS); have HS6 := Aside0.mk (show StkP w6 base g v5 a' b' c' l' from stk_other HS5.out HX5.out hM (by decide) (by decide) (by decide) (by decide)); have BX6 := Aside0.mk (hM.blk HX5.out BX5.out (by decide) (by decide)); have HB6 := Aside0.mk (HB5.out.trans (hM.below HX5.out)); have HF6 := Aside0.mk (fun (b_ : Nat) (t_ : TypeId) (cs_ : Array Value) hb_ (n1 : t_ ≠ 52) (n2 : t_ ≠ 28) (n3 : t_ ≠ 45) (n4 : t_ ≠ 41) => hM.blk HX5.out (HF5.out b_ t_ cs_ hb_ n1 n2) n3 n4); clear hS hM))
  go_ret
  unfold DoPost
  exact ⟨v5, v6, by first | rfl | simp [*], HS6.out, HX6.out, HB6.out, HF6.out⟩
set_option maxHeartbeats 8000000 in
set_option maxRecDepth 100000 in
theorem p_same (x0 x1 : Int) (x2 : Bool) (w : World) : Calls Try.prog 26 #[.agg #[.int .i64 x0, .int .i64 x1, .bool x2], .agg #[.int .i64 x0, .int .i64 x1, .bool x2]] w fun e w' => e = .returned (.bool true) ∧ Below w.heap.size w w' := by
  go_enter Try.func26, Try.ntmps26
  go_wp2_with (first | ((with_reducible refine gate_dst (N := 2) rfl ?_); refine box_event ?hg (N := 2) ?hd (cs := #[.int .i64 x0, .int .i64 x1, .bool x2]) (t := 28) ?hr ?_; (case hd => rfl); (case hg => rfl); (case hr => first | (go_simp; done) | (go_simp; rfl)); intro g2 hg w1 hbox hb; have BX := Aside0.mk hbox; have HB1 := Aside0.mk hb; clear hg hbox hb) | ((with_reducible refine gate_dst (N := 3) rfl ?_); refine box_event ?hg (N := 3) ?hd (cs := #[.int .i64 x0, .int .i64 x1, .bool x2]) (t := 41) ?hr ?_; (case hd => rfl); (case hg => rfl); (case hr => first | (go_simp; done) | (go_simp; rfl)); intro g3 hg w2 hbox hb; have BX2 := Aside0.mk (blk_below BX.out hb); have BX3 := Aside0.mk hbox; have HB2 := Aside0.mk (below_step HB1.out hb); have hc0 := (blk_cell BX2.out 0).trans rfl; have hc1 := (blk_cell BX2.out 1).trans rfl; have hc2 := (blk_cell BX2.out 2).trans rfl; have hd0 := (blk_cell BX3.out 0).trans rfl; have hd1 := (blk_cell BX3.out 1).trans rfl; have hd2 := (blk_cell BX3.out 2).trans rfl; clear hg hbox hb))
  go_ret
  exact ⟨by first | rfl | simp [*], HB2.out⟩
end Go.Proofs.Ytimkacnkmoofdaa.Stk
