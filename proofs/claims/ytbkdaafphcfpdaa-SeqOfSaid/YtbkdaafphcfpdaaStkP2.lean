import Derived.Test.YtbkdaafphcfpdaaStkP1
namespace Go.Proofs.Ytbkdaafphcfpdaa.Stk
open Go.RowKit Go.Proofs.YtbkdaafphcfpdaaW.PrintWords Go.Proofs.YtbkdaafphcfpdaaW.PrintLast Go.Proofs.YtbkdaafphcfpdaaW.PrintMore
attribute [local go_sem] max2_int min2_int max_two min_two max_three min_three max_four min_four   -- for this text's walks alone
set_option linter.unusedVariables false
set_option linter.unusedSimpArgs false
def nextL (right : Bool) (v : Int) : Int := if right = true then v + 1 + v % 2 else v + 2 - v % 2
def Upd (w : World) (base g : Nat) (v : Value) (r : Ending) (a b c : Int) (l : List Ent) (e : Ending) (w' : World) : Prop := ∃ v', e = r ∧ StkP w' base g v' a b c l ∧ Mv w w' g v v'
set_option maxHeartbeats 8000000 in
set_option maxRecDepth 100000 in
theorem p_next {w : World} {base g : Nat} {v : Value} {a b c : Int} {l : List Ent} (h : StkP w base g v a b c l) (hl : 0 < l.length) (hm : l.length ≤ 35184372088832) (h0 : 0 ≤ (topE l).lv) (h1 : (topE l).lv ≤ 1000) (right : Bool) :
    Calls Try.prog 80 #[.pointer (some ⟨g, 0, none⟩), .bool right] w fun e w' => e = .returned (.int .i64 (nextL right (topE l).lv)) ∧ Below w.heap.size w w' := by
  have hk := Try.underlying87
  have he := Try.underlying82
  have HT := p_top h hl hm
  generalize (topE l).lv = v0 at HT h0 h1 ⊢
  generalize (topE l).ov = x1 at HT
  generalize (topE l).iso = x2 at HT
  have HTA := Aside0.mk HT
  have H0 := Aside0.mk h0
  have H1 := Aside0.mk h1
  have HR := Aside0.mk (show Int.tmod v0 2 = v0 % 2 from Int.tmod_eq_emod_of_nonneg h0)
  have hfl : ∀ W : World, (Instr.field 82 (.agg #[.int .i64 v0, .int .i64 x1, .bool x2]) 0).run Try.prog W = .ok (.int .i64 v0) W := fun W => by kernel_rfl
  clear HT hl hm h0 h1 h
  unfold nextL
  cases right with
  | true =>
    go_enter Try.func80, Try.ntmps80
    go_wp2_with (first | (go_at_call 72; (with_reducible refine (HTA.out).mono ?_); rintro e w2 ⟨rfl, hb2⟩; have HB := Aside0.mk hb2; clear hb2))
    go_ret
    refine ⟨congrArg (fun q => Ending.returned (Value.int .i64 q)) ?_, HB.out⟩
    have := H0.out
    have := H1.out
    (try rw [if_pos rfl])
    (try rw [HR.out])
    (try unfold wrap64)
    omega
  | false =>
    go_enter Try.func80, Try.ntmps80
    go_wp2_with (first | (go_at_call 72; (with_reducible refine (HTA.out).mono ?_); rintro e w2 ⟨rfl, hb2⟩; have HB := Aside0.mk hb2; clear hb2))
    go_ret
    refine ⟨congrArg (fun q => Ending.returned (Value.int .i64 q)) ?_, HB.out⟩
    have := H0.out
    have := H1.out
    (try rw [if_neg (by simp)])
    (try rw [HR.out])
    (try unfold wrap64)
    omega
set_option maxHeartbeats 8000000 in
set_option maxRecDepth 100000 in
theorem p_full {w : World} {base g : Nat} {v : Value} {a b c : Int} {l : List Ent} (h : StkP w base g v a b c l) (x : Bool) (hx : (decide (0 < a) || decide (0 < b)) = x) :
    Calls Try.prog 81 #[.pointer (some ⟨g, 0, none⟩)] w fun e w' => e = .returned (.bool x) ∧ w = w' := by
  have hk2 := Try.underlying85
  have hc0 := (blk_cell h.1 0).trans rfl
  have hc1 := (blk_cell h.1 1).trans rfl
  clear h
  by_cases ha : 0 < a
  · have d0 : decide (0 < a) = true := decide_eq_true ha
    have hx2 : x = true := by rw [← hx, d0]; rfl
    subst hx2
    clear hx
    go_enter Try.func81, Try.ntmps81
    go_wp2
    go_ret
    exact ⟨by first | rfl | simp [*], rfl⟩
  · have d0 : decide (0 < a) = false := decide_eq_false ha
    have hx2 : decide (0 < b) = x := by rw [← hx, d0]; rfl
    clear hx ha
    go_enter Try.func81, Try.ntmps81
    go_wp2
    go_ret
    exact ⟨by first | rfl | simp [*], rfl⟩
set_option maxHeartbeats 8000000 in
set_option maxRecDepth 100000 in
theorem p_pop {w : World} {base g : Nat} {v : Value} {a b c : Int} {l : List Ent} (h : StkP w base g v a b c l) (hl : 0 < l.length) (hm : l.length ≤ 35184372088832) :
    Calls Try.prog 73 #[.pointer (some ⟨g, 0, none⟩)] w (Upd w base g v (.returned (.bool (decide (2 ≤ l.length)))) a b c (if 2 ≤ l.length then l.take (l.length - 1) else l)) := by
  unfold Upd
  have hk := Try.underlying87
  have HL := Aside0.mk (p_len h hl)
  have HS := Aside0.mk h
  obtain ⟨i28, hi28, _⟩ := Option.map_eq_some_iff.1 infoE
  by_cases h2 : 2 ≤ l.length
  · rw [if_pos h2]
    obtain ⟨A, cap, rfl, hcap, hC⟩ := stk_slice h
    obtain ⟨q, hq⟩ : ∃ q, l.length = q + 1 := ⟨l.length - 1, by omega⟩
    have hcut := cut_to (P := Try.prog) 83 82 .i64 Try.underlying83 hi28 A (q + 1) cap (q : Int) (by omega) (by omega) (by omega)
    rw [Int.toNat_natCast] at hcut
    have HT := Aside0.mk (Kd.R_take (m := q) h.2.1 (by omega))
    have b0 : decide ((q : Int) + 1 < 2) = false := decide_eq_false (by omega)
    have b0' : decide (((q + 1 : Nat) : Int) < 2) = false := decide_eq_false (by omega)
    have b1 : decide (2 ≤ q + 1) = true := decide_eq_true (by omega)
    have b3 : 1 ≤ q := by omega
    have b2 : decide (q + 1 < 2) = false := decide_eq_false (by omega)
    have HW2 := Aside0.mk (show IntKind.i64.wrap (q : Int) = (q : Int) from (i64_w _).trans (by unfold wrap64; omega))
    rw [hq] at HL HS ⊢
    clear hcap hm hl h2 hq hi28 hC h
    go_enter Try.func73, Try.ntmps73
    go_wp2_with (first | (go_at_call 79; (with_reducible refine (HL.out).mono ?_); rintro e w2 ⟨rfl, rfl⟩))
    have HSD := Aside0.mk (stk_drew HS.out)
    have HTD := Aside0.mk (Kd.R_drew HT.out)
    have HMV := Aside0.mk (Mv.of_below (below_drew (Below.refl w.heap.size w)) g (.slice A (q + 1) cap))
    clear HL
    refine start_ (n := 15) (S := fun w' => w'.cell? ⟨g, 3, none⟩ = some (.slice A (q + 1) cap)) (ds := [14]) #[false, false, false, false, false, false, false, false, false, false, false, false, false, false, false] (by kernel_rfl) rfl rfl ((blk_cell HSD.out.1 3).trans rfl) (fun hHeld => ?_)
    generalize w.drew = w3 at HSD HTD HMV hHeld ⊢
    refine pure_ (i := 0) (N := some 6) (v := ?_) (a' := ?_) #[true, false, false, false, false, false, false, false, false, false, false, false, false, false, false] rfl rfl (by kernel_rfl) (fun _ _ _ h => h) (Or.inl ⟨by rfl, ?_⟩) ?_ ?_
    rotate_left
    · intro w'
      go_simp
      with_reducible rfl
    rotate_left
    · simp only [Act.put, List.setIfInBounds_toArray, List.set_cons_zero, List.set_cons_succ, i64_w, i32_w]
      rfl
    refine pure_ (i := 1) (N := some 7) (v := ?_) (a' := ?_) #[true, true, false, false, false, false, false, false, false, false, false, false, false, false, false] rfl rfl (by kernel_rfl) (fun _ _ _ h => h) (Or.inl ⟨by rfl, ?_⟩) ?_ ?_
    rotate_left
    · intro w'
      go_simp
      with_reducible rfl
    rotate_left
    · simp only [Act.put, List.setIfInBounds_toArray, List.set_cons_zero, List.set_cons_succ, i64_w, i32_w]
      rfl
    refine pure_ (i := 2) (N := some 8) (v := ?_) (a' := ?_) #[true, true, true, false, false, false, false, false, false, false, false, false, false, false, false] rfl rfl (by kernel_rfl) (fun _ _ _ h => h) (Or.inl ⟨by rfl, ?_⟩) ?_ ?_
    rotate_left
    · intro w'
      go_simp
      with_reducible rfl
    rotate_left
    · simp only [Act.put, List.setIfInBounds_toArray, List.set_cons_zero, List.set_cons_succ, i64_w, i32_w]
      rfl
    refine pure_ (i := 3) (N := some 9) (v := ?_) (a' := ?_) #[true, true, true, true, false, false, false, false, false, false, false, false, false, false, false] rfl rfl (by kernel_rfl) (fun _ _ _ h => h) (Or.inl ⟨by rfl, ?_⟩) ?_ ?_
    rotate_left
    · intro w'
      go_simp
      with_reducible rfl
    rotate_left
    · simp only [Act.put, List.setIfInBounds_toArray, List.set_cons_zero, List.set_cons_succ, i64_w, i32_w]
      rfl
    refine take_ (i := 4) (N := some 10) (v := ?_) (a' := ?_) #[true, true, true, true, true, false, false, false, false, false, false, false, false, false, false] rfl rfl (by kernel_rfl) (fun _ _ _ h => h) (Or.inl ⟨by rfl, ?_⟩) hHeld ?_ ?_
    rotate_left
    · rintro w' s0
      go_simp
      with_reducible rfl
    rotate_left
    · simp only [Act.put, List.setIfInBounds_toArray, List.set_cons_zero, List.set_cons_succ, i64_w, i32_w]
      rfl
    refine pure_ (i := 5) (N := some 11) (v := ?_) (a' := ?_) #[true, true, true, true, true, true, false, false, false, false, false, false, false, false, false] rfl rfl (by kernel_rfl) (fun _ _ _ h => h) (Or.inl ⟨by rfl, ?_⟩) ?_ ?_
    rotate_left
    · intro w'
      go_simp
      with_reducible rfl
    rotate_left
    · simp only [Act.put, List.setIfInBounds_toArray, List.set_cons_zero, List.set_cons_succ, i64_w, i32_w]
      rfl
    refine pure_ (i := 6) (N := some 12) (v := ?_) (a' := ?_) #[true, true, true, true, true, true, true, false, false, false, false, false, false, false, false] rfl rfl (by kernel_rfl) (fun _ _ _ h => h) (Or.inl ⟨by rfl, ?_⟩) ?_ ?_
    rotate_left
    · intro w'
      go_simp
      with_reducible rfl
    rotate_left
    · simp only [Act.put, List.setIfInBounds_toArray, List.set_cons_zero, List.set_cons_succ, i64_w, i32_w]
      rfl
    refine pure_ (i := 7) (N := some 13) (v := ?_) (a' := ?_) #[true, true, true, true, true, true, true, true, false, false, false, false, false, false, false] rfl rfl (by kernel_rfl) (fun _ _ _ h => h) (Or.inl ⟨by rfl, ?_⟩) ?_ ?_
    rotate_left
    · intro w'
      go_simp
      with_reducible rfl
    rotate_left
    · simp only [Act.put, List.setIfInBounds_toArray, List.set_cons_zero, List.set_cons_succ, i64_w, i32_w]
      rfl
    refine take_ (i := 8) (N := some 14) (v := ?_) (a' := ?_) #[true, true, true, true, true, true, true, true, true, false, false, false, false, false, false] rfl rfl (by kernel_rfl) (fun _ _ _ h => h) (Or.inl ⟨by rfl, ?_⟩) hHeld ?_ ?_
    rotate_left
    · rintro w' s0
      go_simp
      with_reducible rfl
    rotate_left
    · simp only [Act.put, List.setIfInBounds_toArray, List.set_cons_zero, List.set_cons_succ, i64_w, i32_w]
      rfl
    refine pure_ (i := 9) (N := some 15) (v := ?_) (a' := ?_) #[true, true, true, true, true, true, true, true, true, true, false, false, false, false, false] rfl rfl (by kernel_rfl) (fun _ _ _ h => h) (Or.inl ⟨by rfl, ?_⟩) ?_ ?_
    rotate_left
    · intro w'
      go_simp
      with_reducible rfl
    rotate_left
    · simp only [Act.put, List.setIfInBounds_toArray, List.set_cons_zero, List.set_cons_succ, i64_w, i32_w]
      rfl
    refine pure_ (i := 10) (N := some 16) (v := .int .i64 (q : Int)) (a' := ?_) #[true, true, true, true, true, true, true, true, true, true, true, false, false, false, false] rfl rfl (by kernel_rfl) (fun _ _ _ h => h) (Or.inl ⟨by rfl, ?_⟩) ?_ ?_
    · intro w'
      go_simp
      first | (with_reducible rfl) | exact HW2.out | (rw [HW2.out]; done)
    rotate_left
    · simp only [Act.put, List.setIfInBounds_toArray, List.set_cons_zero, List.set_cons_succ, i64_w, i32_w]
      rfl
    refine pure_ (i := 11) (N := some 17) (v := .slice A q cap) (a' := ?_) #[true, true, true, true, true, true, true, true, true, true, true, true, false, false, false] rfl rfl (by kernel_rfl) (fun _ _ _ h => h) (Or.inl ⟨by rfl, ?_⟩) ?_ ?_
    · intro w'
      go_simp
      first | done | (with_reducible rfl) | rfl | (rw [hcut]; rfl) | (simp only [hcut]; rfl)
    rotate_left
    · simp only [Act.put, List.setIfInBounds_toArray, List.set_cons_zero, List.set_cons_succ, i64_w, i32_w]
      rfl
    refine pure_ (i := 12) (N := some 18) (v := ?_) (a' := ?_) #[true, true, true, true, true, true, true, true, true, true, true, true, true, false, false] rfl rfl (by kernel_rfl) (fun _ _ _ h => h) (Or.inl ⟨by rfl, ?_⟩) ?_ ?_
    rotate_left
    · intro w'
      go_simp
      with_reducible rfl
    rotate_left
    · simp only [Act.put, List.setIfInBounds_toArray, List.set_cons_zero, List.set_cons_succ, i64_w, i32_w]
      rfl
    refine pure_ (i := 13) (N := some 19) (v := ?_) (a' := ?_) #[true, true, true, true, true, true, true, true, true, true, true, true, true, true, false] rfl rfl (by kernel_rfl) (fun _ _ _ h => h) (Or.inl ⟨by rfl, ?_⟩) ?_ ?_
    rotate_left
    · intro w'
      go_simp
      with_reducible rfl
    rotate_left
    · simp only [Act.put, List.setIfInBounds_toArray, List.set_cons_zero, List.set_cons_succ, i64_w, i32_w]
      rfl
    refine last_ (i := 14) (N := none) #[true, true, true, true, true, true, true, true, true, true, true, true, true, true, true] rfl rfl (by kernel_rfl) (by decide) (fun K hK => ?_)
    have hs := (blk_cell HSD.out.1 3).trans rfl
    have hf := blk_frozen HSD.out.1 3
    refine skip_ (w1 := w3.setCell ⟨g, 3, none⟩ (.slice A q cap)) (by rfl) rfl ?_ ?_
    · first | (go_simp; done) | (go_simp; rfl)
    refine hK.out _ _ ?_
    clear hK K hs hf
    refine done_ (by kernel_rfl) ?_
    go_wp2
    go_ret
    refine ⟨.slice A q cap, by first | rfl | simp [*], ?_, (HMV.out.set 3 _).as (own_same _ _ _ _ _)⟩
    rw [Nat.add_sub_cancel]
    exact stk_put HSD.out.1 HTD.out HSD.out.2.2 3 rfl
  · rw [if_neg h2]
    have b0 : decide ((l.length : Int) < 2) = true := decide_eq_true (by omega)
    have b1 : decide (2 ≤ l.length) = false := decide_eq_false h2
    have b2 : decide (l.length < 2) = true := decide_eq_true (by omega)
    clear h2 hi28 hm hl h
    have HP := Aside0.mk (show ∃ v', StkP w base g v' a b c l ∧ Mv w w g v v' from ⟨v, HS.out, Mv.refl _ _ _⟩)
    clear HS
    generalize l.length = n at *
    go_enter Try.func73, Try.ntmps73
    go_wp2_with (first | (go_at_call 79; (with_reducible refine (HL.out).mono ?_); rintro e w2 ⟨rfl, rfl⟩))
    go_ret
    obtain ⟨v', p1, p2⟩ := HP.out
    exact ⟨v', by first | rfl | simp [*], p1, p2⟩
end Go.Proofs.Ytbkdaafphcfpdaa.Stk
