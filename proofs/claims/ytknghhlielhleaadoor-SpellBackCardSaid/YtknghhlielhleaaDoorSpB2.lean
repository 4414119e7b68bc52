import Derived.Test.YtknghhlielhleaaDoorSpB1
import Derived.Test.YtknghhlielhleaaDoorSpR2
import Derived.Test.YtknghhlielhleaaDoorPSpellBackx2
namespace Go.Proofs.YtknghhlielhleaaDoor.Stk
open Go.RowKit Go.Proofs.YtknghhlielhleaaDoorW.PrintWords Go.Proofs.YtknghhlielhleaaDoorW.PrintLast Go.Proofs.YtknghhlielhleaaDoorW.PrintMore
attribute [local go_sem] max2_int min2_int max_two min_two max_three min_three max_four min_four   -- for this text's walks alone
set_option linter.unusedVariables false
set_option linter.unusedSimpArgs false
open Go.Proofs.YtknghhlielhleaaDoor.PSpellBack
theorem u64_nn (x : Int) : 0 ≤ IntKind.u64.wrap x := by
  simp [IntKind.wrap, IntKind.min, IntKind.max, IntKind.signed, IntKind.bits]; omega
theorem held_f (a m : Int) (h : m = 3 ∨ m = 4) : ∃ d, naskhplain_held.f a m = some d ∧ 0 ≤ d ∧ d < m + 1 := by
  have h0 := u64_nn a
  rcases h with rfl | rfl
  · have hu : IntKind.u64.wrap (wrap64 (3 + 1)) = 4 := by decide +kernel
    unfold naskhplain_held.f
    rw [hu, if_neg (by omega), Int.tmod_eq_emod_of_nonneg h0, w64 (by omega) (by omega)]
    exact ⟨_, rfl, by omega, by omega⟩
  · have hu : IntKind.u64.wrap (wrap64 (4 + 1)) = 5 := by decide +kernel
    unfold naskhplain_held.f
    rw [hu, if_neg (by omega), Int.tmod_eq_emod_of_nonneg h0, w64 (by omega) (by omega)]
    exact ⟨_, rfl, by omega, by omega⟩
def Good (d0 d1 d2 d3 : Int) (e5 e6 e7 e8 e9 e10 e11 : Bool) : Prop := ((0 ≤ d0 ∧ d0 < 4) ∧ (0 ≤ d1 ∧ d1 < 5) ∧ (0 ≤ d2 ∧ d2 < 5) ∧ (0 ≤ d3 ∧ d3 < 5)) ∧ cl (d1 == 0) (d2 == 0) (d2 == 3) (d2 == 4) e5 e6 e7 e8 e9 e10 e11 = false
theorem j2_f (g : Bool) (d0 d1 d2 d3 : Int) (e4 e5 e6 e7 e8 e9 e10 e11 e12 e13 : Bool) (k : Nat) (hd : (0 ≤ d0 ∧ d0 < 4) ∧ (0 ≤ d1 ∧ d1 < 5) ∧ (0 ≤ d2 ∧ d2 < 5) ∧ (0 ≤ d3 ∧ d3 < 5)) (h1 : ((!(d1 == 0) || !(d2 == 0) || e7 || e8 || e9) && !e5) = false) (h2 : (e6 && (d1 == 0)) = false) (h3 : g = ((d2 == 3) || (d2 == 4))) :
    ∃ f7 f11, naskhplain_Right.j2 (k + 1) g d0 d1 d2 d3 e4 e5 e6 e7 e8 e9 e10 e11 e12 e13 = some (d0, d1, d2, d3, e4, e5, e6, f7, e8, e9, e10, f11, e12, e13) ∧ Good d0 d1 d2 d3 e5 e6 f7 e8 e9 e10 f11 := by
  rw [naskhplain_Right.j2]
  unfold Good cl
  revert h1 h2
  rw [← h3]
  generalize (d1 == 0) = p
  generalize (d2 == 0) = q
  intro h1 h2
  cases g with
  | true =>
    rw [if_pos rfl]
    cases e10 with
    | true => rw [if_pos rfl]; exact ⟨false, e11, rfl, hd, by revert h1 h2; revert p q e5 e6 e7 e8 e9 e11; decide⟩
    | false => rw [if_neg (by simp)]; exact ⟨false, false, rfl, hd, by revert h1 h2; revert p q e5 e6 e7 e8 e9; decide⟩
  | false =>
    rw [if_neg (by simp)]
    cases e10 with
    | true => rw [if_pos rfl]; exact ⟨e7, e11, rfl, hd, by revert h1 h2; revert p q e5 e6 e7 e8 e9 e11; decide⟩
    | false => rw [if_neg (by simp)]; exact ⟨e7, false, rfl, hd, by revert h1 h2; revert p q e5 e6 e7 e8 e9; decide⟩
theorem j1_f (d0 d1 d2 d3 : Int) (e4 e5 e6 e7 e8 e9 e10 e11 e12 e13 : Bool) (k : Nat) (hd : (0 ≤ d0 ∧ d0 < 4) ∧ (0 ≤ d1 ∧ d1 < 5) ∧ (0 ≤ d2 ∧ d2 < 5) ∧ (0 ≤ d3 ∧ d3 < 5)) (h1 : ((!(d1 == 0) || !(d2 == 0) || e7 || e8 || e9) && !e5) = false) (h2 : (e6 && (d1 == 0)) = false) :
    ∃ f7 f11, naskhplain_Right.j1 (k + 2) d0 d1 d2 d3 e4 e5 e6 e7 e8 e9 e10 e11 e12 e13 = some (d0, d1, d2, d3, e4, e5, e6, f7, e8, e9, e10, f11, e12, e13) ∧ Good d0 d1 d2 d3 e5 e6 f7 e8 e9 e10 f11 := by
  rw [naskhplain_Right.j1]
  by_cases h : d2 = 3
  · rw [if_pos h]; exact j2_f true d0 d1 d2 d3 e4 e5 e6 e7 e8 e9 e10 e11 e12 e13 k hd h1 h2 (by rw [h]; rfl)
  · rw [if_neg h]; exact j2_f _ d0 d1 d2 d3 e4 e5 e6 e7 e8 e9 e10 e11 e12 e13 k hd h1 h2 (by rw [show (d2 == 3) = false from beq_eq_false_iff_ne.mpr h, Bool.false_or])
theorem j0_f (d0 d1 d2 d3 : Int) (e4 e5 e6 e7 e8 e9 e10 e11 e12 e13 : Bool) (k : Nat) (hd : (0 ≤ d0 ∧ d0 < 4) ∧ (0 ≤ d1 ∧ d1 < 5) ∧ (0 ≤ d2 ∧ d2 < 5) ∧ (0 ≤ d3 ∧ d3 < 5)) (h1 : ((!(d1 == 0) || !(d2 == 0) || e7 || e8 || e9) && !e5) = false) :
    ∃ f6 f7 f11, naskhplain_Right.j0 (k + 3) d0 d1 d2 d3 e4 e5 e6 e7 e8 e9 e10 e11 e12 e13 = some (d0, d1, d2, d3, e4, e5, f6, f7, e8, e9, e10, f11, e12, e13) ∧ Good d0 d1 d2 d3 e5 f6 f7 e8 e9 e10 f11 := by
  rw [naskhplain_Right.j0]
  by_cases h : d1 = 0
  · rw [if_pos h]
    obtain ⟨f7, f11, h3, h4⟩ := j1_f d0 d1 d2 d3 e4 e5 false e7 e8 e9 e10 e11 e12 e13 k hd h1 rfl
    exact ⟨false, f7, f11, h3, h4⟩
  · rw [if_neg h]
    obtain ⟨f7, f11, h3, h4⟩ := j1_f d0 d1 d2 d3 e4 e5 e6 e7 e8 e9 e10 e11 e12 e13 k hd h1 (by rw [show (d1 == 0) = false from beq_eq_false_iff_ne.mpr h, Bool.and_false])
    exact ⟨e6, f7, f11, h3, h4⟩
theorem right_f (a0 a1 a2 a3 : Int) (b4 b5 b6 b7 b8 b9 b10 b11 b12 b13 : Bool) (k : Nat) : ∃ (d0 d1 d2 d3 : Int) (e4 e5 e6 e7 e8 e9 e10 e11 e12 e13 : Bool), naskhplain_Right.f (k + 3) a0 a1 a2 a3 b4 b5 b6 b7 b8 b9 b10 b11 b12 b13 = some (d0, d1, d2, d3, e4, e5, e6, e7, e8, e9, e10, e11, e12, e13) ∧ Good d0 d1 d2 d3 e5 e6 e7 e8 e9 e10 e11 := by
  obtain ⟨x0, h0, p0⟩ := held_f a0 3 (Or.inl rfl)
  obtain ⟨x1, h1, p1⟩ := held_f a1 4 (Or.inr rfl)
  obtain ⟨x2, h2, p2⟩ := held_f a2 4 (Or.inr rfl)
  obtain ⟨x3, h3, p3⟩ := held_f a3 4 (Or.inr rfl)
  unfold naskhplain_Right.f
  rw [h0, Option.bind_some, h1, Option.bind_some, h2, Option.bind_some, h3, Option.bind_some]
  by_cases hb : b5 = true
  · rw [if_pos hb]
    obtain ⟨f6, f7, f11, h4, h5⟩ := j0_f x0 x1 x2 x3 b4 b5 b6 b7 b8 b9 b10 b11 b12 b13 k ⟨⟨p0.1, by omega⟩, ⟨p1.1, by omega⟩, ⟨p2.1, by omega⟩, ⟨p3.1, by omega⟩⟩ (by rw [hb]; simp)
    exact ⟨_, _, _, _, _, _, _, _, _, _, _, _, _, _, h4, h5⟩
  · rw [if_neg hb]
    obtain ⟨f6, f7, f11, h4, h5⟩ := j0_f x0 0 0 x3 b4 b5 b6 false false false b10 b11 b12 b13 k ⟨⟨p0.1, by omega⟩, ⟨by omega, by omega⟩, ⟨by omega, by omega⟩, ⟨p3.1, by omega⟩⟩ (by simp)
    exact ⟨_, _, _, _, _, _, _, _, _, _, _, _, _, _, h4, h5⟩
theorem b1 (b : Bool) : ((if b = true then (1 : Int) else 0) == 1) = b := by cases b <;> rfl
theorem right_at (v : Nat → Int) : ∃ v' : Nat → Int, chkF v' = 0 ∧ ∀ w, Calls Tryd.prog 12 #[.agg (ovc v)] w fun e w' => e = .returned (.agg (ovc v')) ∧ Below w.heap.size w w' := by
  obtain ⟨d0, d1, d2, d3, e4, e5, e6, e7, e8, e9, e10, e11, e12, e13, hf, hg⟩ := right_f (v 0) (v 1) (v 2) (v 3) (v 4 == 1) (v 5 == 1) (v 6 == 1) (v 7 == 1) (v 8 == 1) (v 9 == 1) (v 10 == 1) (v 11 == 1) (v 12 == 1) (v 13 == 1) 0
  refine ⟨fun i => ([d0, d1, d2, d3, if e4 = true then 1 else 0, if e5 = true then 1 else 0, if e6 = true then 1 else 0, if e7 = true then 1 else 0, if e8 = true then 1 else 0, if e9 = true then 1 else 0, if e10 = true then 1 else 0, if e11 = true then 1 else 0, if e12 = true then 1 else 0, if e13 = true then 1 else 0] : List Int).getD i 0, ?_, fun w => ?_⟩
  · show (if (0 ≤ d0 ∧ d0 < 4) ∧ (0 ≤ d1 ∧ d1 < 5) ∧ (0 ≤ d2 ∧ d2 < 5) ∧ (0 ≤ d3 ∧ d3 < 5) then (if cl (d1 == 0) (d2 == 0) (d2 == 3) (d2 == 4) ((if e5 = true then (1 : Int) else 0) == 1) ((if e6 = true then (1 : Int) else 0) == 1) ((if e7 = true then (1 : Int) else 0) == 1) ((if e8 = true then (1 : Int) else 0) == 1) ((if e9 = true then (1 : Int) else 0) == 1) ((if e10 = true then (1 : Int) else 0) == 1) ((if e11 = true then (1 : Int) else 0) == 1) = true then (3 : Int) else 0) else 1) = 0
    rw [b1, b1, b1, b1, b1, b1, b1, if_pos hg.1, hg.2]
    rfl
  · refine (naskhplain_Right.calls 3 (v 0) (v 1) (v 2) (v 3) (v 4 == 1) (v 5 == 1) (v 6 == 1) (v 7 == 1) (v 8 == 1) (v 9 == 1) (v 10 == 1) (v 11 == 1) (v 12 == 1) (v 13 == 1) d0 d1 d2 d3 e4 e5 e6 e7 e8 e9 e10 e11 e12 e13 w hf).mono ?_
    rintro e w' ⟨rfl, hb⟩
    refine ⟨?_, hb⟩
    have e : ovc (fun i => ([d0, d1, d2, d3, if e4 = true then 1 else 0, if e5 = true then 1 else 0, if e6 = true then 1 else 0, if e7 = true then 1 else 0, if e8 = true then 1 else 0, if e9 = true then 1 else 0, if e10 = true then 1 else 0, if e11 = true then 1 else 0, if e12 = true then 1 else 0, if e13 = true then 1 else 0] : List Int).getD i 0) = #[.int .i64 d0, .int .i64 d1, .int .i64 d2, .int .i64 d3, .bool e4, .bool e5, .bool e6, .bool e7, .bool e8, .bool e9, .bool e10, .bool e11, .bool e12, .bool e13] := by
      show (#[.int .i64 d0, .int .i64 d1, .int .i64 d2, .int .i64 d3, .bool ((if e4 = true then (1 : Int) else 0) == 1), .bool ((if e5 = true then (1 : Int) else 0) == 1), .bool ((if e6 = true then (1 : Int) else 0) == 1), .bool ((if e7 = true then (1 : Int) else 0) == 1), .bool ((if e8 = true then (1 : Int) else 0) == 1), .bool ((if e9 = true then (1 : Int) else 0) == 1), .bool ((if e10 = true then (1 : Int) else 0) == 1), .bool ((if e11 = true then (1 : Int) else 0) == 1), .bool ((if e12 = true then (1 : Int) else 0) == 1), .bool ((if e13 = true then (1 : Int) else 0) == 1)] : Array Value) = _
      rw [b1 e4, b1 e5, b1 e6, b1 e7, b1 e8, b1 e9, b1 e10, b1 e11, b1 e12, b1 e13]
    rw [e]
theorem eqZ (d : Nat) (w : World) : (Op.equalIn (d + 2) 24 (.agg (ovc fun _ => 0)) (.agg #[.int .i64 0, .int .i64 0, .int .i64 0, .int .i64 0, .bool false, .bool false, .bool false, .bool false, .bool false, .bool false, .bool false, .bool false, .bool false, .bool false])).run Tryd.prog w = .ok true w := eqTO d w (fun _ => 0)
attribute [local go_sem high] eqTO eqZ
set_option maxHeartbeats 8000000 in
set_option maxRecDepth 100000 in
theorem spellBack_walk (v : Nat → Int) (s : ByteArray) (w : World) : Calls Tryd.prog 5 #[.agg (ovc v), .string s] w fun e w' => e = .returned (.bool true) ∧ Below w.heap.size w w' := by
  have hu := Tryd.underlying24
  obtain ⟨v1, hv1, cr⟩ := right_at v
  have c1 : ∀ w, Calls Tryd.prog 13 #[.agg (ovc v1)] w fun e w' => e = .returned (.tuple #[.string (prS v1), .int .i64 0]) ∧ Below w.heap.size w w' := fun w => by have h := p_print v1 w; rw [hv1] at h; exact h
  have c2 : ∀ w, Calls Tryd.prog 8 #[.string (prS v1)] w fun e w' => e = .returned (.tuple #[.agg (ovc v1), .int .i64 0]) ∧ Below w.heap.size w w' := fun w => by have h := p_parse (prS v1) w; rw [(parse_back hv1).1, (parse_back hv1).2] at h; exact h
  generalize prS v1 = s1 at c1 c2
  clear hv1
  by_cases hl : 1000 < s.size
  · have b0 : decide ((s.size : Int) > 1000) = true := decide_eq_true (by omega)
    have b1 : decide (1000 < (s.size : Int)) = true := decide_eq_true (by omega)
    clear hl
    go_enter Tryd.func5, Tryd.ntmps5
    go_wp2_with (first | ((with_reducible refine gate_dst (N := 2) rfl ?_); go_loud (refine box_event ?hg (N := 2) ?hd (cs := ovc v) (t := 24) ?hr ?_; (case hd => rfl); (case hg => rfl); (case hr => first | (go_simp; done) | (go_simp; rfl)); intro o hg w1 hbox hb; have HO := Aside0.mk hbox; have HB1 := Aside0.mk hb; have HGO := Aside0.mk (show w.heap.size ≤ o by omega); clear hg hbox hb)) | ((with_reducible refine gate_dst (N := 15) rfl ?_); go_loud ((try (refine gate_guard (by rfl) ?_; dsimp only)); refine wpList_load_row rfl 24 _ rfl o rfl 24 (ovc v) (0, 0) _ HO.out Tryd.underlying24 rfl (size_ovc _) ?_)) | (go_at_call 12; (with_reducible refine (cr _).mono ?_); go_loud (rintro e w2 ⟨rfl, hb⟩; have HO2 := Aside0.mk (blk_below HO.out hb); have HB2 := Aside0.mk (below_step HB1.out hb); clear hb)) | ((with_reducible refine gate_store (t := 24) (p := 2) rfl ?_); go_loud (refine wp_store_cells rfl 24 _ _ rfl rfl o (ovc v1) rfl rfl 24 _ HO2.out (size_ovc _) rfl (ovc_one _) ?_; intro w3 hb3 hW3; have HO3 := Aside0.mk hb3; have HB3 := Aside0.mk (hW3.below HB2.out HGO.out); clear hb3 hW3)) | ((with_reducible refine gate_dst (N := 18) rfl ?_); go_loud ((try (refine gate_guard (by rfl) ?_; dsimp only)); refine wpList_load_row rfl 24 _ rfl o rfl 24 (ovc v1) (0, 0) _ HO3.out Tryd.underlying24 rfl (size_ovc _) ?_)) | (go_at_call 13; (with_reducible refine (c1 _).mono ?_); go_loud (rintro e w4 ⟨rfl, hb⟩; have HO4 := Aside0.mk (blk_below HO3.out hb); have HB4 := Aside0.mk (below_step HB3.out hb); clear hb)) | (go_at_call 8; (with_reducible refine (c2 _).mono ?_); go_loud (rintro e w5 ⟨rfl, hb⟩; have HO5 := Aside0.mk (blk_below HO4.out hb); have HB5 := Aside0.mk (below_step HB4.out hb); clear hb)) | ((with_reducible refine gate_dst (N := 7) rfl ?_); go_loud (refine wp_alloc_cells rfl 24 rfl _ infoTO ?_; intro g7 hg w6 hb6 hB6; have H7 := Aside0.mk hb6; have HO6 := Aside0.mk (blk_below HO5.out hB6); have HG7 := Aside0.mk (show w.heap.size ≤ g7 ∧ o ≠ g7 by have := HB5.out.size; have := blk_lt HO5.out; omega); have HB6 := Aside0.mk (below_step HB5.out hB6); clear hg hb6 hB6)) | ((with_reducible refine gate_store (t := 24) (p := 7) rfl ?_); go_loud (refine wp_store_cells rfl 24 _ _ rfl rfl g7 (ovc v1) rfl rfl 24 _ H7.out (size_ovc _) rfl (ovc_one _) ?_; intro w7 hb7 hW7; have H77 := Aside0.mk hb7; have HO7 := Aside0.mk (hW7.blk HO6.out HG7.out.2); have HB7 := Aside0.mk (hW7.below HB6.out HG7.out.1); clear hb7 hW7)) | ((with_reducible refine gate_dst (N := 34) rfl ?_); go_loud ((try (refine gate_guard (by rfl) ?_; dsimp only)); refine wpList_load_row rfl 24 _ rfl g7 rfl 24 (ovc v1) (0, 0) _ H77.out Tryd.underlying24 rfl (size_ovc _) ?_)) | ((with_reducible refine gate_dst (N := 35) rfl ?_); go_loud ((try (refine gate_guard (by rfl) ?_; dsimp only)); refine wpList_load_row rfl 24 _ rfl o rfl 24 (ovc v1) (0, 0) _ HO7.out Tryd.underlying24 rfl (size_ovc _) ?_)) | (go_at_call 7; (with_reducible refine (p_awake _).mono ?_); go_loud (rintro e wz ⟨rfl, hb⟩; have HBE := Aside0.mk (below_step HB7.out hb); clear hb)))
    go_ret
    exact ⟨rfl, HBE.out⟩
  · have b0 : decide ((s.size : Int) > 1000) = false := decide_eq_false (by omega)
    have b1 : decide (1000 < (s.size : Int)) = false := decide_eq_false (by omega)
    have c3 := p_parse s
    have hok := parse_ok s
    have hbad := parse_bad s
    generalize parseW s = pr at c3 hok hbad
    obtain ⟨g, q⟩ := pr
    clear hl
    by_cases hg : g = 0
    · subst hg
      have hq : chkF q = 0 := hok rfl
      have c4 : ∀ w, Calls Tryd.prog 13 #[.agg (ovc q)] w fun e w' => e = .returned (.tuple #[.string (prS q), .int .i64 0]) ∧ Below w.heap.size w w' := fun w => by have h := p_print q w; rw [hq] at h; exact h
      have c5 : ∀ w, Calls Tryd.prog 8 #[.string (prS q)] w fun e w' => e = .returned (.tuple #[.agg (ovc q), .int .i64 0]) ∧ Below w.heap.size w w' := fun w => by have h := p_parse (prS q) w; rw [(parse_back hq).1, (parse_back hq).2] at h; exact h
      have c6 : ∀ w, Calls Tryd.prog 14 #[.agg (ovc q)] w fun e w' => e = .returned (.int .i64 0) ∧ Below w.heap.size w w' := fun w => by have h := p_rcheck q w; rw [hq] at h; exact h
      generalize prS q = s2 at c4 c5
      clear hok hbad hq
      go_enter Tryd.func5, Tryd.ntmps5
      go_wp2_with (first | ((with_reducible refine gate_dst (N := 2) rfl ?_); go_loud (refine box_event ?hg (N := 2) ?hd (cs := ovc v) (t := 24) ?hr ?_; (case hd => rfl); (case hg => rfl); (case hr => first | (go_simp; done) | (go_simp; rfl)); intro o hg w1 hbox hb; have HO := Aside0.mk hbox; have HB1 := Aside0.mk hb; have HGO := Aside0.mk (show w.heap.size ≤ o by omega); clear hg hbox hb)) | ((with_reducible refine gate_dst (N := 15) rfl ?_); go_loud ((try (refine gate_guard (by rfl) ?_; dsimp only)); refine wpList_load_row rfl 24 _ rfl o rfl 24 (ovc v) (0, 0) _ HO.out Tryd.underlying24 rfl (size_ovc _) ?_)) | (go_at_call 12; (with_reducible refine (cr _).mono ?_); go_loud (rintro e w2 ⟨rfl, hb⟩; have HO2 := Aside0.mk (blk_below HO.out hb); have HB2 := Aside0.mk (below_step HB1.out hb); clear hb)) | ((with_reducible refine gate_store (t := 24) (p := 2) rfl ?_); go_loud (refine wp_store_cells rfl 24 _ _ rfl rfl o (ovc v1) rfl rfl 24 _ HO2.out (size_ovc _) rfl (ovc_one _) ?_; intro w3 hb3 hW3; have HO3 := Aside0.mk hb3; have HB3 := Aside0.mk (hW3.below HB2.out HGO.out); clear hb3 hW3)) | ((with_reducible refine gate_dst (N := 18) rfl ?_); go_loud ((try (refine gate_guard (by rfl) ?_; dsimp only)); refine wpList_load_row rfl 24 _ rfl o rfl 24 (ovc v1) (0, 0) _ HO3.out Tryd.underlying24 rfl (size_ovc _) ?_)) | (go_at_call 13; (with_reducible refine (c1 _).mono ?_); go_loud (rintro e w4 ⟨rfl, hb⟩; have HO4 := Aside0.mk (blk_below HO3.out hb); have HB4 := Aside0.mk (below_step HB3.out hb); clear hb)) | (go_at_call 8; (with_reducible refine (c2 _).mono ?_); go_loud (rintro e w5 ⟨rfl, hb⟩; have HO5 := Aside0.mk (blk_below HO4.out hb); have HB5 := Aside0.mk (below_step HB4.out hb); clear hb)) | ((with_reducible refine gate_dst (N := 7) rfl ?_); go_loud (refine wp_alloc_cells rfl 24 rfl _ infoTO ?_; intro g7 hg w6 hb6 hB6; have H7 := Aside0.mk hb6; have HO6 := Aside0.mk (blk_below HO5.out hB6); have HG7 := Aside0.mk (show w.heap.size ≤ g7 ∧ o ≠ g7 by have := HB5.out.size; have := blk_lt HO5.out; omega); have HB6 := Aside0.mk (below_step HB5.out hB6); clear hg hb6 hB6)) | ((with_reducible refine gate_store (t := 24) (p := 7) rfl ?_); go_loud (refine wp_store_cells rfl 24 _ _ rfl rfl g7 (ovc v1) rfl rfl 24 _ H7.out (size_ovc _) rfl (ovc_one _) ?_; intro w7 hb7 hW7; have H77 := Aside0.mk hb7; have HO7 := Aside0.mk (hW7.blk HO6.out HG7.out.2); have HB7 := Aside0.mk (hW7.below HB6.out HG7.out.1); clear hb7 hW7)) | ((with_reducible refine gate_dst (N := 34) rfl ?_); go_loud ((try (refine gate_guard (by rfl) ?_; dsimp only)); refine wpList_load_row rfl 24 _ rfl g7 rfl 24 (ovc v1) (0, 0) _ H77.out Tryd.underlying24 rfl (size_ovc _) ?_)) | ((with_reducible refine gate_dst (N := 35) rfl ?_); go_loud ((try (refine gate_guard (by rfl) ?_; dsimp only)); refine wpList_load_row rfl 24 _ rfl o rfl 24 (ovc v1) (0, 0) _ HO7.out Tryd.underlying24 rfl (size_ovc _) ?_)) | (go_at_call 8; (with_reducible refine (c3 _).mono ?_); go_loud (rintro e w8 ⟨rfl, hb⟩; have HB8 := Aside0.mk (below_step HB7.out hb); clear hb)) | ((with_reducible refine gate_dst (N := 9) rfl ?_); go_loud (refine wp_alloc_cells rfl 24 rfl _ infoTO ?_; intro g9 hg w9 hb9 hB9; have H9 := Aside0.mk hb9; have HG9 := Aside0.mk (show w.heap.size ≤ g9 by have := HB8.out.size; omega); have HB9 := Aside0.mk (below_step HB8.out hB9); clear hg hb9 hB9)) | ((with_reducible refine gate_store (t := 24) (p := 9) rfl ?_); go_loud (refine wp_store_cells rfl 24 _ _ rfl rfl g9 (ovc q) rfl rfl 24 _ H9.out (size_ovc _) rfl (ovc_one _) ?_; intro w10 hb10 hW10; have H99 := Aside0.mk hb10; have HB10 := Aside0.mk (hW10.below HB9.out HG9.out); clear hb10 hW10)) | ((with_reducible refine gate_dst (N := 56) rfl ?_); go_loud ((try (refine gate_guard (by rfl) ?_; dsimp only)); refine wpList_load_row rfl 24 _ rfl g9 rfl 24 (ovc q) (0, 0) _ H99.out Tryd.underlying24 rfl (size_ovc _) ?_)) | (go_at_call 13; (with_reducible refine (c4 _).mono ?_); go_loud (rintro e w11 ⟨rfl, hb⟩; have H9B := Aside0.mk (blk_below H99.out hb); have HB11 := Aside0.mk (below_step HB10.out hb); clear hb)) | (go_at_call 8; (with_reducible refine (c5 _).mono ?_); go_loud (rintro e w12 ⟨rfl, hb⟩; have H9C := Aside0.mk (blk_below H9B.out hb); have HB12 := Aside0.mk (below_step HB11.out hb); clear hb)) | ((with_reducible refine gate_dst (N := 13) rfl ?_); go_loud (refine wp_alloc_cells rfl 24 rfl _ infoTO ?_; intro g13 hg w13 hb13 hB13; have H13 := Aside0.mk hb13; have H9D := Aside0.mk (blk_below H9C.out hB13); have HG13 := Aside0.mk (show w.heap.size ≤ g13 ∧ g9 ≠ g13 by have := HB12.out.size; have := blk_lt H9C.out; omega); have HB13 := Aside0.mk (below_step HB12.out hB13); clear hg hb13 hB13)) | ((with_reducible refine gate_store (t := 24) (p := 13) rfl ?_); go_loud (refine wp_store_cells rfl 24 _ _ rfl rfl g13 (ovc q) rfl rfl 24 _ H13.out (size_ovc _) rfl (ovc_one _) ?_; intro w14 hb14 hW14; have H1313 := Aside0.mk hb14; have H9E := Aside0.mk (hW14.blk H9D.out HG13.out.2); have HB14 := Aside0.mk (hW14.below HB13.out HG13.out.1); clear hb14 hW14)) | ((with_reducible refine gate_dst (N := 72) rfl ?_); go_loud ((try (refine gate_guard (by rfl) ?_; dsimp only)); refine wpList_load_row rfl 24 _ rfl g13 rfl 24 (ovc q) (0, 0) _ H1313.out Tryd.underlying24 rfl (size_ovc _) ?_)) | ((with_reducible refine gate_dst (N := 73) rfl ?_); go_loud ((try (refine gate_guard (by rfl) ?_; dsimp only)); refine wpList_load_row rfl 24 _ rfl g9 rfl 24 (ovc q) (0, 0) _ H9E.out Tryd.underlying24 rfl (size_ovc _) ?_)) | ((with_reducible refine gate_dst (N := 77) rfl ?_); go_loud ((try (refine gate_guard (by rfl) ?_; dsimp only)); refine wpList_load_row rfl 24 _ rfl g9 rfl 24 (ovc q) (0, 0) _ H9E.out Tryd.underlying24 rfl (size_ovc _) ?_)) | (go_at_call 14; (with_reducible refine (c6 _).mono ?_); go_loud (rintro e w15 ⟨rfl, hb⟩; have HB15 := Aside0.mk (below_step HB14.out hb); clear hb)) | (go_at_call 7; (with_reducible refine (p_awake _).mono ?_); go_loud (rintro e wz ⟨rfl, hb⟩; have HBE := Aside0.mk (below_step HB15.out hb); clear hb)))
      go_ret
      exact ⟨rfl, HBE.out⟩
    · obtain rfl : q = fun _ => 0 := hbad hg
      have n8 : (g != 0) = true := by simp [hg]
      have n9 : (g == 0) = false := by simp [hg]
      clear hok hbad hg
      go_enter Tryd.func5, Tryd.ntmps5
      go_wp2_with (first | ((with_reducible refine gate_dst (N := 2) rfl ?_); go_loud (refine box_event ?hg (N := 2) ?hd (cs := ovc v) (t := 24) ?hr ?_; (case hd => rfl); (case hg => rfl); (case hr => first | (go_simp; done) | (go_simp; rfl)); intro o hg w1 hbox hb; have HO := Aside0.mk hbox; have HB1 := Aside0.mk hb; have HGO := Aside0.mk (show w.heap.size ≤ o by omega); clear hg hbox hb)) | ((with_reducible refine gate_dst (N := 15) rfl ?_); go_loud ((try (refine gate_guard (by rfl) ?_; dsimp only)); refine wpList_load_row rfl 24 _ rfl o rfl 24 (ovc v) (0, 0) _ HO.out Tryd.underlying24 rfl (size_ovc _) ?_)) | (go_at_call 12; (with_reducible refine (cr _).mono ?_); go_loud (rintro e w2 ⟨rfl, hb⟩; have HO2 := Aside0.mk (blk_below HO.out hb); have HB2 := Aside0.mk (below_step HB1.out hb); clear hb)) | ((with_reducible refine gate_store (t := 24) (p := 2) rfl ?_); go_loud (refine wp_store_cells rfl 24 _ _ rfl rfl o (ovc v1) rfl rfl 24 _ HO2.out (size_ovc _) rfl (ovc_one _) ?_; intro w3 hb3 hW3; have HO3 := Aside0.mk hb3; have HB3 := Aside0.mk (hW3.below HB2.out HGO.out); clear hb3 hW3)) | ((with_reducible refine gate_dst (N := 18) rfl ?_); go_loud ((try (refine gate_guard (by rfl) ?_; dsimp only)); refine wpList_load_row rfl 24 _ rfl o rfl 24 (ovc v1) (0, 0) _ HO3.out Tryd.underlying24 rfl (size_ovc _) ?_)) | (go_at_call 13; (with_reducible refine (c1 _).mono ?_); go_loud (rintro e w4 ⟨rfl, hb⟩; have HO4 := Aside0.mk (blk_below HO3.out hb); have HB4 := Aside0.mk (below_step HB3.out hb); clear hb)) | (go_at_call 8; (with_reducible refine (c2 _).mono ?_); go_loud (rintro e w5 ⟨rfl, hb⟩; have HO5 := Aside0.mk (blk_below HO4.out hb); have HB5 := Aside0.mk (below_step HB4.out hb); clear hb)) | ((with_reducible refine gate_dst (N := 7) rfl ?_); go_loud (refine wp_alloc_cells rfl 24 rfl _ infoTO ?_; intro g7 hg w6 hb6 hB6; have H7 := Aside0.mk hb6; have HO6 := Aside0.mk (blk_below HO5.out hB6); have HG7 := Aside0.mk (show w.heap.size ≤ g7 ∧ o ≠ g7 by have := HB5.out.size; have := blk_lt HO5.out; omega); have HB6 := Aside0.mk (below_step HB5.out hB6); clear hg hb6 hB6)) | ((with_reducible refine gate_store (t := 24) (p := 7) rfl ?_); go_loud (refine wp_store_cells rfl 24 _ _ rfl rfl g7 (ovc v1) rfl rfl 24 _ H7.out (size_ovc _) rfl (ovc_one _) ?_; intro w7 hb7 hW7; have H77 := Aside0.mk hb7; have HO7 := Aside0.mk (hW7.blk HO6.out HG7.out.2); have HB7 := Aside0.mk (hW7.below HB6.out HG7.out.1); clear hb7 hW7)) | ((with_reducible refine gate_dst (N := 34) rfl ?_); go_loud ((try (refine gate_guard (by rfl) ?_; dsimp only)); refine wpList_load_row rfl 24 _ rfl g7 rfl 24 (ovc v1) (0, 0) _ H77.out Tryd.underlying24 rfl (size_ovc _) ?_)) | ((with_reducible refine gate_dst (N := 35) rfl ?_); go_loud ((try (refine gate_guard (by rfl) ?_; dsimp only)); refine wpList_load_row rfl 24 _ rfl o rfl 24 (ovc v1) (0, 0) _ HO7.out Tryd.underlying24 rfl (size_ovc _) ?_)) | (go_at_call 8; (with_reducible refine (c3 _).mono ?_); go_loud (rintro e w8 ⟨rfl, hb⟩; have HB8 := Aside0.mk (below_step HB7.out hb); clear hb)) | ((with_reducible refine gate_dst (N := 9) rfl ?_); go_loud (refine wp_alloc_cells rfl 24 rfl _ infoTO ?_; intro g9 hg w9 hb9 hB9; have H9 := Aside0.mk hb9; have HG9 := Aside0.mk (show w.heap.size ≤ g9 by have := HB8.out.size; omega); have HB9 := Aside0.mk (below_step HB8.out hB9); clear hg hb9 hB9)) | ((with_reducible refine gate_store (t := 24) (p := 9) rfl ?_); go_loud (refine wp_store_cells rfl 24 _ _ rfl rfl g9 (ovc fun _ => 0) rfl rfl 24 _ H9.out (size_ovc _) rfl (ovc_one _) ?_; intro w10 hb10 hW10; have H99 := Aside0.mk hb10; have HB10 := Aside0.mk (hW10.below HB9.out HG9.out); clear hb10 hW10)) | ((with_reducible refine gate_dst (N := 49) rfl ?_); go_loud ((try (refine gate_guard (by rfl) ?_; dsimp only)); refine wpList_load_row rfl 24 _ rfl g9 rfl 24 (ovc fun _ => 0) (0, 0) _ H99.out Tryd.underlying24 rfl (size_ovc _) ?_)) | (go_at_call 7; (with_reducible refine (p_awake _).mono ?_); go_loud (rintro e wz ⟨rfl, hb⟩; have HBE := Aside0.mk (below_step HB10.out hb); clear hb)))
      go_ret
      exact ⟨rfl, HBE.out⟩
end Go.Proofs.YtknghhlielhleaaDoor.Stk
