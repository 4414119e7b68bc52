import Derived.Test.YtknghhlielhleaaDoorPSpellParsesx0
import Derived.Test.YtknghhlielhleaaDoorPSpellParsesx2b
namespace Go.Proofs.YtknghhlielhleaaDoor.PSpellParses
open Go.RowKit Go.Proofs.YtknghhlielhleaaDoorM Go.Proofs.YtknghhlielhleaaDoorW.PrintWords Go.Proofs.YtknghhlielhleaaDoorW.PrintLast Go.Proofs.YtknghhlielhleaaDoorW.PrintMore
attribute [local go_sem] max2_int min2_int max_two min_two max_three min_three max_four min_four   -- for this text's walks alone
set_option linter.unusedVariables false
set_option linter.unusedSimpArgs false
def naskhref10_Check.j0 : Nat → Bool → Int → Int → Int → Int → Bool → Bool → Bool → Bool → Bool → Bool → Bool → Bool → Bool → Bool → Option (Int)
  | 0, _, _, _, _, _, _, _, _, _, _, _, _, _, _, _ => none
  | k + 1, x26, s00, s01, s02, s03, s04, s05, s06, s07, s08, s09, s10, s11, s12, s13 => if x26 = true then (some 1) else (if s01 = 0 then (if s02 = 0 then (if s07 = true then (if s02 = 3 then (if s05 = true then (if s06 = true then (some 3) else (some 3)) else (some 3)) else (if s05 = true then (if s06 = true then (some 3) else (if s02 = 4 then (some 3) else (if s11 = true then (if s10 = true then (some 0) else (some 3)) else (some 0)))) else (some 3))) else (if s08 = true then (if s02 = 3 then (if s05 = true then (if s06 = true then (some 3) else (if s11 = true then (if s10 = true then (some 0) else (some 3)) else (some 0))) else (some 3)) else (if s05 = true then (if s06 = true then (some 3) else (if s11 = true then (if s10 = true then (some 0) else (some 3)) else (some 0))) else (some 3))) else (if s02 = 3 then (if s09 = true then (if s05 = true then (if s06 = true then (some 3) else (if s11 = true then (if s10 = true then (some 0) else (some 3)) else (some 0))) else (some 3)) else (if s06 = true then (some 3) else (if s11 = true then (if s10 = true then (some 0) else (some 3)) else (some 0)))) else (if s09 = true then (if s05 = true then (if s06 = true then (some 3) else (if s11 = true then (if s10 = true then (some 0) else (some 3)) else (some 0))) else (some 3)) else (if s06 = true then (some 3) else (if s11 = true then (if s10 = true then (some 0) else (some 3)) else (some 0))))))) else (if s02 = 3 then (if s05 = true then (if s06 = true then (some 3) else (if s07 = true then (some 3) else (if s11 = true then (if s10 = true then (some 0) else (some 3)) else (some 0)))) else (some 3)) else (if s05 = true then (if s06 = true then (some 3) else (if s07 = true then (if s02 = 4 then (some 3) else (if s11 = true then (if s10 = true then (some 0) else (some 3)) else (some 0))) else (if s11 = true then (if s10 = true then (some 0) else (some 3)) else (some 0)))) else (some 3)))) else (if s02 = 3 then (if s05 = true then (if s06 = true then (if s07 = true then (some 3) else (if s11 = true then (if s10 = true then (some 0) else (some 3)) else (some 0))) else (if s07 = true then (some 3) else (if s11 = true then (if s10 = true then (some 0) else (some 3)) else (some 0)))) else (some 3)) else (if s05 = true then (if s06 = true then (if s07 = true then (if s02 = 4 then (some 3) else (if s11 = true then (if s10 = true then (some 0) else (some 3)) else (some 0))) else (if s11 = true then (if s10 = true then (some 0) else (some 3)) else (some 0))) else (if s07 = true then (if s02 = 4 then (some 3) else (if s11 = true then (if s10 = true then (some 0) else (some 3)) else (some 0))) else (if s11 = true then (if s10 = true then (some 0) else (some 3)) else (some 0)))) else (some 3))))
def naskhref10_Check.f (k : Nat) (a0_0 : Int) (a0_1 : Int) (a0_2 : Int) (a0_3 : Int) (a0_4 : Bool) (a0_5 : Bool) (a0_6 : Bool) (a0_7 : Bool) (a0_8 : Bool) (a0_9 : Bool) (a0_10 : Bool) (a0_11 : Bool) (a0_12 : Bool) (a0_13 : Bool) : Option (Int) := (naskhref10_in.f a0_0 3).bind fun t182 => (if t182 = true then ((naskhref10_in.f a0_1 4).bind fun t183 => (if t183 = true then ((naskhref10_in.f a0_2 4).bind fun t184 => (if t184 = true then ((naskhref10_in.f a0_3 4).bind fun t185 => (naskhref10_Check.j0 k (!t185) a0_0 a0_1 a0_2 a0_3 a0_4 a0_5 a0_6 a0_7 a0_8 a0_9 a0_10 a0_11 a0_12 a0_13)) else (naskhref10_Check.j0 k true a0_0 a0_1 a0_2 a0_3 a0_4 a0_5 a0_6 a0_7 a0_8 a0_9 a0_10 a0_11 a0_12 a0_13))) else (naskhref10_Check.j0 k true a0_0 a0_1 a0_2 a0_3 a0_4 a0_5 a0_6 a0_7 a0_8 a0_9 a0_10 a0_11 a0_12 a0_13))) else (naskhref10_Check.j0 k true a0_0 a0_1 a0_2 a0_3 a0_4 a0_5 a0_6 a0_7 a0_8 a0_9 a0_10 a0_11 a0_12 a0_13))
theorem naskhref10_Check.mono_l : ∀ k, (∀ y0 y1 y2 y3 y4 y5 y6 y7 y8 y9 y10 y11 y12 y13 y14, LeO (naskhref10_Check.j0 k y0 y1 y2 y3 y4 y5 y6 y7 y8 y9 y10 y11 y12 y13 y14) (naskhref10_Check.j0 (k + 1) y0 y1 y2 y3 y4 y5 y6 y7 y8 y9 y10 y11 y12 y13 y14))
  | 0 => fun _ _ _ _ _ _ _ _ _ _ _ _ _ _ _ r h => by simp [naskhref10_Check.j0] at h
  | k + 1 => by
    have ih0 := naskhref10_Check.mono_l k
    · intro y0 y1 y2 y3 y4 y5 y6 y7 y8 y9 y10 y11 y12 y13 y14
      unfold naskhref10_Check.j0
      repeat' first
      | (with_reducible exact ih0 _ _ _ _ _ _ _ _ _ _ _ _ _ _ _)
      | (with_reducible exact LeO.refl _)
      | (with_reducible exact LeO.none _)
      | (with_reducible refine LeO.ite ?_ ?_)
      | (with_reducible refine LeO.bind ?_ (fun _ => ?_))
      | exact ih0 _ _ _ _ _ _ _ _ _ _ _ _ _ _ _
      | exact LeO.none _
      | refine LeO.ite ?_ ?_
      | refine LeO.bind ?_ (fun _ => ?_)
theorem naskhref10_Check.mono : ∀ a0 a1 a2 a3 a4 a5 a6 a7 a8 a9 a10 a11 a12 a13 k, LeO (naskhref10_Check.f k a0 a1 a2 a3 a4 a5 a6 a7 a8 a9 a10 a11 a12 a13) (naskhref10_Check.f (k + 1) a0 a1 a2 a3 a4 a5 a6 a7 a8 a9 a10 a11 a12 a13) := by
  intro a0 a1 a2 a3 a4 a5 a6 a7 a8 a9 a10 a11 a12 a13 k
  have ih0 := naskhref10_Check.mono_l k
  unfold naskhref10_Check.f
  repeat' first
      | (with_reducible exact ih0 _ _ _ _ _ _ _ _ _ _ _ _ _ _ _)
      | (with_reducible exact LeO.refl _)
      | (with_reducible exact LeO.none _)
      | (with_reducible refine LeO.ite ?_ ?_)
      | (with_reducible refine LeO.bind ?_ (fun _ => ?_))
      | exact ih0 _ _ _ _ _ _ _ _ _ _ _ _ _ _ _
      | exact LeO.none _
      | refine LeO.ite ?_ ?_
      | refine LeO.bind ?_ (fun _ => ?_)
set_option maxHeartbeats 8000000 in
set_option maxRecDepth 100000 in
theorem naskhref10_Check.calls (k : Nat) (a0_0 : Int) (a0_1 : Int) (a0_2 : Int) (a0_3 : Int) (a0_4 : Bool) (a0_5 : Bool) (a0_6 : Bool) (a0_7 : Bool) (a0_8 : Bool) (a0_9 : Bool) (a0_10 : Bool) (a0_11 : Bool) (a0_12 : Bool) (a0_13 : Bool) (r : Int) (w : World) (h : naskhref10_Check.f k a0_0 a0_1 a0_2 a0_3 a0_4 a0_5 a0_6 a0_7 a0_8 a0_9 a0_10 a0_11 a0_12 a0_13 = some r) :
    Calls Tryd.prog 14 #[.agg #[.int .i64 a0_0, .int .i64 a0_1, .int .i64 a0_2, .int .i64 a0_3, .bool a0_4, .bool a0_5, .bool a0_6, .bool a0_7, .bool a0_8, .bool a0_9, .bool a0_10, .bool a0_11, .bool a0_12, .bool a0_13]] w fun e w' => e = .returned (.int .i64 r) ∧ Below w.heap.size w w' := by
  have hu24 := Tryd.underlying24
  have HB := Aside0.mk (Below.refl w.heap.size w)
  have H : ((naskhref10_in.f a0_0 3).bind fun t182 => (if t182 = true then ((naskhref10_in.f a0_1 4).bind fun t183 => (if t183 = true then ((naskhref10_in.f a0_2 4).bind fun t184 => (if t184 = true then ((naskhref10_in.f a0_3 4).bind fun t185 => (naskhref10_Check.j0 k (!t185) a0_0 a0_1 a0_2 a0_3 a0_4 a0_5 a0_6 a0_7 a0_8 a0_9 a0_10 a0_11 a0_12 a0_13)) else (naskhref10_Check.j0 k true a0_0 a0_1 a0_2 a0_3 a0_4 a0_5 a0_6 a0_7 a0_8 a0_9 a0_10 a0_11 a0_12 a0_13))) else (naskhref10_Check.j0 k true a0_0 a0_1 a0_2 a0_3 a0_4 a0_5 a0_6 a0_7 a0_8 a0_9 a0_10 a0_11 a0_12 a0_13))) else (naskhref10_Check.j0 k true a0_0 a0_1 a0_2 a0_3 a0_4 a0_5 a0_6 a0_7 a0_8 a0_9 a0_10 a0_11 a0_12 a0_13))) = some r := h
  clear h
  have HC2 := Aside0.mk H
  clear H
  go_enter Tryd.func14, Tryd.ntmps14
  go_upto_region 1 with (first | ((with_reducible refine gate_dst (N := 1) rfl ?_); refine box_event ?hg (N := 1) ?hd (cs := #[.int .i64 a0_0, .int .i64 a0_1, .int .i64 a0_2, .int .i64 a0_3, .bool a0_4, .bool a0_5, .bool a0_6, .bool a0_7, .bool a0_8, .bool a0_9, .bool a0_10, .bool a0_11, .bool a0_12, .bool a0_13]) (t := 24) ?hr ?_; (case hd => rfl); (case hg => rfl); (case hr => first | (go_simp; done) | (go_simp; rfl)); intro gb181 hg w3 hbox hb; have n0_ := Aside0.mk (below_step (by repeat (first | (with_reducible first | exact HB.out | apply below_alloc | apply pw_below_drewN | apply below_drew1) | exact HB.out)) hb); have n1_ := Aside0.mk (hbox); have n2_ := Aside0.mk ((by rw [hg]; exact (below_size (by repeat (first | (with_reducible first | exact HB.out | apply below_alloc | apply pw_below_drewN | apply below_drew1) | exact HB.out))) : w.heap.size ≤ gb181)); have n3_ := Aside0.mk ((by rw [hg]; exact (below_size (by repeat (first | (with_reducible first | exact HB.out | apply below_alloc | apply pw_below_drewN | apply below_drew1) | exact HB.out))) : w.heap.size ≤ gb181)); clear HB; have HB := n0_; have BK181 := n1_; have GW181 := n2_; have GE181 := n3_; clear n0_ n1_ n2_ n3_; clear hb hbox hg))
  (try simp only [Act.put, List.setIfInBounds_toArray, List.set_cons_zero, List.set_cons_succ])
  go_cut [26] (fun v26 wc => ∃ (kq : Nat) (x26_1 : Bool), v26 = .bool x26_1 ∧ Aside0 (naskhref10_Check.j0 kq x26_1 a0_0 a0_1 a0_2 a0_3 a0_4 a0_5 a0_6 a0_7 a0_8 a0_9 a0_10 a0_11 a0_12 a0_13 = some r) ∧ Aside0 (kq ≤ k) ∧ Aside0 (wc.heap[gb181]? = some (.cells #[.int .i64 a0_0, .int .i64 a0_1, .int .i64 a0_2, .int .i64 a0_3, .bool a0_4, .bool a0_5, .bool a0_6, .bool a0_7, .bool a0_8, .bool a0_9, .bool a0_10, .bool a0_11, .bool a0_12, .bool a0_13] 24 (0, 0))) ∧ Aside0 (Below w.heap.size w wc))
  case first =>
    have H := HC2.out
    clear HC2
    replace H := Option.bind_eq_some_iff.mp H
    obtain ⟨t182, A40, H⟩ := H
    replace H : (if t182 = true then ((naskhref10_in.f a0_1 4).bind fun t183 => (if t183 = true then ((naskhref10_in.f a0_2 4).bind fun t184 => (if t184 = true then ((naskhref10_in.f a0_3 4).bind fun t185 => (naskhref10_Check.j0 k (!t185) a0_0 a0_1 a0_2 a0_3 a0_4 a0_5 a0_6 a0_7 a0_8 a0_9 a0_10 a0_11 a0_12 a0_13)) else (naskhref10_Check.j0 k true a0_0 a0_1 a0_2 a0_3 a0_4 a0_5 a0_6 a0_7 a0_8 a0_9 a0_10 a0_11 a0_12 a0_13))) else (naskhref10_Check.j0 k true a0_0 a0_1 a0_2 a0_3 a0_4 a0_5 a0_6 a0_7 a0_8 a0_9 a0_10 a0_11 a0_12 a0_13))) else (naskhref10_Check.j0 k true a0_0 a0_1 a0_2 a0_3 a0_4 a0_5 a0_6 a0_7 a0_8 a0_9 a0_10 a0_11 a0_12 a0_13)) = some r := H
    have A4 := Aside0.mk A40
    clear A40
    by_cases c5 : t182 = true
    · subst c5
      have H1 : ((naskhref10_in.f a0_1 4).bind fun t183 => (if t183 = true then ((naskhref10_in.f a0_2 4).bind fun t184 => (if t184 = true then ((naskhref10_in.f a0_3 4).bind fun t185 => (naskhref10_Check.j0 k (!t185) a0_0 a0_1 a0_2 a0_3 a0_4 a0_5 a0_6 a0_7 a0_8 a0_9 a0_10 a0_11 a0_12 a0_13)) else (naskhref10_Check.j0 k true a0_0 a0_1 a0_2 a0_3 a0_4 a0_5 a0_6 a0_7 a0_8 a0_9 a0_10 a0_11 a0_12 a0_13))) else (naskhref10_Check.j0 k true a0_0 a0_1 a0_2 a0_3 a0_4 a0_5 a0_6 a0_7 a0_8 a0_9 a0_10 a0_11 a0_12 a0_13))) = some r := by rw [if_pos rfl] at H; exact H
      clear H
      have H := H1
      clear H1
      replace H := Option.bind_eq_some_iff.mp H
      obtain ⟨t183, A60, H⟩ := H
      replace H : (if t183 = true then ((naskhref10_in.f a0_2 4).bind fun t184 => (if t184 = true then ((naskhref10_in.f a0_3 4).bind fun t185 => (naskhref10_Check.j0 k (!t185) a0_0 a0_1 a0_2 a0_3 a0_4 a0_5 a0_6 a0_7 a0_8 a0_9 a0_10 a0_11 a0_12 a0_13)) else (naskhref10_Check.j0 k true a0_0 a0_1 a0_2 a0_3 a0_4 a0_5 a0_6 a0_7 a0_8 a0_9 a0_10 a0_11 a0_12 a0_13))) else (naskhref10_Check.j0 k true a0_0 a0_1 a0_2 a0_3 a0_4 a0_5 a0_6 a0_7 a0_8 a0_9 a0_10 a0_11 a0_12 a0_13)) = some r := H
      have A6 := Aside0.mk A60
      clear A60
      by_cases c7 : t183 = true
      · subst c7
        have H1 : ((naskhref10_in.f a0_2 4).bind fun t184 => (if t184 = true then ((naskhref10_in.f a0_3 4).bind fun t185 => (naskhref10_Check.j0 k (!t185) a0_0 a0_1 a0_2 a0_3 a0_4 a0_5 a0_6 a0_7 a0_8 a0_9 a0_10 a0_11 a0_12 a0_13)) else (naskhref10_Check.j0 k true a0_0 a0_1 a0_2 a0_3 a0_4 a0_5 a0_6 a0_7 a0_8 a0_9 a0_10 a0_11 a0_12 a0_13))) = some r := by rw [if_pos rfl] at H; exact H
        clear H
        have H := H1
        clear H1
        replace H := Option.bind_eq_some_iff.mp H
        obtain ⟨t184, A80, H⟩ := H
        replace H : (if t184 = true then ((naskhref10_in.f a0_3 4).bind fun t185 => (naskhref10_Check.j0 k (!t185) a0_0 a0_1 a0_2 a0_3 a0_4 a0_5 a0_6 a0_7 a0_8 a0_9 a0_10 a0_11 a0_12 a0_13)) else (naskhref10_Check.j0 k true a0_0 a0_1 a0_2 a0_3 a0_4 a0_5 a0_6 a0_7 a0_8 a0_9 a0_10 a0_11 a0_12 a0_13)) = some r := H
        have A8 := Aside0.mk A80
        clear A80
        by_cases c9 : t184 = true
        · subst c9
          have H1 : ((naskhref10_in.f a0_3 4).bind fun t185 => (naskhref10_Check.j0 k (!t185) a0_0 a0_1 a0_2 a0_3 a0_4 a0_5 a0_6 a0_7 a0_8 a0_9 a0_10 a0_11 a0_12 a0_13)) = some r := by rw [if_pos rfl] at H; exact H
          clear H
          have H := H1
          clear H1
          replace H := Option.bind_eq_some_iff.mp H
          obtain ⟨t185, A100, H⟩ := H
          replace H : (naskhref10_Check.j0 k (!t185) a0_0 a0_1 a0_2 a0_3 a0_4 a0_5 a0_6 a0_7 a0_8 a0_9 a0_10 a0_11 a0_12 a0_13) = some r := H
          have A10 := Aside0.mk A100
          clear A100
          have H' := Aside0.mk H
          clear H
          have hcz11_0 : w3.cell? ⟨gb181, 0, none⟩ = some (.int .i64 a0_0) := (blk_cell BK181.out 0).trans rfl
          have hcz11_1 : w3.cell? ⟨gb181, 1, none⟩ = some (.int .i64 a0_1) := (blk_cell BK181.out 1).trans rfl
          have hcz11_2 : w3.cell? ⟨gb181, 2, none⟩ = some (.int .i64 a0_2) := (blk_cell BK181.out 2).trans rfl
          have hcz11_3 : w3.cell? ⟨gb181, 3, none⟩ = some (.int .i64 a0_3) := (blk_cell BK181.out 3).trans rfl
          have hcz11_4 : w3.cell? ⟨gb181, 4, none⟩ = some (.bool a0_4) := (blk_cell BK181.out 4).trans rfl
          have hcz11_5 : w3.cell? ⟨gb181, 5, none⟩ = some (.bool a0_5) := (blk_cell BK181.out 5).trans rfl
          have hcz11_6 : w3.cell? ⟨gb181, 6, none⟩ = some (.bool a0_6) := (blk_cell BK181.out 6).trans rfl
          have hcz11_7 : w3.cell? ⟨gb181, 7, none⟩ = some (.bool a0_7) := (blk_cell BK181.out 7).trans rfl
          have hcz11_8 : w3.cell? ⟨gb181, 8, none⟩ = some (.bool a0_8) := (blk_cell BK181.out 8).trans rfl
          have hcz11_9 : w3.cell? ⟨gb181, 9, none⟩ = some (.bool a0_9) := (blk_cell BK181.out 9).trans rfl
          have hcz11_10 : w3.cell? ⟨gb181, 10, none⟩ = some (.bool a0_10) := (blk_cell BK181.out 10).trans rfl
          have hcz11_11 : w3.cell? ⟨gb181, 11, none⟩ = some (.bool a0_11) := (blk_cell BK181.out 11).trans rfl
          have hcz11_12 : w3.cell? ⟨gb181, 12, none⟩ = some (.bool a0_12) := (blk_cell BK181.out 12).trans rfl
          have hcz11_13 : w3.cell? ⟨gb181, 13, none⟩ = some (.bool a0_13) := (blk_cell BK181.out 13).trans rfl
          go_wp2_with (first | ((with_reducible refine gate_callee (f := 29) rfl ?_); refine goesL_ (some 7) rfl rfl Tryd.func29 (by kernel_rfl) rfl #[.int .i64 a0_0, .int .i64 3] rfl (by (try simp only [List.map_toArray, List.map_cons, List.map_nil]); first | done | rfl | (simp only [List.length_drop, List.length_take]; rfl)) ?_; (with_reducible refine (naskhref10_in.calls a0_0 3 true _ A4.out).mono ?_); rintro e w' ⟨rfl, ⟨nd, rfl⟩⟩; refine ⟨_, rfl, ?_⟩) | (go_at_call 29; (with_reducible refine (naskhref10_in.calls a0_1 4 true _ A6.out).mono ?_); rintro e w' ⟨rfl, ⟨nd, rfl⟩⟩) | (go_at_call 29; (with_reducible refine (naskhref10_in.calls a0_2 4 true _ A8.out).mono ?_); rintro e w' ⟨rfl, ⟨nd, rfl⟩⟩) | (go_at_call 29; (with_reducible refine (naskhref10_in.calls a0_3 4 t185 _ A10.out).mono ?_); rintro e w' ⟨rfl, ⟨nd, rfl⟩⟩))
          go_meet
          case rel => exact ⟨_, (!t185), (by first | rfl | (simp; done) | (simp [*]; done)), H', ⟨by first | omega | exact Nat.le_refl _⟩, ⟨by (with_reducible repeat (first | refine blk_drewN ?_ _ | refine blk_drew ?_ | refine blk_alloc ?_ _)); exact BK181.out⟩, ⟨by repeat (first | (with_reducible first | exact HB.out | apply below_alloc | apply pw_below_drewN | apply below_drew1 | refine below_set ?_ GE181.out) | exact HB.out)⟩⟩
        · replace c9 := Bool.eq_false_iff.mpr c9
          subst c9
          have H1 : (naskhref10_Check.j0 k true a0_0 a0_1 a0_2 a0_3 a0_4 a0_5 a0_6 a0_7 a0_8 a0_9 a0_10 a0_11 a0_12 a0_13) = some r := by rw [if_neg (show ¬ (false = true) by decide)] at H; exact H
          clear H
          have H := H1
          clear H1
          have H' := Aside0.mk H
          clear H
          have hcz12_0 : w3.cell? ⟨gb181, 0, none⟩ = some (.int .i64 a0_0) := (blk_cell BK181.out 0).trans rfl
          have hcz12_1 : w3.cell? ⟨gb181, 1, none⟩ = some (.int .i64 a0_1) := (blk_cell BK181.out 1).trans rfl
          have hcz12_2 : w3.cell? ⟨gb181, 2, none⟩ = some (.int .i64 a0_2) := (blk_cell BK181.out 2).trans rfl
          have hcz12_3 : w3.cell? ⟨gb181, 3, none⟩ = some (.int .i64 a0_3) := (blk_cell BK181.out 3).trans rfl
          have hcz12_4 : w3.cell? ⟨gb181, 4, none⟩ = some (.bool a0_4) := (blk_cell BK181.out 4).trans rfl
          have hcz12_5 : w3.cell? ⟨gb181, 5, none⟩ = some (.bool a0_5) := (blk_cell BK181.out 5).trans rfl
          have hcz12_6 : w3.cell? ⟨gb181, 6, none⟩ = some (.bool a0_6) := (blk_cell BK181.out 6).trans rfl
          have hcz12_7 : w3.cell? ⟨gb181, 7, none⟩ = some (.bool a0_7) := (blk_cell BK181.out 7).trans rfl
          have hcz12_8 : w3.cell? ⟨gb181, 8, none⟩ = some (.bool a0_8) := (blk_cell BK181.out 8).trans rfl
          have hcz12_9 : w3.cell? ⟨gb181, 9, none⟩ = some (.bool a0_9) := (blk_cell BK181.out 9).trans rfl
          have hcz12_10 : w3.cell? ⟨gb181, 10, none⟩ = some (.bool a0_10) := (blk_cell BK181.out 10).trans rfl
          have hcz12_11 : w3.cell? ⟨gb181, 11, none⟩ = some (.bool a0_11) := (blk_cell BK181.out 11).trans rfl
          have hcz12_12 : w3.cell? ⟨gb181, 12, none⟩ = some (.bool a0_12) := (blk_cell BK181.out 12).trans rfl
          have hcz12_13 : w3.cell? ⟨gb181, 13, none⟩ = some (.bool a0_13) := (blk_cell BK181.out 13).trans rfl
          go_wp2_with (first | ((with_reducible refine gate_callee (f := 29) rfl ?_); refine goesL_ (some 7) rfl rfl Tryd.func29 (by kernel_rfl) rfl #[.int .i64 a0_0, .int .i64 3] rfl (by (try simp only [List.map_toArray, List.map_cons, List.map_nil]); first | done | rfl | (simp only [List.length_drop, List.length_take]; rfl)) ?_; (with_reducible refine (naskhref10_in.calls a0_0 3 true _ A4.out).mono ?_); rintro e w' ⟨rfl, ⟨nd, rfl⟩⟩; refine ⟨_, rfl, ?_⟩) | (go_at_call 29; (with_reducible refine (naskhref10_in.calls a0_1 4 true _ A6.out).mono ?_); rintro e w' ⟨rfl, ⟨nd, rfl⟩⟩) | (go_at_call 29; (with_reducible refine (naskhref10_in.calls a0_2 4 false _ A8.out).mono ?_); rintro e w' ⟨rfl, ⟨nd, rfl⟩⟩))
          go_meet
          case rel => exact ⟨_, (true), (by first | rfl | (simp; done) | (simp [*]; done)), H', ⟨by first | omega | exact Nat.le_refl _⟩, ⟨by (with_reducible repeat (first | refine blk_drewN ?_ _ | refine blk_drew ?_ | refine blk_alloc ?_ _)); exact BK181.out⟩, ⟨by repeat (first | (with_reducible first | exact HB.out | apply below_alloc | apply pw_below_drewN | apply below_drew1 | refine below_set ?_ GE181.out) | exact HB.out)⟩⟩
      · replace c7 := Bool.eq_false_iff.mpr c7
        subst c7
        have H1 : (naskhref10_Check.j0 k true a0_0 a0_1 a0_2 a0_3 a0_4 a0_5 a0_6 a0_7 a0_8 a0_9 a0_10 a0_11 a0_12 a0_13) = some r := by rw [if_neg (show ¬ (false = true) by decide)] at H; exact H
        clear H
        have H := H1
        clear H1
        have H' := Aside0.mk H
        clear H
        have hcz13_0 : w3.cell? ⟨gb181, 0, none⟩ = some (.int .i64 a0_0) := (blk_cell BK181.out 0).trans rfl
        have hcz13_1 : w3.cell? ⟨gb181, 1, none⟩ = some (.int .i64 a0_1) := (blk_cell BK181.out 1).trans rfl
        have hcz13_2 : w3.cell? ⟨gb181, 2, none⟩ = some (.int .i64 a0_2) := (blk_cell BK181.out 2).trans rfl
        have hcz13_3 : w3.cell? ⟨gb181, 3, none⟩ = some (.int .i64 a0_3) := (blk_cell BK181.out 3).trans rfl
        have hcz13_4 : w3.cell? ⟨gb181, 4, none⟩ = some (.bool a0_4) := (blk_cell BK181.out 4).trans rfl
        have hcz13_5 : w3.cell? ⟨gb181, 5, none⟩ = some (.bool a0_5) := (blk_cell BK181.out 5).trans rfl
        have hcz13_6 : w3.cell? ⟨gb181, 6, none⟩ = some (.bool a0_6) := (blk_cell BK181.out 6).trans rfl
        have hcz13_7 : w3.cell? ⟨gb181, 7, none⟩ = some (.bool a0_7) := (blk_cell BK181.out 7).trans rfl
        have hcz13_8 : w3.cell? ⟨gb181, 8, none⟩ = some (.bool a0_8) := (blk_cell BK181.out 8).trans rfl
        have hcz13_9 : w3.cell? ⟨gb181, 9, none⟩ = some (.bool a0_9) := (blk_cell BK181.out 9).trans rfl
        have hcz13_10 : w3.cell? ⟨gb181, 10, none⟩ = some (.bool a0_10) := (blk_cell BK181.out 10).trans rfl
        have hcz13_11 : w3.cell? ⟨gb181, 11, none⟩ = some (.bool a0_11) := (blk_cell BK181.out 11).trans rfl
        have hcz13_12 : w3.cell? ⟨gb181, 12, none⟩ = some (.bool a0_12) := (blk_cell BK181.out 12).trans rfl
        have hcz13_13 : w3.cell? ⟨gb181, 13, none⟩ = some (.bool a0_13) := (blk_cell BK181.out 13).trans rfl
        go_wp2_with (first | ((with_reducible refine gate_callee (f := 29) rfl ?_); refine goesL_ (some 7) rfl rfl Tryd.func29 (by kernel_rfl) rfl #[.int .i64 a0_0, .int .i64 3] rfl (by (try simp only [List.map_toArray, List.map_cons, List.map_nil]); first | done | rfl | (simp only [List.length_drop, List.length_take]; rfl)) ?_; (with_reducible refine (naskhref10_in.calls a0_0 3 true _ A4.out).mono ?_); rintro e w' ⟨rfl, ⟨nd, rfl⟩⟩; refine ⟨_, rfl, ?_⟩) | (go_at_call 29; (with_reducible refine (naskhref10_in.calls a0_1 4 false _ A6.out).mono ?_); rintro e w' ⟨rfl, ⟨nd, rfl⟩⟩))
        go_meet
        case rel => exact ⟨_, (true), (by first | rfl | (simp; done) | (simp [*]; done)), H', ⟨by first | omega | exact Nat.le_refl _⟩, ⟨by (with_reducible repeat (first | refine blk_drewN ?_ _ | refine blk_drew ?_ | refine blk_alloc ?_ _)); exact BK181.out⟩, ⟨by repeat (first | (with_reducible first | exact HB.out | apply below_alloc | apply pw_below_drewN | apply below_drew1 | refine below_set ?_ GE181.out) | exact HB.out)⟩⟩
    · replace c5 := Bool.eq_false_iff.mpr c5
      subst c5
      have H1 : (naskhref10_Check.j0 k true a0_0 a0_1 a0_2 a0_3 a0_4 a0_5 a0_6 a0_7 a0_8 a0_9 a0_10 a0_11 a0_12 a0_13) = some r := by rw [if_neg (show ¬ (false = true) by decide)] at H; exact H
      clear H
      have H := H1
      clear H1
      have H' := Aside0.mk H
      clear H
      have hcz14_0 : w3.cell? ⟨gb181, 0, none⟩ = some (.int .i64 a0_0) := (blk_cell BK181.out 0).trans rfl
      have hcz14_1 : w3.cell? ⟨gb181, 1, none⟩ = some (.int .i64 a0_1) := (blk_cell BK181.out 1).trans rfl
      have hcz14_2 : w3.cell? ⟨gb181, 2, none⟩ = some (.int .i64 a0_2) := (blk_cell BK181.out 2).trans rfl
      have hcz14_3 : w3.cell? ⟨gb181, 3, none⟩ = some (.int .i64 a0_3) := (blk_cell BK181.out 3).trans rfl
      have hcz14_4 : w3.cell? ⟨gb181, 4, none⟩ = some (.bool a0_4) := (blk_cell BK181.out 4).trans rfl
      have hcz14_5 : w3.cell? ⟨gb181, 5, none⟩ = some (.bool a0_5) := (blk_cell BK181.out 5).trans rfl
      have hcz14_6 : w3.cell? ⟨gb181, 6, none⟩ = some (.bool a0_6) := (blk_cell BK181.out 6).trans rfl
      have hcz14_7 : w3.cell? ⟨gb181, 7, none⟩ = some (.bool a0_7) := (blk_cell BK181.out 7).trans rfl
      have hcz14_8 : w3.cell? ⟨gb181, 8, none⟩ = some (.bool a0_8) := (blk_cell BK181.out 8).trans rfl
      have hcz14_9 : w3.cell? ⟨gb181, 9, none⟩ = some (.bool a0_9) := (blk_cell BK181.out 9).trans rfl
      have hcz14_10 : w3.cell? ⟨gb181, 10, none⟩ = some (.bool a0_10) := (blk_cell BK181.out 10).trans rfl
      have hcz14_11 : w3.cell? ⟨gb181, 11, none⟩ = some (.bool a0_11) := (blk_cell BK181.out 11).trans rfl
      have hcz14_12 : w3.cell? ⟨gb181, 12, none⟩ = some (.bool a0_12) := (blk_cell BK181.out 12).trans rfl
      have hcz14_13 : w3.cell? ⟨gb181, 13, none⟩ = some (.bool a0_13) := (blk_cell BK181.out 13).trans rfl
      go_wp2_with (first | ((with_reducible refine gate_callee (f := 29) rfl ?_); refine goesL_ (some 7) rfl rfl Tryd.func29 (by kernel_rfl) rfl #[.int .i64 a0_0, .int .i64 3] rfl (by (try simp only [List.map_toArray, List.map_cons, List.map_nil]); first | done | rfl | (simp only [List.length_drop, List.length_take]; rfl)) ?_; (with_reducible refine (naskhref10_in.calls a0_0 3 false _ A4.out).mono ?_); rintro e w' ⟨rfl, ⟨nd, rfl⟩⟩; refine ⟨_, rfl, ?_⟩))
      go_meet
      case rel => exact ⟨_, (true), (by first | rfl | (simp; done) | (simp [*]; done)), H', ⟨by first | omega | exact Nat.le_refl _⟩, ⟨by (with_reducible repeat (first | refine blk_drewN ?_ _ | refine blk_drew ?_ | refine blk_alloc ?_ _)); exact BK181.out⟩, ⟨by repeat (first | (with_reducible first | exact HB.out | apply below_alloc | apply pw_below_drewN | apply below_drew1 | refine below_set ?_ GE181.out) | exact HB.out)⟩⟩
  case rest =>
    clear HC2
    try clear c1
    try clear c2
    try clear p2
    try clear c5
    try clear c7
    try clear c9
    try clear c14
    try clear hcz11_0
    try clear hcz11_1
    try clear hcz11_10
    try clear hcz11_11
    try clear hcz11_12
    try clear hcz11_13
    try clear hcz11_2
    try clear hcz11_3
    try clear hcz11_4
    try clear hcz11_5
    try clear hcz11_6
    try clear hcz11_7
    try clear hcz11_8
    try clear hcz11_9
    try clear hcz12_0
    try clear hcz12_1
    try clear hcz12_10
    try clear hcz12_11
    try clear hcz12_12
    try clear hcz12_13
    try clear hcz12_2
    try clear hcz12_3
    try clear hcz12_4
    try clear hcz12_5
    try clear hcz12_6
    try clear hcz12_7
    try clear hcz12_8
    try clear hcz12_9
    try clear hcz13_0
    try clear hcz13_1
    try clear hcz13_10
    try clear hcz13_11
    try clear hcz13_12
    try clear hcz13_13
    try clear hcz13_2
    try clear hcz13_3
    try clear hcz13_4
    try clear hcz13_5
    try clear hcz13_6
    try clear hcz13_7
    try clear hcz13_8
    try clear hcz13_9
    try clear hcz14_0
    try clear hcz14_1
    try clear hcz14_10
    try clear hcz14_11
    try clear hcz14_12
    try clear hcz14_13
    try clear hcz14_2
    try clear hcz14_3
    try clear hcz14_4
    try clear hcz14_5
    try clear hcz14_6
    try clear hcz14_7
    try clear hcz14_8
    try clear hcz14_9
    try clear hfz11_0
    try clear hfz11_1
    try clear hfz11_10
    try clear hfz11_11
    try clear hfz11_12
    try clear hfz11_13
    try clear hfz11_2
    try clear hfz11_3
    try clear hfz11_4
    try clear hfz11_5
    try clear hfz11_6
    try clear hfz11_7
    try clear hfz11_8
    try clear hfz11_9
    try clear hfz12_0
    try clear hfz12_1
    try clear hfz12_10
    try clear hfz12_11
    try clear hfz12_12
    try clear hfz12_13
    try clear hfz12_2
    try clear hfz12_3
    try clear hfz12_4
    try clear hfz12_5
    try clear hfz12_6
    try clear hfz12_7
    try clear hfz12_8
    try clear hfz12_9
    try clear hfz13_0
    try clear hfz13_1
    try clear hfz13_10
    try clear hfz13_11
    try clear hfz13_12
    try clear hfz13_13
    try clear hfz13_2
    try clear hfz13_3
    try clear hfz13_4
    try clear hfz13_5
    try clear hfz13_6
    try clear hfz13_7
    try clear hfz13_8
    try clear hfz13_9
    try clear hfz14_0
    try clear hfz14_1
    try clear hfz14_10
    try clear hfz14_11
    try clear hfz14_12
    try clear hfz14_13
    try clear hfz14_2
    try clear hfz14_3
    try clear hfz14_4
    try clear hfz14_5
    try clear hfz14_6
    try clear hfz14_7
    try clear hfz14_8
    try clear hfz14_9
    obtain ⟨kq, x26_1, rfl, HA, HJ1, BK181, HB⟩ := hcut
    cases kq with
    | zero => exact absurd HA.out (by simp [naskhref10_Check.j0])
    | succ kj1 =>
      have H := HA.out
      clear HA
      simp only [naskhref10_Check.j0] at H
      by_cases c15 : x26_1 = true
      · subst c15
        have H1 : (some 1) = some r := by rw [if_pos rfl] at H; exact H
        clear H
        have H := H1
        clear H1
        obtain rfl := Option.some.inj H
        go_wp2
        go_ret
        exact ⟨by first | rfl | (simp [errW_none, errW_some] <;> rfl) | (simp [*, errW_none, errW_some] <;> rfl), by repeat (first | (with_reducible first | exact HB.out | apply below_alloc | apply pw_below_drewN | apply below_drew1 | refine below_set ?_ GE181.out) | exact HB.out)⟩
      · replace c15 := Bool.eq_false_iff.mpr c15
        subst c15
        have H1 : (if a0_1 = 0 then (if a0_2 = 0 then (if a0_7 = true then (if a0_2 = 3 then (if a0_5 = true then (if a0_6 = true then (some 3) else (some 3)) else (some 3)) else (if a0_5 = true then (if a0_6 = true then (some 3) else (if a0_2 = 4 then (some 3) else (if a0_11 = true then (if a0_10 = true then (some 0) else (some 3)) else (some 0)))) else (some 3))) else (if a0_8 = true then (if a0_2 = 3 then (if a0_5 = true then (if a0_6 = true then (some 3) else (if a0_11 = true then (if a0_10 = true then (some 0) else (some 3)) else (some 0))) else (some 3)) else (if a0_5 = true then (if a0_6 = true then (some 3) else (if a0_11 = true then (if a0_10 = true then (some 0) else (some 3)) else (some 0))) else (some 3))) else (if a0_2 = 3 then (if a0_9 = true then (if a0_5 = true then (if a0_6 = true then (some 3) else (if a0_11 = true then (if a0_10 = true then (some 0) else (some 3)) else (some 0))) else (some 3)) else (if a0_6 = true then (some 3) else (if a0_11 = true then (if a0_10 = true then (some 0) else (some 3)) else (some 0)))) else (if a0_9 = true then (if a0_5 = true then (if a0_6 = true then (some 3) else (if a0_11 = true then (if a0_10 = true then (some 0) else (some 3)) else (some 0))) else (some 3)) else (if a0_6 = true then (some 3) else (if a0_11 = true then (if a0_10 = true then (some 0) else (some 3)) else (some 0))))))) else (if a0_2 = 3 then (if a0_5 = true then (if a0_6 = true then (some 3) else (if a0_7 = true then (some 3) else (if a0_11 = true then (if a0_10 = true then (some 0) else (some 3)) else (some 0)))) else (some 3)) else (if a0_5 = true then (if a0_6 = true then (some 3) else (if a0_7 = true then (if a0_2 = 4 then (some 3) else (if a0_11 = true then (if a0_10 = true then (some 0) else (some 3)) else (some 0))) else (if a0_11 = true then (if a0_10 = true then (some 0) else (some 3)) else (some 0)))) else (some 3)))) else (if a0_2 = 3 then (if a0_5 = true then (if a0_6 = true then (if a0_7 = true then (some 3) else (if a0_11 = true then (if a0_10 = true then (some 0) else (some 3)) else (some 0))) else (if a0_7 = true then (some 3) else (if a0_11 = true then (if a0_10 = true then (some 0) else (some 3)) else (some 0)))) else (some 3)) else (if a0_5 = true then (if a0_6 = true then (if a0_7 = true then (if a0_2 = 4 then (some 3) else (if a0_11 = true then (if a0_10 = true then (some 0) else (some 3)) else (some 0))) else (if a0_11 = true then (if a0_10 = true then (some 0) else (some 3)) else (some 0))) else (if a0_7 = true then (if a0_2 = 4 then (some 3) else (if a0_11 = true then (if a0_10 = true then (some 0) else (some 3)) else (some 0))) else (if a0_11 = true then (if a0_10 = true then (some 0) else (some 3)) else (some 0)))) else (some 3)))) = some r := by rw [if_neg (show ¬ (false = true) by decide)] at H; exact H
        clear H
        have H := H1
        clear H1
        by_cases c16 : a0_1 = 0
        · rw [if_pos c16] at H
          have c16b0 : (a0_1 == 0) = true := beq_iff_eq.mpr c16
          have c16b1 : (a0_1 != 0) = false := bne_eq_false_iff_eq.mpr c16
          clear c16
          by_cases c17 : a0_2 = 0
          · rw [if_pos c17] at H
            have c17b0 : (a0_2 == 0) = true := beq_iff_eq.mpr c17
            have c17b1 : (a0_2 != 0) = false := bne_eq_false_iff_eq.mpr c17
            clear c17
            by_cases c18 : a0_7 = true
            · subst c18
              have H1 : (if a0_2 = 3 then (if a0_5 = true then (if a0_6 = true then (some 3) else (some 3)) else (some 3)) else (if a0_5 = true then (if a0_6 = true then (some 3) else (if a0_2 = 4 then (some 3) else (if a0_11 = true then (if a0_10 = true then (some 0) else (some 3)) else (some 0)))) else (some 3))) = some r := by rw [if_pos rfl] at H; exact H
              clear H
              have H := H1
              clear H1
              by_cases c19 : a0_2 = 3
              · rw [if_pos c19] at H
                have c19b0 : (a0_2 == 3) = true := beq_iff_eq.mpr c19
                have c19b1 : (a0_2 != 3) = false := bne_eq_false_iff_eq.mpr c19
                clear c19
                by_cases c20 : a0_5 = true
                · subst c20
                  have H1 : (if a0_6 = true then (some 3) else (some 3)) = some r := by rw [if_pos rfl] at H; exact H
                  clear H
                  have H := H1
                  clear H1
                  by_cases c21 : a0_6 = true
                  · subst c21
                    have H1 : (some 3) = some r := by rw [if_pos rfl] at H; exact H
                    clear H
                    have H := H1
                    clear H1
                    obtain rfl := Option.some.inj H
                    have hcz22_0 : wc.cell? ⟨gb181, 0, none⟩ = some (.int .i64 a0_0) := (blk_cell BK181.out 0).trans rfl
                    have hcz22_1 : wc.cell? ⟨gb181, 1, none⟩ = some (.int .i64 a0_1) := (blk_cell BK181.out 1).trans rfl
                    have hcz22_2 : wc.cell? ⟨gb181, 2, none⟩ = some (.int .i64 a0_2) := (blk_cell BK181.out 2).trans rfl
                    have hcz22_3 : wc.cell? ⟨gb181, 3, none⟩ = some (.int .i64 a0_3) := (blk_cell BK181.out 3).trans rfl
                    have hcz22_4 : wc.cell? ⟨gb181, 4, none⟩ = some (.bool a0_4) := (blk_cell BK181.out 4).trans rfl
                    have hcz22_5 : wc.cell? ⟨gb181, 5, none⟩ = some (.bool true) := (blk_cell BK181.out 5).trans rfl
                    have hcz22_6 : wc.cell? ⟨gb181, 6, none⟩ = some (.bool true) := (blk_cell BK181.out 6).trans rfl
                    have hcz22_7 : wc.cell? ⟨gb181, 7, none⟩ = some (.bool true) := (blk_cell BK181.out 7).trans rfl
                    have hcz22_8 : wc.cell? ⟨gb181, 8, none⟩ = some (.bool a0_8) := (blk_cell BK181.out 8).trans rfl
                    have hcz22_9 : wc.cell? ⟨gb181, 9, none⟩ = some (.bool a0_9) := (blk_cell BK181.out 9).trans rfl
                    have hcz22_10 : wc.cell? ⟨gb181, 10, none⟩ = some (.bool a0_10) := (blk_cell BK181.out 10).trans rfl
                    have hcz22_11 : wc.cell? ⟨gb181, 11, none⟩ = some (.bool a0_11) := (blk_cell BK181.out 11).trans rfl
                    have hcz22_12 : wc.cell? ⟨gb181, 12, none⟩ = some (.bool a0_12) := (blk_cell BK181.out 12).trans rfl
                    have hcz22_13 : wc.cell? ⟨gb181, 13, none⟩ = some (.bool a0_13) := (blk_cell BK181.out 13).trans rfl
                    go_wp2
                    go_ret
                    exact ⟨by first | rfl | (simp [errW_none, errW_some] <;> rfl) | (simp [*, errW_none, errW_some] <;> rfl), by repeat (first | (with_reducible first | exact HB.out | apply below_alloc | apply pw_below_drewN | apply below_drew1 | refine below_set ?_ GE181.out) | exact HB.out)⟩
                  · replace c21 := Bool.eq_false_iff.mpr c21
                    subst c21
                    have H1 : (some 3) = some r := by rw [if_neg (show ¬ (false = true) by decide)] at H; exact H
                    clear H
                    have H := H1
                    clear H1
                    obtain rfl := Option.some.inj H
                    have hcz23_0 : wc.cell? ⟨gb181, 0, none⟩ = some (.int .i64 a0_0) := (blk_cell BK181.out 0).trans rfl
                    have hcz23_1 : wc.cell? ⟨gb181, 1, none⟩ = some (.int .i64 a0_1) := (blk_cell BK181.out 1).trans rfl
                    have hcz23_2 : wc.cell? ⟨gb181, 2, none⟩ = some (.int .i64 a0_2) := (blk_cell BK181.out 2).trans rfl
                    have hcz23_3 : wc.cell? ⟨gb181, 3, none⟩ = some (.int .i64 a0_3) := (blk_cell BK181.out 3).trans rfl
                    have hcz23_4 : wc.cell? ⟨gb181, 4, none⟩ = some (.bool a0_4) := (blk_cell BK181.out 4).trans rfl
                    have hcz23_5 : wc.cell? ⟨gb181, 5, none⟩ = some (.bool true) := (blk_cell BK181.out 5).trans rfl
                    have hcz23_6 : wc.cell? ⟨gb181, 6, none⟩ = some (.bool false) := (blk_cell BK181.out 6).trans rfl
                    have hcz23_7 : wc.cell? ⟨gb181, 7, none⟩ = some (.bool true) := (blk_cell BK181.out 7).trans rfl
                    have hcz23_8 : wc.cell? ⟨gb181, 8, none⟩ = some (.bool a0_8) := (blk_cell BK181.out 8).trans rfl
                    have hcz23_9 : wc.cell? ⟨gb181, 9, none⟩ = some (.bool a0_9) := (blk_cell BK181.out 9).trans rfl
                    have hcz23_10 : wc.cell? ⟨gb181, 10, none⟩ = some (.bool a0_10) := (blk_cell BK181.out 10).trans rfl
                    have hcz23_11 : wc.cell? ⟨gb181, 11, none⟩ = some (.bool a0_11) := (blk_cell BK181.out 11).trans rfl
                    have hcz23_12 : wc.cell? ⟨gb181, 12, none⟩ = some (.bool a0_12) := (blk_cell BK181.out 12).trans rfl
                    have hcz23_13 : wc.cell? ⟨gb181, 13, none⟩ = some (.bool a0_13) := (blk_cell BK181.out 13).trans rfl
                    go_wp2
                    go_ret
                    exact ⟨by first | rfl | (simp [errW_none, errW_some] <;> rfl) | (simp [*, errW_none, errW_some] <;> rfl), by repeat (first | (with_reducible first | exact HB.out | apply below_alloc | apply pw_below_drewN | apply below_drew1 | refine below_set ?_ GE181.out) | exact HB.out)⟩
                · replace c20 := Bool.eq_false_iff.mpr c20
                  subst c20
                  have H1 : (some 3) = some r := by rw [if_neg (show ¬ (false = true) by decide)] at H; exact H
                  clear H
                  have H := H1
                  clear H1
                  obtain rfl := Option.some.inj H
                  have hcz24_0 : wc.cell? ⟨gb181, 0, none⟩ = some (.int .i64 a0_0) := (blk_cell BK181.out 0).trans rfl
                  have hcz24_1 : wc.cell? ⟨gb181, 1, none⟩ = some (.int .i64 a0_1) := (blk_cell BK181.out 1).trans rfl
                  have hcz24_2 : wc.cell? ⟨gb181, 2, none⟩ = some (.int .i64 a0_2) := (blk_cell BK181.out 2).trans rfl
                  have hcz24_3 : wc.cell? ⟨gb181, 3, none⟩ = some (.int .i64 a0_3) := (blk_cell BK181.out 3).trans rfl
                  have hcz24_4 : wc.cell? ⟨gb181, 4, none⟩ = some (.bool a0_4) := (blk_cell BK181.out 4).trans rfl
                  have hcz24_5 : wc.cell? ⟨gb181, 5, none⟩ = some (.bool false) := (blk_cell BK181.out 5).trans rfl
                  have hcz24_6 : wc.cell? ⟨gb181, 6, none⟩ = some (.bool a0_6) := (blk_cell BK181.out 6).trans rfl
                  have hcz24_7 : wc.cell? ⟨gb181, 7, none⟩ = some (.bool true) := (blk_cell BK181.out 7).trans rfl
                  have hcz24_8 : wc.cell? ⟨gb181, 8, none⟩ = some (.bool a0_8) := (blk_cell BK181.out 8).trans rfl
                  have hcz24_9 : wc.cell? ⟨gb181, 9, none⟩ = some (.bool a0_9) := (blk_cell BK181.out 9).trans rfl
                  have hcz24_10 : wc.cell? ⟨gb181, 10, none⟩ = some (.bool a0_10) := (blk_cell BK181.out 10).trans rfl
                  have hcz24_11 : wc.cell? ⟨gb181, 11, none⟩ = some (.bool a0_11) := (blk_cell BK181.out 11).trans rfl
                  have hcz24_12 : wc.cell? ⟨gb181, 12, none⟩ = some (.bool a0_12) := (blk_cell BK181.out 12).trans rfl
                  have hcz24_13 : wc.cell? ⟨gb181, 13, none⟩ = some (.bool a0_13) := (blk_cell BK181.out 13).trans rfl
                  go_wp2
                  go_ret
                  exact ⟨by first | rfl | (simp [errW_none, errW_some] <;> rfl) | (simp [*, errW_none, errW_some] <;> rfl), by repeat (first | (with_reducible first | exact HB.out | apply below_alloc | apply pw_below_drewN | apply below_drew1 | refine below_set ?_ GE181.out) | exact HB.out)⟩
              · rw [if_neg c19] at H
                have c19b0 : (a0_2 == 3) = false := beq_eq_false_iff_ne.mpr c19
                have c19b1 : (a0_2 != 3) = true := bne_iff_ne.mpr c19
                by_cases c25 : a0_5 = true
                · subst c25
                  have H1 : (if a0_6 = true then (some 3) else (if a0_2 = 4 then (some 3) else (if a0_11 = true then (if a0_10 = true then (some 0) else (some 3)) else (some 0)))) = some r := by rw [if_pos rfl] at H; exact H
                  clear H
                  have H := H1
                  clear H1
                  by_cases c26 : a0_6 = true
                  · subst c26
                    have H1 : (some 3) = some r := by rw [if_pos rfl] at H; exact H
                    clear H
                    have H := H1
                    clear H1
                    obtain rfl := Option.some.inj H
                    have hcz27_0 : wc.cell? ⟨gb181, 0, none⟩ = some (.int .i64 a0_0) := (blk_cell BK181.out 0).trans rfl
                    have hcz27_1 : wc.cell? ⟨gb181, 1, none⟩ = some (.int .i64 a0_1) := (blk_cell BK181.out 1).trans rfl
                    have hcz27_2 : wc.cell? ⟨gb181, 2, none⟩ = some (.int .i64 a0_2) := (blk_cell BK181.out 2).trans rfl
                    have hcz27_3 : wc.cell? ⟨gb181, 3, none⟩ = some (.int .i64 a0_3) := (blk_cell BK181.out 3).trans rfl
                    have hcz27_4 : wc.cell? ⟨gb181, 4, none⟩ = some (.bool a0_4) := (blk_cell BK181.out 4).trans rfl
                    have hcz27_5 : wc.cell? ⟨gb181, 5, none⟩ = some (.bool true) := (blk_cell BK181.out 5).trans rfl
                    have hcz27_6 : wc.cell? ⟨gb181, 6, none⟩ = some (.bool true) := (blk_cell BK181.out 6).trans rfl
                    have hcz27_7 : wc.cell? ⟨gb181, 7, none⟩ = some (.bool true) := (blk_cell BK181.out 7).trans rfl
                    have hcz27_8 : wc.cell? ⟨gb181, 8, none⟩ = some (.bool a0_8) := (blk_cell BK181.out 8).trans rfl
                    have hcz27_9 : wc.cell? ⟨gb181, 9, none⟩ = some (.bool a0_9) := (blk_cell BK181.out 9).trans rfl
                    have hcz27_10 : wc.cell? ⟨gb181, 10, none⟩ = some (.bool a0_10) := (blk_cell BK181.out 10).trans rfl
                    have hcz27_11 : wc.cell? ⟨gb181, 11, none⟩ = some (.bool a0_11) := (blk_cell BK181.out 11).trans rfl
                    have hcz27_12 : wc.cell? ⟨gb181, 12, none⟩ = some (.bool a0_12) := (blk_cell BK181.out 12).trans rfl
                    have hcz27_13 : wc.cell? ⟨gb181, 13, none⟩ = some (.bool a0_13) := (blk_cell BK181.out 13).trans rfl
                    go_wp2
                    go_ret
                    exact ⟨by first | rfl | (simp [errW_none, errW_some] <;> rfl) | (simp [*, errW_none, errW_some] <;> rfl), by repeat (first | (with_reducible first | exact HB.out | apply below_alloc | apply pw_below_drewN | apply below_drew1 | refine below_set ?_ GE181.out) | exact HB.out)⟩
                  · replace c26 := Bool.eq_false_iff.mpr c26
                    subst c26
                    have H1 : (if a0_2 = 4 then (some 3) else (if a0_11 = true then (if a0_10 = true then (some 0) else (some 3)) else (some 0))) = some r := by rw [if_neg (show ¬ (false = true) by decide)] at H; exact H
                    clear H
                    have H := H1
                    clear H1
                    by_cases c28 : a0_2 = 4
                    · rw [if_pos c28] at H
                      have c28b0 : (a0_2 == 4) = true := beq_iff_eq.mpr c28
                      have c28b1 : (a0_2 != 4) = false := bne_eq_false_iff_eq.mpr c28
                      clear c28
                      obtain rfl := Option.some.inj H
                      have hcz29_0 : wc.cell? ⟨gb181, 0, none⟩ = some (.int .i64 a0_0) := (blk_cell BK181.out 0).trans rfl
                      have hcz29_1 : wc.cell? ⟨gb181, 1, none⟩ = some (.int .i64 a0_1) := (blk_cell BK181.out 1).trans rfl
                      have hcz29_2 : wc.cell? ⟨gb181, 2, none⟩ = some (.int .i64 a0_2) := (blk_cell BK181.out 2).trans rfl
                      have hcz29_3 : wc.cell? ⟨gb181, 3, none⟩ = some (.int .i64 a0_3) := (blk_cell BK181.out 3).trans rfl
                      have hcz29_4 : wc.cell? ⟨gb181, 4, none⟩ = some (.bool a0_4) := (blk_cell BK181.out 4).trans rfl
                      have hcz29_5 : wc.cell? ⟨gb181, 5, none⟩ = some (.bool true) := (blk_cell BK181.out 5).trans rfl
                      have hcz29_6 : wc.cell? ⟨gb181, 6, none⟩ = some (.bool false) := (blk_cell BK181.out 6).trans rfl
                      have hcz29_7 : wc.cell? ⟨gb181, 7, none⟩ = some (.bool true) := (blk_cell BK181.out 7).trans rfl
                      have hcz29_8 : wc.cell? ⟨gb181, 8, none⟩ = some (.bool a0_8) := (blk_cell BK181.out 8).trans rfl
                      have hcz29_9 : wc.cell? ⟨gb181, 9, none⟩ = some (.bool a0_9) := (blk_cell BK181.out 9).trans rfl
                      have hcz29_10 : wc.cell? ⟨gb181, 10, none⟩ = some (.bool a0_10) := (blk_cell BK181.out 10).trans rfl
                      have hcz29_11 : wc.cell? ⟨gb181, 11, none⟩ = some (.bool a0_11) := (blk_cell BK181.out 11).trans rfl
                      have hcz29_12 : wc.cell? ⟨gb181, 12, none⟩ = some (.bool a0_12) := (blk_cell BK181.out 12).trans rfl
                      have hcz29_13 : wc.cell? ⟨gb181, 13, none⟩ = some (.bool a0_13) := (blk_cell BK181.out 13).trans rfl
                      go_wp2
                      go_ret
                      exact ⟨by first | rfl | (simp [errW_none, errW_some] <;> rfl) | (simp [*, errW_none, errW_some] <;> rfl), by repeat (first | (with_reducible first | exact HB.out | apply below_alloc | apply pw_below_drewN | apply below_drew1 | refine below_set ?_ GE181.out) | exact HB.out)⟩
                    · rw [if_neg c28] at H
                      have c28b0 : (a0_2 == 4) = false := beq_eq_false_iff_ne.mpr c28
                      have c28b1 : (a0_2 != 4) = true := bne_iff_ne.mpr c28
                      by_cases c30 : a0_11 = true
                      · subst c30
                        have H1 : (if a0_10 = true then (some 0) else (some 3)) = some r := by rw [if_pos rfl] at H; exact H
                        clear H
                        have H := H1
                        clear H1
                        by_cases c31 : a0_10 = true
                        · subst c31
                          have H1 : (some 0) = some r := by rw [if_pos rfl] at H; exact H
                          clear H
                          have H := H1
                          clear H1
                          obtain rfl := Option.some.inj H
                          have hcz32_0 : wc.cell? ⟨gb181, 0, none⟩ = some (.int .i64 a0_0) := (blk_cell BK181.out 0).trans rfl
                          have hcz32_1 : wc.cell? ⟨gb181, 1, none⟩ = some (.int .i64 a0_1) := (blk_cell BK181.out 1).trans rfl
                          have hcz32_2 : wc.cell? ⟨gb181, 2, none⟩ = some (.int .i64 a0_2) := (blk_cell BK181.out 2).trans rfl
                          have hcz32_3 : wc.cell? ⟨gb181, 3, none⟩ = some (.int .i64 a0_3) := (blk_cell BK181.out 3).trans rfl
                          have hcz32_4 : wc.cell? ⟨gb181, 4, none⟩ = some (.bool a0_4) := (blk_cell BK181.out 4).trans rfl
                          have hcz32_5 : wc.cell? ⟨gb181, 5, none⟩ = some (.bool true) := (blk_cell BK181.out 5).trans rfl
                          have hcz32_6 : wc.cell? ⟨gb181, 6, none⟩ = some (.bool false) := (blk_cell BK181.out 6).trans rfl
                          have hcz32_7 : wc.cell? ⟨gb181, 7, none⟩ = some (.bool true) := (blk_cell BK181.out 7).trans rfl
                          have hcz32_8 : wc.cell? ⟨gb181, 8, none⟩ = some (.bool a0_8) := (blk_cell BK181.out 8).trans rfl
                          have hcz32_9 : wc.cell? ⟨gb181, 9, none⟩ = some (.bool a0_9) := (blk_cell BK181.out 9).trans rfl
                          have hcz32_10 : wc.cell? ⟨gb181, 10, none⟩ = some (.bool true) := (blk_cell BK181.out 10).trans rfl
                          have hcz32_11 : wc.cell? ⟨gb181, 11, none⟩ = some (.bool true) := (blk_cell BK181.out 11).trans rfl
                          have hcz32_12 : wc.cell? ⟨gb181, 12, none⟩ = some (.bool a0_12) := (blk_cell BK181.out 12).trans rfl
                          have hcz32_13 : wc.cell? ⟨gb181, 13, none⟩ = some (.bool a0_13) := (blk_cell BK181.out 13).trans rfl
                          go_wp2
                          go_ret
                          exact ⟨by first | rfl | (simp [errW_none, errW_some] <;> rfl) | (simp [*, errW_none, errW_some] <;> rfl), by repeat (first | (with_reducible first | exact HB.out | apply below_alloc | apply pw_below_drewN | apply below_drew1 | refine below_set ?_ GE181.out) | exact HB.out)⟩
                        · replace c31 := Bool.eq_false_iff.mpr c31
                          subst c31
                          have H1 : (some 3) = some r := by rw [if_neg (show ¬ (false = true) by decide)] at H; exact H
                          clear H
                          have H := H1
                          clear H1
                          obtain rfl := Option.some.inj H
                          have hcz33_0 : wc.cell? ⟨gb181, 0, none⟩ = some (.int .i64 a0_0) := (blk_cell BK181.out 0).trans rfl
                          have hcz33_1 : wc.cell? ⟨gb181, 1, none⟩ = some (.int .i64 a0_1) := (blk_cell BK181.out 1).trans rfl
                          have hcz33_2 : wc.cell? ⟨gb181, 2, none⟩ = some (.int .i64 a0_2) := (blk_cell BK181.out 2).trans rfl
                          have hcz33_3 : wc.cell? ⟨gb181, 3, none⟩ = some (.int .i64 a0_3) := (blk_cell BK181.out 3).trans rfl
                          have hcz33_4 : wc.cell? ⟨gb181, 4, none⟩ = some (.bool a0_4) := (blk_cell BK181.out 4).trans rfl
                          have hcz33_5 : wc.cell? ⟨gb181, 5, none⟩ = some (.bool true) := (blk_cell BK181.out 5).trans rfl
                          have hcz33_6 : wc.cell? ⟨gb181, 6, none⟩ = some (.bool false) := (blk_cell BK181.out 6).trans rfl
                          have hcz33_7 : wc.cell? ⟨gb181, 7, none⟩ = some (.bool true) := (blk_cell BK181.out 7).trans rfl
                          have hcz33_8 : wc.cell? ⟨gb181, 8, none⟩ = some (.bool a0_8) := (blk_cell BK181.out 8).trans rfl
                          have hcz33_9 : wc.cell? ⟨gb181, 9, none⟩ = some (.bool a0_9) := (blk_cell BK181.out 9).trans rfl
                          have hcz33_10 : wc.cell? ⟨gb181, 10, none⟩ = some (.bool false) := (blk_cell BK181.out 10).trans rfl
                          have hcz33_11 : wc.cell? ⟨gb181, 11, none⟩ = some (.bool true) := (blk_cell BK181.out 11).trans rfl
                          have hcz33_12 : wc.cell? ⟨gb181, 12, none⟩ = some (.bool a0_12) := (blk_cell BK181.out 12).trans rfl
                          have hcz33_13 : wc.cell? ⟨gb181, 13, none⟩ = some (.bool a0_13) := (blk_cell BK181.out 13).trans rfl
                          go_wp2
                          go_ret
                          exact ⟨by first | rfl | (simp [errW_none, errW_some] <;> rfl) | (simp [*, errW_none, errW_some] <;> rfl), by repeat (first | (with_reducible first | exact HB.out | apply below_alloc | apply pw_below_drewN | apply below_drew1 | refine below_set ?_ GE181.out) | exact HB.out)⟩
                      · replace c30 := Bool.eq_false_iff.mpr c30
                        subst c30
                        have H1 : (some 0) = some r := by rw [if_neg (show ¬ (false = true) by decide)] at H; exact H
                        clear H
                        have H := H1
                        clear H1
                        obtain rfl := Option.some.inj H
                        have hcz34_0 : wc.cell? ⟨gb181, 0, none⟩ = some (.int .i64 a0_0) := (blk_cell BK181.out 0).trans rfl
                        have hcz34_1 : wc.cell? ⟨gb181, 1, none⟩ = some (.int .i64 a0_1) := (blk_cell BK181.out 1).trans rfl
                        have hcz34_2 : wc.cell? ⟨gb181, 2, none⟩ = some (.int .i64 a0_2) := (blk_cell BK181.out 2).trans rfl
                        have hcz34_3 : wc.cell? ⟨gb181, 3, none⟩ = some (.int .i64 a0_3) := (blk_cell BK181.out 3).trans rfl
                        have hcz34_4 : wc.cell? ⟨gb181, 4, none⟩ = some (.bool a0_4) := (blk_cell BK181.out 4).trans rfl
                        have hcz34_5 : wc.cell? ⟨gb181, 5, none⟩ = some (.bool true) := (blk_cell BK181.out 5).trans rfl
                        have hcz34_6 : wc.cell? ⟨gb181, 6, none⟩ = some (.bool false) := (blk_cell BK181.out 6).trans rfl
                        have hcz34_7 : wc.cell? ⟨gb181, 7, none⟩ = some (.bool true) := (blk_cell BK181.out 7).trans rfl
                        have hcz34_8 : wc.cell? ⟨gb181, 8, none⟩ = some (.bool a0_8) := (blk_cell BK181.out 8).trans rfl
                        have hcz34_9 : wc.cell? ⟨gb181, 9, none⟩ = some (.bool a0_9) := (blk_cell BK181.out 9).trans rfl
                        have hcz34_10 : wc.cell? ⟨gb181, 10, none⟩ = some (.bool a0_10) := (blk_cell BK181.out 10).trans rfl
                        have hcz34_11 : wc.cell? ⟨gb181, 11, none⟩ = some (.bool false) := (blk_cell BK181.out 11).trans rfl
                        have hcz34_12 : wc.cell? ⟨gb181, 12, none⟩ = some (.bool a0_12) := (blk_cell BK181.out 12).trans rfl
                        have hcz34_13 : wc.cell? ⟨gb181, 13, none⟩ = some (.bool a0_13) := (blk_cell BK181.out 13).trans rfl
                        go_wp2
                        go_ret
                        exact ⟨by first | rfl | (simp [errW_none, errW_some] <;> rfl) | (simp [*, errW_none, errW_some] <;> rfl), by repeat (first | (with_reducible first | exact HB.out | apply below_alloc | apply pw_below_drewN | apply below_drew1 | refine below_set ?_ GE181.out) | exact HB.out)⟩
                · replace c25 := Bool.eq_false_iff.mpr c25
                  subst c25
                  have H1 : (some 3) = some r := by rw [if_neg (show ¬ (false = true) by decide)] at H; exact H
                  clear H
                  have H := H1
                  clear H1
                  obtain rfl := Option.some.inj H
                  have hcz35_0 : wc.cell? ⟨gb181, 0, none⟩ = some (.int .i64 a0_0) := (blk_cell BK181.out 0).trans rfl
                  have hcz35_1 : wc.cell? ⟨gb181, 1, none⟩ = some (.int .i64 a0_1) := (blk_cell BK181.out 1).trans rfl
                  have hcz35_2 : wc.cell? ⟨gb181, 2, none⟩ = some (.int .i64 a0_2) := (blk_cell BK181.out 2).trans rfl
                  have hcz35_3 : wc.cell? ⟨gb181, 3, none⟩ = some (.int .i64 a0_3) := (blk_cell BK181.out 3).trans rfl
                  have hcz35_4 : wc.cell? ⟨gb181, 4, none⟩ = some (.bool a0_4) := (blk_cell BK181.out 4).trans rfl
                  have hcz35_5 : wc.cell? ⟨gb181, 5, none⟩ = some (.bool false) := (blk_cell BK181.out 5).trans rfl
                  have hcz35_6 : wc.cell? ⟨gb181, 6, none⟩ = some (.bool a0_6) := (blk_cell BK181.out 6).trans rfl
                  have hcz35_7 : wc.cell? ⟨gb181, 7, none⟩ = some (.bool true) := (blk_cell BK181.out 7).trans rfl
                  have hcz35_8 : wc.cell? ⟨gb181, 8, none⟩ = some (.bool a0_8) := (blk_cell BK181.out 8).trans rfl
                  have hcz35_9 : wc.cell? ⟨gb181, 9, none⟩ = some (.bool a0_9) := (blk_cell BK181.out 9).trans rfl
                  have hcz35_10 : wc.cell? ⟨gb181, 10, none⟩ = some (.bool a0_10) := (blk_cell BK181.out 10).trans rfl
                  have hcz35_11 : wc.cell? ⟨gb181, 11, none⟩ = some (.bool a0_11) := (blk_cell BK181.out 11).trans rfl
                  have hcz35_12 : wc.cell? ⟨gb181, 12, none⟩ = some (.bool a0_12) := (blk_cell BK181.out 12).trans rfl
                  have hcz35_13 : wc.cell? ⟨gb181, 13, none⟩ = some (.bool a0_13) := (blk_cell BK181.out 13).trans rfl
                  go_wp2
                  go_ret
                  exact ⟨by first | rfl | (simp [errW_none, errW_some] <;> rfl) | (simp [*, errW_none, errW_some] <;> rfl), by repeat (first | (with_reducible first | exact HB.out | apply below_alloc | apply pw_below_drewN | apply below_drew1 | refine below_set ?_ GE181.out) | exact HB.out)⟩
            · replace c18 := Bool.eq_false_iff.mpr c18
              subst c18
              have H1 : (if a0_8 = true then (if a0_2 = 3 then (if a0_5 = true then (if a0_6 = true then (some 3) else (if a0_11 = true then (if a0_10 = true then (some 0) else (some 3)) else (some 0))) else (some 3)) else (if a0_5 = true then (if a0_6 = true then (some 3) else (if a0_11 = true then (if a0_10 = true then (some 0) else (some 3)) else (some 0))) else (some 3))) else (if a0_2 = 3 then (if a0_9 = true then (if a0_5 = true then (if a0_6 = true then (some 3) else (if a0_11 = true then (if a0_10 = true then (some 0) else (some 3)) else (some 0))) else (some 3)) else (if a0_6 = true then (some 3) else (if a0_11 = true then (if a0_10 = true then (some 0) else (some 3)) else (some 0)))) else (if a0_9 = true then (if a0_5 = true then (if a0_6 = true then (some 3) else (if a0_11 = true then (if a0_10 = true then (some 0) else (some 3)) else (some 0))) else (some 3)) else (if a0_6 = true then (some 3) else (if a0_11 = true then (if a0_10 = true then (some 0) else (some 3)) else (some 0)))))) = some r := by rw [if_neg (show ¬ (false = true) by decide)] at H; exact H
              clear H
              have H := H1
              clear H1
              by_cases c36 : a0_8 = true
              · subst c36
                have H1 : (if a0_2 = 3 then (if a0_5 = true then (if a0_6 = true then (some 3) else (if a0_11 = true then (if a0_10 = true then (some 0) else (some 3)) else (some 0))) else (some 3)) else (if a0_5 = true then (if a0_6 = true then (some 3) else (if a0_11 = true then (if a0_10 = true then (some 0) else (some 3)) else (some 0))) else (some 3))) = some r := by rw [if_pos rfl] at H; exact H
                clear H
                have H := H1
                clear H1
                by_cases c37 : a0_2 = 3
                · rw [if_pos c37] at H
                  have c37b0 : (a0_2 == 3) = true := beq_iff_eq.mpr c37
                  have c37b1 : (a0_2 != 3) = false := bne_eq_false_iff_eq.mpr c37
                  clear c37
                  by_cases c38 : a0_5 = true
                  · subst c38
                    have H1 : (if a0_6 = true then (some 3) else (if a0_11 = true then (if a0_10 = true then (some 0) else (some 3)) else (some 0))) = some r := by rw [if_pos rfl] at H; exact H
                    clear H
                    have H := H1
                    clear H1
                    by_cases c39 : a0_6 = true
                    · subst c39
                      have H1 : (some 3) = some r := by rw [if_pos rfl] at H; exact H
                      clear H
                      have H := H1
                      clear H1
                      obtain rfl := Option.some.inj H
                      have hcz40_0 : wc.cell? ⟨gb181, 0, none⟩ = some (.int .i64 a0_0) := (blk_cell BK181.out 0).trans rfl
                      have hcz40_1 : wc.cell? ⟨gb181, 1, none⟩ = some (.int .i64 a0_1) := (blk_cell BK181.out 1).trans rfl
                      have hcz40_2 : wc.cell? ⟨gb181, 2, none⟩ = some (.int .i64 a0_2) := (blk_cell BK181.out 2).trans rfl
                      have hcz40_3 : wc.cell? ⟨gb181, 3, none⟩ = some (.int .i64 a0_3) := (blk_cell BK181.out 3).trans rfl
                      have hcz40_4 : wc.cell? ⟨gb181, 4, none⟩ = some (.bool a0_4) := (blk_cell BK181.out 4).trans rfl
                      have hcz40_5 : wc.cell? ⟨gb181, 5, none⟩ = some (.bool true) := (blk_cell BK181.out 5).trans rfl
                      have hcz40_6 : wc.cell? ⟨gb181, 6, none⟩ = some (.bool true) := (blk_cell BK181.out 6).trans rfl
                      have hcz40_7 : wc.cell? ⟨gb181, 7, none⟩ = some (.bool false) := (blk_cell BK181.out 7).trans rfl
                      have hcz40_8 : wc.cell? ⟨gb181, 8, none⟩ = some (.bool true) := (blk_cell BK181.out 8).trans rfl
                      have hcz40_9 : wc.cell? ⟨gb181, 9, none⟩ = some (.bool a0_9) := (blk_cell BK181.out 9).trans rfl
                      have hcz40_10 : wc.cell? ⟨gb181, 10, none⟩ = some (.bool a0_10) := (blk_cell BK181.out 10).trans rfl
                      have hcz40_11 : wc.cell? ⟨gb181, 11, none⟩ = some (.bool a0_11) := (blk_cell BK181.out 11).trans rfl
                      have hcz40_12 : wc.cell? ⟨gb181, 12, none⟩ = some (.bool a0_12) := (blk_cell BK181.out 12).trans rfl
                      have hcz40_13 : wc.cell? ⟨gb181, 13, none⟩ = some (.bool a0_13) := (blk_cell BK181.out 13).trans rfl
                      go_wp2
                      go_ret
                      exact ⟨by first | rfl | (simp [errW_none, errW_some] <;> rfl) | (simp [*, errW_none, errW_some] <;> rfl), by repeat (first | (with_reducible first | exact HB.out | apply below_alloc | apply pw_below_drewN | apply below_drew1 | refine below_set ?_ GE181.out) | exact HB.out)⟩
                    · replace c39 := Bool.eq_false_iff.mpr c39
                      subst c39
                      have H1 : (if a0_11 = true then (if a0_10 = true then (some 0) else (some 3)) else (some 0)) = some r := by rw [if_neg (show ¬ (false = true) by decide)] at H; exact H
                      clear H
                      have H := H1
                      clear H1
                      by_cases c41 : a0_11 = true
                      · subst c41
                        have H1 : (if a0_10 = true then (some 0) else (some 3)) = some r := by rw [if_pos rfl] at H; exact H
                        clear H
                        have H := H1
                        clear H1
                        by_cases c42 : a0_10 = true
                        · subst c42
                          have H1 : (some 0) = some r := by rw [if_pos rfl] at H; exact H
                          clear H
                          have H := H1
                          clear H1
                          obtain rfl := Option.some.inj H
                          have hcz43_0 : wc.cell? ⟨gb181, 0, none⟩ = some (.int .i64 a0_0) := (blk_cell BK181.out 0).trans rfl
                          have hcz43_1 : wc.cell? ⟨gb181, 1, none⟩ = some (.int .i64 a0_1) := (blk_cell BK181.out 1).trans rfl
                          have hcz43_2 : wc.cell? ⟨gb181, 2, none⟩ = some (.int .i64 a0_2) := (blk_cell BK181.out 2).trans rfl
                          have hcz43_3 : wc.cell? ⟨gb181, 3, none⟩ = some (.int .i64 a0_3) := (blk_cell BK181.out 3).trans rfl
                          have hcz43_4 : wc.cell? ⟨gb181, 4, none⟩ = some (.bool a0_4) := (blk_cell BK181.out 4).trans rfl
                          have hcz43_5 : wc.cell? ⟨gb181, 5, none⟩ = some (.bool true) := (blk_cell BK181.out 5).trans rfl
                          have hcz43_6 : wc.cell? ⟨gb181, 6, none⟩ = some (.bool false) := (blk_cell BK181.out 6).trans rfl
                          have hcz43_7 : wc.cell? ⟨gb181, 7, none⟩ = some (.bool false) := (blk_cell BK181.out 7).trans rfl
                          have hcz43_8 : wc.cell? ⟨gb181, 8, none⟩ = some (.bool true) := (blk_cell BK181.out 8).trans rfl
                          have hcz43_9 : wc.cell? ⟨gb181, 9, none⟩ = some (.bool a0_9) := (blk_cell BK181.out 9).trans rfl
                          have hcz43_10 : wc.cell? ⟨gb181, 10, none⟩ = some (.bool true) := (blk_cell BK181.out 10).trans rfl
                          have hcz43_11 : wc.cell? ⟨gb181, 11, none⟩ = some (.bool true) := (blk_cell BK181.out 11).trans rfl
                          have hcz43_12 : wc.cell? ⟨gb181, 12, none⟩ = some (.bool a0_12) := (blk_cell BK181.out 12).trans rfl
                          have hcz43_13 : wc.cell? ⟨gb181, 13, none⟩ = some (.bool a0_13) := (blk_cell BK181.out 13).trans rfl
                          go_wp2
                          go_ret
                          exact ⟨by first | rfl | (simp [errW_none, errW_some] <;> rfl) | (simp [*, errW_none, errW_some] <;> rfl), by repeat (first | (with_reducible first | exact HB.out | apply below_alloc | apply pw_below_drewN | apply below_drew1 | refine below_set ?_ GE181.out) | exact HB.out)⟩
                        · replace c42 := Bool.eq_false_iff.mpr c42
                          subst c42
                          have H1 : (some 3) = some r := by rw [if_neg (show ¬ (false = true) by decide)] at H; exact H
                          clear H
                          have H := H1
                          clear H1
                          obtain rfl := Option.some.inj H
                          have hcz44_0 : wc.cell? ⟨gb181, 0, none⟩ = some (.int .i64 a0_0) := (blk_cell BK181.out 0).trans rfl
                          have hcz44_1 : wc.cell? ⟨gb181, 1, none⟩ = some (.int .i64 a0_1) := (blk_cell BK181.out 1).trans rfl
                          have hcz44_2 : wc.cell? ⟨gb181, 2, none⟩ = some (.int .i64 a0_2) := (blk_cell BK181.out 2).trans rfl
                          have hcz44_3 : wc.cell? ⟨gb181, 3, none⟩ = some (.int .i64 a0_3) := (blk_cell BK181.out 3).trans rfl
                          have hcz44_4 : wc.cell? ⟨gb181, 4, none⟩ = some (.bool a0_4) := (blk_cell BK181.out 4).trans rfl
                          have hcz44_5 : wc.cell? ⟨gb181, 5, none⟩ = some (.bool true) := (blk_cell BK181.out 5).trans rfl
                          have hcz44_6 : wc.cell? ⟨gb181, 6, none⟩ = some (.bool false) := (blk_cell BK181.out 6).trans rfl
                          have hcz44_7 : wc.cell? ⟨gb181, 7, none⟩ = some (.bool false) := (blk_cell BK181.out 7).trans rfl
                          have hcz44_8 : wc.cell? ⟨gb181, 8, none⟩ = some (.bool true) := (blk_cell BK181.out 8).trans rfl
                          have hcz44_9 : wc.cell? ⟨gb181, 9, none⟩ = some (.bool a0_9) := (blk_cell BK181.out 9).trans rfl
                          have hcz44_10 : wc.cell? ⟨gb181, 10, none⟩ = some (.bool false) := (blk_cell BK181.out 10).trans rfl
                          have hcz44_11 : wc.cell? ⟨gb181, 11, none⟩ = some (.bool true) := (blk_cell BK181.out 11).trans rfl
                          have hcz44_12 : wc.cell? ⟨gb181, 12, none⟩ = some (.bool a0_12) := (blk_cell BK181.out 12).trans rfl
                          have hcz44_13 : wc.cell? ⟨gb181, 13, none⟩ = some (.bool a0_13) := (blk_cell BK181.out 13).trans rfl
                          go_wp2
                          go_ret
                          exact ⟨by first | rfl | (simp [errW_none, errW_some] <;> rfl) | (simp [*, errW_none, errW_some] <;> rfl), by repeat (first | (with_reducible first | exact HB.out | apply below_alloc | apply pw_below_drewN | apply below_drew1 | refine below_set ?_ GE181.out) | exact HB.out)⟩
                      · replace c41 := Bool.eq_false_iff.mpr c41
                        subst c41
                        have H1 : (some 0) = some r := by rw [if_neg (show ¬ (false = true) by decide)] at H; exact H
                        clear H
                        have H := H1
                        clear H1
                        obtain rfl := Option.some.inj H
                        have hcz45_0 : wc.cell? ⟨gb181, 0, none⟩ = some (.int .i64 a0_0) := (blk_cell BK181.out 0).trans rfl
                        have hcz45_1 : wc.cell? ⟨gb181, 1, none⟩ = some (.int .i64 a0_1) := (blk_cell BK181.out 1).trans rfl
                        have hcz45_2 : wc.cell? ⟨gb181, 2, none⟩ = some (.int .i64 a0_2) := (blk_cell BK181.out 2).trans rfl
                        have hcz45_3 : wc.cell? ⟨gb181, 3, none⟩ = some (.int .i64 a0_3) := (blk_cell BK181.out 3).trans rfl
                        have hcz45_4 : wc.cell? ⟨gb181, 4, none⟩ = some (.bool a0_4) := (blk_cell BK181.out 4).trans rfl
                        have hcz45_5 : wc.cell? ⟨gb181, 5, none⟩ = some (.bool true) := (blk_cell BK181.out 5).trans rfl
                        have hcz45_6 : wc.cell? ⟨gb181, 6, none⟩ = some (.bool false) := (blk_cell BK181.out 6).trans rfl
                        have hcz45_7 : wc.cell? ⟨gb181, 7, none⟩ = some (.bool false) := (blk_cell BK181.out 7).trans rfl
                        have hcz45_8 : wc.cell? ⟨gb181, 8, none⟩ = some (.bool true) := (blk_cell BK181.out 8).trans rfl
                        have hcz45_9 : wc.cell? ⟨gb181, 9, none⟩ = some (.bool a0_9) := (blk_cell BK181.out 9).trans rfl
                        have hcz45_10 : wc.cell? ⟨gb181, 10, none⟩ = some (.bool a0_10) := (blk_cell BK181.out 10).trans rfl
                        have hcz45_11 : wc.cell? ⟨gb181, 11, none⟩ = some (.bool false) := (blk_cell BK181.out 11).trans rfl
                        have hcz45_12 : wc.cell? ⟨gb181, 12, none⟩ = some (.bool a0_12) := (blk_cell BK181.out 12).trans rfl
                        have hcz45_13 : wc.cell? ⟨gb181, 13, none⟩ = some (.bool a0_13) := (blk_cell BK181.out 13).trans rfl
                        go_wp2
                        go_ret
                        exact ⟨by first | rfl | (simp [errW_none, errW_some] <;> rfl) | (simp [*, errW_none, errW_some] <;> rfl), by repeat (first | (with_reducible first | exact HB.out | apply below_alloc | apply pw_below_drewN | apply below_drew1 | refine below_set ?_ GE181.out) | exact HB.out)⟩
                  · replace c38 := Bool.eq_false_iff.mpr c38
                    subst c38
                    have H1 : (some 3) = some r := by rw [if_neg (show ¬ (false = true) by decide)] at H; exact H
                    clear H
                    have H := H1
                    clear H1
                    obtain rfl := Option.some.inj H
                    have hcz46_0 : wc.cell? ⟨gb181, 0, none⟩ = some (.int .i64 a0_0) := (blk_cell BK181.out 0).trans rfl
                    have hcz46_1 : wc.cell? ⟨gb181, 1, none⟩ = some (.int .i64 a0_1) := (blk_cell BK181.out 1).trans rfl
                    have hcz46_2 : wc.cell? ⟨gb181, 2, none⟩ = some (.int .i64 a0_2) := (blk_cell BK181.out 2).trans rfl
                    have hcz46_3 : wc.cell? ⟨gb181, 3, none⟩ = some (.int .i64 a0_3) := (blk_cell BK181.out 3).trans rfl
                    have hcz46_4 : wc.cell? ⟨gb181, 4, none⟩ = some (.bool a0_4) := (blk_cell BK181.out 4).trans rfl
                    have hcz46_5 : wc.cell? ⟨gb181, 5, none⟩ = some (.bool false) := (blk_cell BK181.out 5).trans rfl
                    have hcz46_6 : wc.cell? ⟨gb181, 6, none⟩ = some (.bool a0_6) := (blk_cell BK181.out 6).trans rfl
                    have hcz46_7 : wc.cell? ⟨gb181, 7, none⟩ = some (.bool false) := (blk_cell BK181.out 7).trans rfl
                    have hcz46_8 : wc.cell? ⟨gb181, 8, none⟩ = some (.bool true) := (blk_cell BK181.out 8).trans rfl
                    have hcz46_9 : wc.cell? ⟨gb181, 9, none⟩ = some (.bool a0_9) := (blk_cell BK181.out 9).trans rfl
                    have hcz46_10 : wc.cell? ⟨gb181, 10, none⟩ = some (.bool a0_10) := (blk_cell BK181.out 10).trans rfl
                    have hcz46_11 : wc.cell? ⟨gb181, 11, none⟩ = some (.bool a0_11) := (blk_cell BK181.out 11).trans rfl
                    have hcz46_12 : wc.cell? ⟨gb181, 12, none⟩ = some (.bool a0_12) := (blk_cell BK181.out 12).trans rfl
                    have hcz46_13 : wc.cell? ⟨gb181, 13, none⟩ = some (.bool a0_13) := (blk_cell BK181.out 13).trans rfl
                    go_wp2
                    go_ret
                    exact ⟨by first | rfl | (simp [errW_none, errW_some] <;> rfl) | (simp [*, errW_none, errW_some] <;> rfl), by repeat (first | (with_reducible first | exact HB.out | apply below_alloc | apply pw_below_drewN | apply below_drew1 | refine below_set ?_ GE181.out) | exact HB.out)⟩
                · rw [if_neg c37] at H
                  have c37b0 : (a0_2 == 3) = false := beq_eq_false_iff_ne.mpr c37
                  have c37b1 : (a0_2 != 3) = true := bne_iff_ne.mpr c37
                  by_cases c47 : a0_5 = true
                  · subst c47
                    have H1 : (if a0_6 = true then (some 3) else (if a0_11 = true then (if a0_10 = true then (some 0) else (some 3)) else (some 0))) = some r := by rw [if_pos rfl] at H; exact H
                    clear H
                    have H := H1
                    clear H1
                    by_cases c48 : a0_6 = true
                    · subst c48
                      have H1 : (some 3) = some r := by rw [if_pos rfl] at H; exact H
                      clear H
                      have H := H1
                      clear H1
                      obtain rfl := Option.some.inj H
                      have hcz49_0 : wc.cell? ⟨gb181, 0, none⟩ = some (.int .i64 a0_0) := (blk_cell BK181.out 0).trans rfl
                      have hcz49_1 : wc.cell? ⟨gb181, 1, none⟩ = some (.int .i64 a0_1) := (blk_cell BK181.out 1).trans rfl
                      have hcz49_2 : wc.cell? ⟨gb181, 2, none⟩ = some (.int .i64 a0_2) := (blk_cell BK181.out 2).trans rfl
                      have hcz49_3 : wc.cell? ⟨gb181, 3, none⟩ = some (.int .i64 a0_3) := (blk_cell BK181.out 3).trans rfl
                      have hcz49_4 : wc.cell? ⟨gb181, 4, none⟩ = some (.bool a0_4) := (blk_cell BK181.out 4).trans rfl
                      have hcz49_5 : wc.cell? ⟨gb181, 5, none⟩ = some (.bool true) := (blk_cell BK181.out 5).trans rfl
                      have hcz49_6 : wc.cell? ⟨gb181, 6, none⟩ = some (.bool true) := (blk_cell BK181.out 6).trans rfl
                      have hcz49_7 : wc.cell? ⟨gb181, 7, none⟩ = some (.bool false) := (blk_cell BK181.out 7).trans rfl
                      have hcz49_8 : wc.cell? ⟨gb181, 8, none⟩ = some (.bool true) := (blk_cell BK181.out 8).trans rfl
                      have hcz49_9 : wc.cell? ⟨gb181, 9, none⟩ = some (.bool a0_9) := (blk_cell BK181.out 9).trans rfl
                      have hcz49_10 : wc.cell? ⟨gb181, 10, none⟩ = some (.bool a0_10) := (blk_cell BK181.out 10).trans rfl
                      have hcz49_11 : wc.cell? ⟨gb181, 11, none⟩ = some (.bool a0_11) := (blk_cell BK181.out 11).trans rfl
                      have hcz49_12 : wc.cell? ⟨gb181, 12, none⟩ = some (.bool a0_12) := (blk_cell BK181.out 12).trans rfl
                      have hcz49_13 : wc.cell? ⟨gb181, 13, none⟩ = some (.bool a0_13) := (blk_cell BK181.out 13).trans rfl
                      go_wp2
                      go_ret
                      exact ⟨by first | rfl | (simp [errW_none, errW_some] <;> rfl) | (simp [*, errW_none, errW_some] <;> rfl), by repeat (first | (with_reducible first | exact HB.out | apply below_alloc | apply pw_below_drewN | apply below_drew1 | refine below_set ?_ GE181.out) | exact HB.out)⟩
                    · replace c48 := Bool.eq_false_iff.mpr c48
                      subst c48
                      have H1 : (if a0_11 = true then (if a0_10 = true then (some 0) else (some 3)) else (some 0)) = some r := by rw [if_neg (show ¬ (false = true) by decide)] at H; exact H
                      clear H
                      have H := H1
                      clear H1
                      by_cases c50 : a0_11 = true
                      · subst c50
                        have H1 : (if a0_10 = true then (some 0) else (some 3)) = some r := by rw [if_pos rfl] at H; exact H
                        clear H
                        have H := H1
                        clear H1
                        by_cases c51 : a0_10 = true
                        · subst c51
                          have H1 : (some 0) = some r := by rw [if_pos rfl] at H; exact H
                          clear H
                          have H := H1
                          clear H1
                          obtain rfl := Option.some.inj H
                          have hcz52_0 : wc.cell? ⟨gb181, 0, none⟩ = some (.int .i64 a0_0) := (blk_cell BK181.out 0).trans rfl
                          have hcz52_1 : wc.cell? ⟨gb181, 1, none⟩ = some (.int .i64 a0_1) := (blk_cell BK181.out 1).trans rfl
                          have hcz52_2 : wc.cell? ⟨gb181, 2, none⟩ = some (.int .i64 a0_2) := (blk_cell BK181.out 2).trans rfl
                          have hcz52_3 : wc.cell? ⟨gb181, 3, none⟩ = some (.int .i64 a0_3) := (blk_cell BK181.out 3).trans rfl
                          have hcz52_4 : wc.cell? ⟨gb181, 4, none⟩ = some (.bool a0_4) := (blk_cell BK181.out 4).trans rfl
                          have hcz52_5 : wc.cell? ⟨gb181, 5, none⟩ = some (.bool true) := (blk_cell BK181.out 5).trans rfl
                          have hcz52_6 : wc.cell? ⟨gb181, 6, none⟩ = some (.bool false) := (blk_cell BK181.out 6).trans rfl
                          have hcz52_7 : wc.cell? ⟨gb181, 7, none⟩ = some (.bool false) := (blk_cell BK181.out 7).trans rfl
                          have hcz52_8 : wc.cell? ⟨gb181, 8, none⟩ = some (.bool true) := (blk_cell BK181.out 8).trans rfl
                          have hcz52_9 : wc.cell? ⟨gb181, 9, none⟩ = some (.bool a0_9) := (blk_cell BK181.out 9).trans rfl
                          have hcz52_10 : wc.cell? ⟨gb181, 10, none⟩ = some (.bool true) := (blk_cell BK181.out 10).trans rfl
                          have hcz52_11 : wc.cell? ⟨gb181, 11, none⟩ = some (.bool true) := (blk_cell BK181.out 11).trans rfl
                          have hcz52_12 : wc.cell? ⟨gb181, 12, none⟩ = some (.bool a0_12) := (blk_cell BK181.out 12).trans rfl
                          have hcz52_13 : wc.cell? ⟨gb181, 13, none⟩ = some (.bool a0_13) := (blk_cell BK181.out 13).trans rfl
                          go_wp2
                          go_ret
                          exact ⟨by first | rfl | (simp [errW_none, errW_some] <;> rfl) | (simp [*, errW_none, errW_some] <;> rfl), by repeat (first | (with_reducible first | exact HB.out | apply below_alloc | apply pw_below_drewN | apply below_drew1 | refine below_set ?_ GE181.out) | exact HB.out)⟩
                        · replace c51 := Bool.eq_false_iff.mpr c51
                          subst c51
                          have H1 : (some 3) = some r := by rw [if_neg (show ¬ (false = true) by decide)] at H; exact H
                          clear H
                          have H := H1
                          clear H1
                          obtain rfl := Option.some.inj H
                          have hcz53_0 : wc.cell? ⟨gb181, 0, none⟩ = some (.int .i64 a0_0) := (blk_cell BK181.out 0).trans rfl
                          have hcz53_1 : wc.cell? ⟨gb181, 1, none⟩ = some (.int .i64 a0_1) := (blk_cell BK181.out 1).trans rfl
                          have hcz53_2 : wc.cell? ⟨gb181, 2, none⟩ = some (.int .i64 a0_2) := (blk_cell BK181.out 2).trans rfl
                          have hcz53_3 : wc.cell? ⟨gb181, 3, none⟩ = some (.int .i64 a0_3) := (blk_cell BK181.out 3).trans rfl
                          have hcz53_4 : wc.cell? ⟨gb181, 4, none⟩ = some (.bool a0_4) := (blk_cell BK181.out 4).trans rfl
                          have hcz53_5 : wc.cell? ⟨gb181, 5, none⟩ = some (.bool true) := (blk_cell BK181.out 5).trans rfl
                          have hcz53_6 : wc.cell? ⟨gb181, 6, none⟩ = some (.bool false) := (blk_cell BK181.out 6).trans rfl
                          have hcz53_7 : wc.cell? ⟨gb181, 7, none⟩ = some (.bool false) := (blk_cell BK181.out 7).trans rfl
                          have hcz53_8 : wc.cell? ⟨gb181, 8, none⟩ = some (.bool true) := (blk_cell BK181.out 8).trans rfl
                          have hcz53_9 : wc.cell? ⟨gb181, 9, none⟩ = some (.bool a0_9) := (blk_cell BK181.out 9).trans rfl
                          have hcz53_10 : wc.cell? ⟨gb181, 10, none⟩ = some (.bool false) := (blk_cell BK181.out 10).trans rfl
                          have hcz53_11 : wc.cell? ⟨gb181, 11, none⟩ = some (.bool true) := (blk_cell BK181.out 11).trans rfl
                          have hcz53_12 : wc.cell? ⟨gb181, 12, none⟩ = some (.bool a0_12) := (blk_cell BK181.out 12).trans rfl
                          have hcz53_13 : wc.cell? ⟨gb181, 13, none⟩ = some (.bool a0_13) := (blk_cell BK181.out 13).trans rfl
                          go_wp2
                          go_ret
                          exact ⟨by first | rfl | (simp [errW_none, errW_some] <;> rfl) | (simp [*, errW_none, errW_some] <;> rfl), by repeat (first | (with_reducible first | exact HB.out | apply below_alloc | apply pw_below_drewN | apply below_drew1 | refine below_set ?_ GE181.out) | exact HB.out)⟩
                      · replace c50 := Bool.eq_false_iff.mpr c50
                        subst c50
                        have H1 : (some 0) = some r := by rw [if_neg (show ¬ (false = true) by decide)] at H; exact H
                        clear H
                        have H := H1
                        clear H1
                        obtain rfl := Option.some.inj H
                        have hcz54_0 : wc.cell? ⟨gb181, 0, none⟩ = some (.int .i64 a0_0) := (blk_cell BK181.out 0).trans rfl
                        have hcz54_1 : wc.cell? ⟨gb181, 1, none⟩ = some (.int .i64 a0_1) := (blk_cell BK181.out 1).trans rfl
                        have hcz54_2 : wc.cell? ⟨gb181, 2, none⟩ = some (.int .i64 a0_2) := (blk_cell BK181.out 2).trans rfl
                        have hcz54_3 : wc.cell? ⟨gb181, 3, none⟩ = some (.int .i64 a0_3) := (blk_cell BK181.out 3).trans rfl
                        have hcz54_4 : wc.cell? ⟨gb181, 4, none⟩ = some (.bool a0_4) := (blk_cell BK181.out 4).trans rfl
                        have hcz54_5 : wc.cell? ⟨gb181, 5, none⟩ = some (.bool true) := (blk_cell BK181.out 5).trans rfl
                        have hcz54_6 : wc.cell? ⟨gb181, 6, none⟩ = some (.bool false) := (blk_cell BK181.out 6).trans rfl
                        have hcz54_7 : wc.cell? ⟨gb181, 7, none⟩ = some (.bool false) := (blk_cell BK181.out 7).trans rfl
                        have hcz54_8 : wc.cell? ⟨gb181, 8, none⟩ = some (.bool true) := (blk_cell BK181.out 8).trans rfl
                        have hcz54_9 : wc.cell? ⟨gb181, 9, none⟩ = some (.bool a0_9) := (blk_cell BK181.out 9).trans rfl
                        have hcz54_10 : wc.cell? ⟨gb181, 10, none⟩ = some (.bool a0_10) := (blk_cell BK181.out 10).trans rfl
                        have hcz54_11 : wc.cell? ⟨gb181, 11, none⟩ = some (.bool false) := (blk_cell BK181.out 11).trans rfl
                        have hcz54_12 : wc.cell? ⟨gb181, 12, none⟩ = some (.bool a0_12) := (blk_cell BK181.out 12).trans rfl
                        have hcz54_13 : wc.cell? ⟨gb181, 13, none⟩ = some (.bool a0_13) := (blk_cell BK181.out 13).trans rfl
                        go_wp2
                        go_ret
                        exact ⟨by first | rfl | (simp [errW_none, errW_some] <;> rfl) | (simp [*, errW_none, errW_some] <;> rfl), by repeat (first | (with_reducible first | exact HB.out | apply below_alloc | apply pw_below_drewN | apply below_drew1 | refine below_set ?_ GE181.out) | exact HB.out)⟩
                  · replace c47 := Bool.eq_false_iff.mpr c47
                    subst c47
                    have H1 : (some 3) = some r := by rw [if_neg (show ¬ (false = true) by decide)] at H; exact H
                    clear H
                    have H := H1
                    clear H1
                    obtain rfl := Option.some.inj H
                    have hcz55_0 : wc.cell? ⟨gb181, 0, none⟩ = some (.int .i64 a0_0) := (blk_cell BK181.out 0).trans rfl
                    have hcz55_1 : wc.cell? ⟨gb181, 1, none⟩ = some (.int .i64 a0_1) := (blk_cell BK181.out 1).trans rfl
                    have hcz55_2 : wc.cell? ⟨gb181, 2, none⟩ = some (.int .i64 a0_2) := (blk_cell BK181.out 2).trans rfl
                    have hcz55_3 : wc.cell? ⟨gb181, 3, none⟩ = some (.int .i64 a0_3) := (blk_cell BK181.out 3).trans rfl
                    have hcz55_4 : wc.cell? ⟨gb181, 4, none⟩ = some (.bool a0_4) := (blk_cell BK181.out 4).trans rfl
                    have hcz55_5 : wc.cell? ⟨gb181, 5, none⟩ = some (.bool false) := (blk_cell BK181.out 5).trans rfl
                    have hcz55_6 : wc.cell? ⟨gb181, 6, none⟩ = some (.bool a0_6) := (blk_cell BK181.out 6).trans rfl
                    have hcz55_7 : wc.cell? ⟨gb181, 7, none⟩ = some (.bool false) := (blk_cell BK181.out 7).trans rfl
                    have hcz55_8 : wc.cell? ⟨gb181, 8, none⟩ = some (.bool true) := (blk_cell BK181.out 8).trans rfl
                    have hcz55_9 : wc.cell? ⟨gb181, 9, none⟩ = some (.bool a0_9) := (blk_cell BK181.out 9).trans rfl
                    have hcz55_10 : wc.cell? ⟨gb181, 10, none⟩ = some (.bool a0_10) := (blk_cell BK181.out 10).trans rfl
                    have hcz55_11 : wc.cell? ⟨gb181, 11, none⟩ = some (.bool a0_11) := (blk_cell BK181.out 11).trans rfl
                    have hcz55_12 : wc.cell? ⟨gb181, 12, none⟩ = some (.bool a0_12) := (blk_cell BK181.out 12).trans rfl
                    have hcz55_13 : wc.cell? ⟨gb181, 13, none⟩ = some (.bool a0_13) := (blk_cell BK181.out 13).trans rfl
                    go_wp2
                    go_ret
                    exact ⟨by first | rfl | (simp [errW_none, errW_some] <;> rfl) | (simp [*, errW_none, errW_some] <;> rfl), by repeat (first | (with_reducible first | exact HB.out | apply below_alloc | apply pw_below_drewN | apply below_drew1 | refine below_set ?_ GE181.out) | exact HB.out)⟩
              · replace c36 := Bool.eq_false_iff.mpr c36
                subst c36
                have H1 : (if a0_2 = 3 then (if a0_9 = true then (if a0_5 = true then (if a0_6 = true then (some 3) else (if a0_11 = true then (if a0_10 = true then (some 0) else (some 3)) else (some 0))) else (some 3)) else (if a0_6 = true then (some 3) else (if a0_11 = true then (if a0_10 = true then (some 0) else (some 3)) else (some 0)))) else (if a0_9 = true then (if a0_5 = true then (if a0_6 = true then (some 3) else (if a0_11 = true then (if a0_10 = true then (some 0) else (some 3)) else (some 0))) else (some 3)) else (if a0_6 = true then (some 3) else (if a0_11 = true then (if a0_10 = true then (some 0) else (some 3)) else (some 0))))) = some r := by rw [if_neg (show ¬ (false = true) by decide)] at H; exact H
                clear H
                have H := H1
                clear H1
                by_cases c56 : a0_2 = 3
                · rw [if_pos c56] at H
                  have c56b0 : (a0_2 == 3) = true := beq_iff_eq.mpr c56
                  have c56b1 : (a0_2 != 3) = false := bne_eq_false_iff_eq.mpr c56
                  clear c56
                  by_cases c57 : a0_9 = true
                  · subst c57
                    have H1 : (if a0_5 = true then (if a0_6 = true then (some 3) else (if a0_11 = true then (if a0_10 = true then (some 0) else (some 3)) else (some 0))) else (some 3)) = some r := by rw [if_pos rfl] at H; exact H
                    clear H
                    have H := H1
                    clear H1
                    by_cases c58 : a0_5 = true
                    · subst c58
                      have H1 : (if a0_6 = true then (some 3) else (if a0_11 = true then (if a0_10 = true then (some 0) else (some 3)) else (some 0))) = some r := by rw [if_pos rfl] at H; exact H
                      clear H
                      have H := H1
                      clear H1
                      by_cases c59 : a0_6 = true
                      · subst c59
                        have H1 : (some 3) = some r := by rw [if_pos rfl] at H; exact H
                        clear H
                        have H := H1
                        clear H1
                        obtain rfl := Option.some.inj H
                        have hcz60_0 : wc.cell? ⟨gb181, 0, none⟩ = some (.int .i64 a0_0) := (blk_cell BK181.out 0).trans rfl
                        have hcz60_1 : wc.cell? ⟨gb181, 1, none⟩ = some (.int .i64 a0_1) := (blk_cell BK181.out 1).trans rfl
                        have hcz60_2 : wc.cell? ⟨gb181, 2, none⟩ = some (.int .i64 a0_2) := (blk_cell BK181.out 2).trans rfl
                        have hcz60_3 : wc.cell? ⟨gb181, 3, none⟩ = some (.int .i64 a0_3) := (blk_cell BK181.out 3).trans rfl
                        have hcz60_4 : wc.cell? ⟨gb181, 4, none⟩ = some (.bool a0_4) := (blk_cell BK181.out 4).trans rfl
                        have hcz60_5 : wc.cell? ⟨gb181, 5, none⟩ = some (.bool true) := (blk_cell BK181.out 5).trans rfl
                        have hcz60_6 : wc.cell? ⟨gb181, 6, none⟩ = some (.bool true) := (blk_cell BK181.out 6).trans rfl
                        have hcz60_7 : wc.cell? ⟨gb181, 7, none⟩ = some (.bool false) := (blk_cell BK181.out 7).trans rfl
                        have hcz60_8 : wc.cell? ⟨gb181, 8, none⟩ = some (.bool false) := (blk_cell BK181.out 8).trans rfl
                        have hcz60_9 : wc.cell? ⟨gb181, 9, none⟩ = some (.bool true) := (blk_cell BK181.out 9).trans rfl
                        have hcz60_10 : wc.cell? ⟨gb181, 10, none⟩ = some (.bool a0_10) := (blk_cell BK181.out 10).trans rfl
                        have hcz60_11 : wc.cell? ⟨gb181, 11, none⟩ = some (.bool a0_11) := (blk_cell BK181.out 11).trans rfl
                        have hcz60_12 : wc.cell? ⟨gb181, 12, none⟩ = some (.bool a0_12) := (blk_cell BK181.out 12).trans rfl
                        have hcz60_13 : wc.cell? ⟨gb181, 13, none⟩ = some (.bool a0_13) := (blk_cell BK181.out 13).trans rfl
                        go_wp2
                        go_ret
                        exact ⟨by first | rfl | (simp [errW_none, errW_some] <;> rfl) | (simp [*, errW_none, errW_some] <;> rfl), by repeat (first | (with_reducible first | exact HB.out | apply below_alloc | apply pw_below_drewN | apply below_drew1 | refine below_set ?_ GE181.out) | exact HB.out)⟩
                      · replace c59 := Bool.eq_false_iff.mpr c59
                        subst c59
                        have H1 : (if a0_11 = true then (if a0_10 = true then (some 0) else (some 3)) else (some 0)) = some r := by rw [if_neg (show ¬ (false = true) by decide)] at H; exact H
                        clear H
                        have H := H1
                        clear H1
                        by_cases c61 : a0_11 = true
                        · subst c61
                          have H1 : (if a0_10 = true then (some 0) else (some 3)) = some r := by rw [if_pos rfl] at H; exact H
                          clear H
                          have H := H1
                          clear H1
                          by_cases c62 : a0_10 = true
                          · subst c62
                            have H1 : (some 0) = some r := by rw [if_pos rfl] at H; exact H
                            clear H
                            have H := H1
                            clear H1
                            obtain rfl := Option.some.inj H
                            have hcz63_0 : wc.cell? ⟨gb181, 0, none⟩ = some (.int .i64 a0_0) := (blk_cell BK181.out 0).trans rfl
                            have hcz63_1 : wc.cell? ⟨gb181, 1, none⟩ = some (.int .i64 a0_1) := (blk_cell BK181.out 1).trans rfl
                            have hcz63_2 : wc.cell? ⟨gb181, 2, none⟩ = some (.int .i64 a0_2) := (blk_cell BK181.out 2).trans rfl
                            have hcz63_3 : wc.cell? ⟨gb181, 3, none⟩ = some (.int .i64 a0_3) := (blk_cell BK181.out 3).trans rfl
                            have hcz63_4 : wc.cell? ⟨gb181, 4, none⟩ = some (.bool a0_4) := (blk_cell BK181.out 4).trans rfl
                            have hcz63_5 : wc.cell? ⟨gb181, 5, none⟩ = some (.bool true) := (blk_cell BK181.out 5).trans rfl
                            have hcz63_6 : wc.cell? ⟨gb181, 6, none⟩ = some (.bool false) := (blk_cell BK181.out 6).trans rfl
                            have hcz63_7 : wc.cell? ⟨gb181, 7, none⟩ = some (.bool false) := (blk_cell BK181.out 7).trans rfl
                            have hcz63_8 : wc.cell? ⟨gb181, 8, none⟩ = some (.bool false) := (blk_cell BK181.out 8).trans rfl
                            have hcz63_9 : wc.cell? ⟨gb181, 9, none⟩ = some (.bool true) := (blk_cell BK181.out 9).trans rfl
                            have hcz63_10 : wc.cell? ⟨gb181, 10, none⟩ = some (.bool true) := (blk_cell BK181.out 10).trans rfl
                            have hcz63_11 : wc.cell? ⟨gb181, 11, none⟩ = some (.bool true) := (blk_cell BK181.out 11).trans rfl
                            have hcz63_12 : wc.cell? ⟨gb181, 12, none⟩ = some (.bool a0_12) := (blk_cell BK181.out 12).trans rfl
                            have hcz63_13 : wc.cell? ⟨gb181, 13, none⟩ = some (.bool a0_13) := (blk_cell BK181.out 13).trans rfl
                            go_wp2
                            go_ret
                            exact ⟨by first | rfl | (simp [errW_none, errW_some] <;> rfl) | (simp [*, errW_none, errW_some] <;> rfl), by repeat (first | (with_reducible first | exact HB.out | apply below_alloc | apply pw_below_drewN | apply below_drew1 | refine below_set ?_ GE181.out) | exact HB.out)⟩
                          · replace c62 := Bool.eq_false_iff.mpr c62
                            subst c62
                            have H1 : (some 3) = some r := by rw [if_neg (show ¬ (false = true) by decide)] at H; exact H
                            clear H
                            have H := H1
                            clear H1
                            obtain rfl := Option.some.inj H
                            have hcz64_0 : wc.cell? ⟨gb181, 0, none⟩ = some (.int .i64 a0_0) := (blk_cell BK181.out 0).trans rfl
                            have hcz64_1 : wc.cell? ⟨gb181, 1, none⟩ = some (.int .i64 a0_1) := (blk_cell BK181.out 1).trans rfl
                            have hcz64_2 : wc.cell? ⟨gb181, 2, none⟩ = some (.int .i64 a0_2) := (blk_cell BK181.out 2).trans rfl
                            have hcz64_3 : wc.cell? ⟨gb181, 3, none⟩ = some (.int .i64 a0_3) := (blk_cell BK181.out 3).trans rfl
                            have hcz64_4 : wc.cell? ⟨gb181, 4, none⟩ = some (.bool a0_4) := (blk_cell BK181.out 4).trans rfl
                            have hcz64_5 : wc.cell? ⟨gb181, 5, none⟩ = some (.bool true) := (blk_cell BK181.out 5).trans rfl
                            have hcz64_6 : wc.cell? ⟨gb181, 6, none⟩ = some (.bool false) := (blk_cell BK181.out 6).trans rfl
                            have hcz64_7 : wc.cell? ⟨gb181, 7, none⟩ = some (.bool false) := (blk_cell BK181.out 7).trans rfl
                            have hcz64_8 : wc.cell? ⟨gb181, 8, none⟩ = some (.bool false) := (blk_cell BK181.out 8).trans rfl
                            have hcz64_9 : wc.cell? ⟨gb181, 9, none⟩ = some (.bool true) := (blk_cell BK181.out 9).trans rfl
                            have hcz64_10 : wc.cell? ⟨gb181, 10, none⟩ = some (.bool false) := (blk_cell BK181.out 10).trans rfl
                            have hcz64_11 : wc.cell? ⟨gb181, 11, none⟩ = some (.bool true) := (blk_cell BK181.out 11).trans rfl
                            have hcz64_12 : wc.cell? ⟨gb181, 12, none⟩ = some (.bool a0_12) := (blk_cell BK181.out 12).trans rfl
                            have hcz64_13 : wc.cell? ⟨gb181, 13, none⟩ = some (.bool a0_13) := (blk_cell BK181.out 13).trans rfl
                            go_wp2
                            go_ret
                            exact ⟨by first | rfl | (simp [errW_none, errW_some] <;> rfl) | (simp [*, errW_none, errW_some] <;> rfl), by repeat (first | (with_reducible first | exact HB.out | apply below_alloc | apply pw_below_drewN | apply below_drew1 | refine below_set ?_ GE181.out) | exact HB.out)⟩
                        · replace c61 := Bool.eq_false_iff.mpr c61
                          subst c61
                          have H1 : (some 0) = some r := by rw [if_neg (show ¬ (false = true) by decide)] at H; exact H
                          clear H
                          have H := H1
                          clear H1
                          obtain rfl := Option.some.inj H
                          have hcz65_0 : wc.cell? ⟨gb181, 0, none⟩ = some (.int .i64 a0_0) := (blk_cell BK181.out 0).trans rfl
                          have hcz65_1 : wc.cell? ⟨gb181, 1, none⟩ = some (.int .i64 a0_1) := (blk_cell BK181.out 1).trans rfl
                          have hcz65_2 : wc.cell? ⟨gb181, 2, none⟩ = some (.int .i64 a0_2) := (blk_cell BK181.out 2).trans rfl
                          have hcz65_3 : wc.cell? ⟨gb181, 3, none⟩ = some (.int .i64 a0_3) := (blk_cell BK181.out 3).trans rfl
                          have hcz65_4 : wc.cell? ⟨gb181, 4, none⟩ = some (.bool a0_4) := (blk_cell BK181.out 4).trans rfl
                          have hcz65_5 : wc.cell? ⟨gb181, 5, none⟩ = some (.bool true) := (blk_cell BK181.out 5).trans rfl
                          have hcz65_6 : wc.cell? ⟨gb181, 6, none⟩ = some (.bool false) := (blk_cell BK181.out 6).trans rfl
                          have hcz65_7 : wc.cell? ⟨gb181, 7, none⟩ = some (.bool false) := (blk_cell BK181.out 7).trans rfl
                          have hcz65_8 : wc.cell? ⟨gb181, 8, none⟩ = some (.bool false) := (blk_cell BK181.out 8).trans rfl
                          have hcz65_9 : wc.cell? ⟨gb181, 9, none⟩ = some (.bool true) := (blk_cell BK181.out 9).trans rfl
                          have hcz65_10 : wc.cell? ⟨gb181, 10, none⟩ = some (.bool a0_10) := (blk_cell BK181.out 10).trans rfl
                          have hcz65_11 : wc.cell? ⟨gb181, 11, none⟩ = some (.bool false) := (blk_cell BK181.out 11).trans rfl
                          have hcz65_12 : wc.cell? ⟨gb181, 12, none⟩ = some (.bool a0_12) := (blk_cell BK181.out 12).trans rfl
                          have hcz65_13 : wc.cell? ⟨gb181, 13, none⟩ = some (.bool a0_13) := (blk_cell BK181.out 13).trans rfl
                          go_wp2
                          go_ret
                          exact ⟨by first | rfl | (simp [errW_none, errW_some] <;> rfl) | (simp [*, errW_none, errW_some] <;> rfl), by repeat (first | (with_reducible first | exact HB.out | apply below_alloc | apply pw_below_drewN | apply below_drew1 | refine below_set ?_ GE181.out) | exact HB.out)⟩
                    · replace c58 := Bool.eq_false_iff.mpr c58
                      subst c58
                      have H1 : (some 3) = some r := by rw [if_neg (show ¬ (false = true) by decide)] at H; exact H
                      clear H
                      have H := H1
                      clear H1
                      obtain rfl := Option.some.inj H
                      have hcz66_0 : wc.cell? ⟨gb181, 0, none⟩ = some (.int .i64 a0_0) := (blk_cell BK181.out 0).trans rfl
                      have hcz66_1 : wc.cell? ⟨gb181, 1, none⟩ = some (.int .i64 a0_1) := (blk_cell BK181.out 1).trans rfl
                      have hcz66_2 : wc.cell? ⟨gb181, 2, none⟩ = some (.int .i64 a0_2) := (blk_cell BK181.out 2).trans rfl
                      have hcz66_3 : wc.cell? ⟨gb181, 3, none⟩ = some (.int .i64 a0_3) := (blk_cell BK181.out 3).trans rfl
                      have hcz66_4 : wc.cell? ⟨gb181, 4, none⟩ = some (.bool a0_4) := (blk_cell BK181.out 4).trans rfl
                      have hcz66_5 : wc.cell? ⟨gb181, 5, none⟩ = some (.bool false) := (blk_cell BK181.out 5).trans rfl
                      have hcz66_6 : wc.cell? ⟨gb181, 6, none⟩ = some (.bool a0_6) := (blk_cell BK181.out 6).trans rfl
                      have hcz66_7 : wc.cell? ⟨gb181, 7, none⟩ = some (.bool false) := (blk_cell BK181.out 7).trans rfl
                      have hcz66_8 : wc.cell? ⟨gb181, 8, none⟩ = some (.bool false) := (blk_cell BK181.out 8).trans rfl
                      have hcz66_9 : wc.cell? ⟨gb181, 9, none⟩ = some (.bool true) := (blk_cell BK181.out 9).trans rfl
                      have hcz66_10 : wc.cell? ⟨gb181, 10, none⟩ = some (.bool a0_10) := (blk_cell BK181.out 10).trans rfl
                      have hcz66_11 : wc.cell? ⟨gb181, 11, none⟩ = some (.bool a0_11) := (blk_cell BK181.out 11).trans rfl
                      have hcz66_12 : wc.cell? ⟨gb181, 12, none⟩ = some (.bool a0_12) := (blk_cell BK181.out 12).trans rfl
                      have hcz66_13 : wc.cell? ⟨gb181, 13, none⟩ = some (.bool a0_13) := (blk_cell BK181.out 13).trans rfl
                      go_wp2
                      go_ret
                      exact ⟨by first | rfl | (simp [errW_none, errW_some] <;> rfl) | (simp [*, errW_none, errW_some] <;> rfl), by repeat (first | (with_reducible first | exact HB.out | apply below_alloc | apply pw_below_drewN | apply below_drew1 | refine below_set ?_ GE181.out) | exact HB.out)⟩
                  · replace c57 := Bool.eq_false_iff.mpr c57
                    subst c57
                    have H1 : (if a0_6 = true then (some 3) else (if a0_11 = true then (if a0_10 = true then (some 0) else (some 3)) else (some 0))) = some r := by rw [if_neg (show ¬ (false = true) by decide)] at H; exact H
                    clear H
                    have H := H1
                    clear H1
                    by_cases c67 : a0_6 = true
                    · subst c67
                      have H1 : (some 3) = some r := by rw [if_pos rfl] at H; exact H
                      clear H
                      have H := H1
                      clear H1
                      obtain rfl := Option.some.inj H
                      have hcz68_0 : wc.cell? ⟨gb181, 0, none⟩ = some (.int .i64 a0_0) := (blk_cell BK181.out 0).trans rfl
                      have hcz68_1 : wc.cell? ⟨gb181, 1, none⟩ = some (.int .i64 a0_1) := (blk_cell BK181.out 1).trans rfl
                      have hcz68_2 : wc.cell? ⟨gb181, 2, none⟩ = some (.int .i64 a0_2) := (blk_cell BK181.out 2).trans rfl
                      have hcz68_3 : wc.cell? ⟨gb181, 3, none⟩ = some (.int .i64 a0_3) := (blk_cell BK181.out 3).trans rfl
                      have hcz68_4 : wc.cell? ⟨gb181, 4, none⟩ = some (.bool a0_4) := (blk_cell BK181.out 4).trans rfl
                      have hcz68_5 : wc.cell? ⟨gb181, 5, none⟩ = some (.bool a0_5) := (blk_cell BK181.out 5).trans rfl
                      have hcz68_6 : wc.cell? ⟨gb181, 6, none⟩ = some (.bool true) := (blk_cell BK181.out 6).trans rfl
                      have hcz68_7 : wc.cell? ⟨gb181, 7, none⟩ = some (.bool false) := (blk_cell BK181.out 7).trans rfl
                      have hcz68_8 : wc.cell? ⟨gb181, 8, none⟩ = some (.bool false) := (blk_cell BK181.out 8).trans rfl
                      have hcz68_9 : wc.cell? ⟨gb181, 9, none⟩ = some (.bool false) := (blk_cell BK181.out 9).trans rfl
                      have hcz68_10 : wc.cell? ⟨gb181, 10, none⟩ = some (.bool a0_10) := (blk_cell BK181.out 10).trans rfl
                      have hcz68_11 : wc.cell? ⟨gb181, 11, none⟩ = some (.bool a0_11) := (blk_cell BK181.out 11).trans rfl
                      have hcz68_12 : wc.cell? ⟨gb181, 12, none⟩ = some (.bool a0_12) := (blk_cell BK181.out 12).trans rfl
                      have hcz68_13 : wc.cell? ⟨gb181, 13, none⟩ = some (.bool a0_13) := (blk_cell BK181.out 13).trans rfl
                      go_wp2
                      go_ret
                      exact ⟨by first | rfl | (simp [errW_none, errW_some] <;> rfl) | (simp [*, errW_none, errW_some] <;> rfl), by repeat (first | (with_reducible first | exact HB.out | apply below_alloc | apply pw_below_drewN | apply below_drew1 | refine below_set ?_ GE181.out) | exact HB.out)⟩
                    · replace c67 := Bool.eq_false_iff.mpr c67
                      subst c67
                      have H1 : (if a0_11 = true then (if a0_10 = true then (some 0) else (some 3)) else (some 0)) = some r := by rw [if_neg (show ¬ (false = true) by decide)] at H; exact H
                      clear H
                      have H := H1
                      clear H1
                      by_cases c69 : a0_11 = true
                      · subst c69
                        have H1 : (if a0_10 = true then (some 0) else (some 3)) = some r := by rw [if_pos rfl] at H; exact H
                        clear H
                        have H := H1
                        clear H1
                        by_cases c70 : a0_10 = true
                        · subst c70
                          have H1 : (some 0) = some r := by rw [if_pos rfl] at H; exact H
                          clear H
                          have H := H1
                          clear H1
                          obtain rfl := Option.some.inj H
                          have hcz71_0 : wc.cell? ⟨gb181, 0, none⟩ = some (.int .i64 a0_0) := (blk_cell BK181.out 0).trans rfl
                          have hcz71_1 : wc.cell? ⟨gb181, 1, none⟩ = some (.int .i64 a0_1) := (blk_cell BK181.out 1).trans rfl
                          have hcz71_2 : wc.cell? ⟨gb181, 2, none⟩ = some (.int .i64 a0_2) := (blk_cell BK181.out 2).trans rfl
                          have hcz71_3 : wc.cell? ⟨gb181, 3, none⟩ = some (.int .i64 a0_3) := (blk_cell BK181.out 3).trans rfl
                          have hcz71_4 : wc.cell? ⟨gb181, 4, none⟩ = some (.bool a0_4) := (blk_cell BK181.out 4).trans rfl
                          have hcz71_5 : wc.cell? ⟨gb181, 5, none⟩ = some (.bool a0_5) := (blk_cell BK181.out 5).trans rfl
                          have hcz71_6 : wc.cell? ⟨gb181, 6, none⟩ = some (.bool false) := (blk_cell BK181.out 6).trans rfl
                          have hcz71_7 : wc.cell? ⟨gb181, 7, none⟩ = some (.bool false) := (blk_cell BK181.out 7).trans rfl
                          have hcz71_8 : wc.cell? ⟨gb181, 8, none⟩ = some (.bool false) := (blk_cell BK181.out 8).trans rfl
                          have hcz71_9 : wc.cell? ⟨gb181, 9, none⟩ = some (.bool false) := (blk_cell BK181.out 9).trans rfl
                          have hcz71_10 : wc.cell? ⟨gb181, 10, none⟩ = some (.bool true) := (blk_cell BK181.out 10).trans rfl
                          have hcz71_11 : wc.cell? ⟨gb181, 11, none⟩ = some (.bool true) := (blk_cell BK181.out 11).trans rfl
                          have hcz71_12 : wc.cell? ⟨gb181, 12, none⟩ = some (.bool a0_12) := (blk_cell BK181.out 12).trans rfl
                          have hcz71_13 : wc.cell? ⟨gb181, 13, none⟩ = some (.bool a0_13) := (blk_cell BK181.out 13).trans rfl
                          go_wp2
                          go_ret
                          exact ⟨by first | rfl | (simp [errW_none, errW_some] <;> rfl) | (simp [*, errW_none, errW_some] <;> rfl), by repeat (first | (with_reducible first | exact HB.out | apply below_alloc | apply pw_below_drewN | apply below_drew1 | refine below_set ?_ GE181.out) | exact HB.out)⟩
                        · replace c70 := Bool.eq_false_iff.mpr c70
                          subst c70
                          have H1 : (some 3) = some r := by rw [if_neg (show ¬ (false = true) by decide)] at H; exact H
                          clear H
                          have H := H1
                          clear H1
                          obtain rfl := Option.some.inj H
                          have hcz72_0 : wc.cell? ⟨gb181, 0, none⟩ = some (.int .i64 a0_0) := (blk_cell BK181.out 0).trans rfl
                          have hcz72_1 : wc.cell? ⟨gb181, 1, none⟩ = some (.int .i64 a0_1) := (blk_cell BK181.out 1).trans rfl
                          have hcz72_2 : wc.cell? ⟨gb181, 2, none⟩ = some (.int .i64 a0_2) := (blk_cell BK181.out 2).trans rfl
                          have hcz72_3 : wc.cell? ⟨gb181, 3, none⟩ = some (.int .i64 a0_3) := (blk_cell BK181.out 3).trans rfl
                          have hcz72_4 : wc.cell? ⟨gb181, 4, none⟩ = some (.bool a0_4) := (blk_cell BK181.out 4).trans rfl
                          have hcz72_5 : wc.cell? ⟨gb181, 5, none⟩ = some (.bool a0_5) := (blk_cell BK181.out 5).trans rfl
                          have hcz72_6 : wc.cell? ⟨gb181, 6, none⟩ = some (.bool false) := (blk_cell BK181.out 6).trans rfl
                          have hcz72_7 : wc.cell? ⟨gb181, 7, none⟩ = some (.bool false) := (blk_cell BK181.out 7).trans rfl
                          have hcz72_8 : wc.cell? ⟨gb181, 8, none⟩ = some (.bool false) := (blk_cell BK181.out 8).trans rfl
                          have hcz72_9 : wc.cell? ⟨gb181, 9, none⟩ = some (.bool false) := (blk_cell BK181.out 9).trans rfl
                          have hcz72_10 : wc.cell? ⟨gb181, 10, none⟩ = some (.bool false) := (blk_cell BK181.out 10).trans rfl
                          have hcz72_11 : wc.cell? ⟨gb181, 11, none⟩ = some (.bool true) := (blk_cell BK181.out 11).trans rfl
                          have hcz72_12 : wc.cell? ⟨gb181, 12, none⟩ = some (.bool a0_12) := (blk_cell BK181.out 12).trans rfl
                          have hcz72_13 : wc.cell? ⟨gb181, 13, none⟩ = some (.bool a0_13) := (blk_cell BK181.out 13).trans rfl
                          go_wp2
                          go_ret
                          exact ⟨by first | rfl | (simp [errW_none, errW_some] <;> rfl) | (simp [*, errW_none, errW_some] <;> rfl), by repeat (first | (with_reducible first | exact HB.out | apply below_alloc | apply pw_below_drewN | apply below_drew1 | refine below_set ?_ GE181.out) | exact HB.out)⟩
                      · replace c69 := Bool.eq_false_iff.mpr c69
                        subst c69
                        have H1 : (some 0) = some r := by rw [if_neg (show ¬ (false = true) by decide)] at H; exact H
                        clear H
                        have H := H1
                        clear H1
                        obtain rfl := Option.some.inj H
                        have hcz73_0 : wc.cell? ⟨gb181, 0, none⟩ = some (.int .i64 a0_0) := (blk_cell BK181.out 0).trans rfl
                        have hcz73_1 : wc.cell? ⟨gb181, 1, none⟩ = some (.int .i64 a0_1) := (blk_cell BK181.out 1).trans rfl
                        have hcz73_2 : wc.cell? ⟨gb181, 2, none⟩ = some (.int .i64 a0_2) := (blk_cell BK181.out 2).trans rfl
                        have hcz73_3 : wc.cell? ⟨gb181, 3, none⟩ = some (.int .i64 a0_3) := (blk_cell BK181.out 3).trans rfl
                        have hcz73_4 : wc.cell? ⟨gb181, 4, none⟩ = some (.bool a0_4) := (blk_cell BK181.out 4).trans rfl
                        have hcz73_5 : wc.cell? ⟨gb181, 5, none⟩ = some (.bool a0_5) := (blk_cell BK181.out 5).trans rfl
                        have hcz73_6 : wc.cell? ⟨gb181, 6, none⟩ = some (.bool false) := (blk_cell BK181.out 6).trans rfl
                        have hcz73_7 : wc.cell? ⟨gb181, 7, none⟩ = some (.bool false) := (blk_cell BK181.out 7).trans rfl
                        have hcz73_8 : wc.cell? ⟨gb181, 8, none⟩ = some (.bool false) := (blk_cell BK181.out 8).trans rfl
                        have hcz73_9 : wc.cell? ⟨gb181, 9, none⟩ = some (.bool false) := (blk_cell BK181.out 9).trans rfl
                        have hcz73_10 : wc.cell? ⟨gb181, 10, none⟩ = some (.bool a0_10) := (blk_cell BK181.out 10).trans rfl
                        have hcz73_11 : wc.cell? ⟨gb181, 11, none⟩ = some (.bool false) := (blk_cell BK181.out 11).trans rfl
                        have hcz73_12 : wc.cell? ⟨gb181, 12, none⟩ = some (.bool a0_12) := (blk_cell BK181.out 12).trans rfl
                        have hcz73_13 : wc.cell? ⟨gb181, 13, none⟩ = some (.bool a0_13) := (blk_cell BK181.out 13).trans rfl
                        go_wp2
                        go_ret
                        exact ⟨by first | rfl | (simp [errW_none, errW_some] <;> rfl) | (simp [*, errW_none, errW_some] <;> rfl), by repeat (first | (with_reducible first | exact HB.out | apply below_alloc | apply pw_below_drewN | apply below_drew1 | refine below_set ?_ GE181.out) | exact HB.out)⟩
                · rw [if_neg c56] at H
                  have c56b0 : (a0_2 == 3) = false := beq_eq_false_iff_ne.mpr c56
                  have c56b1 : (a0_2 != 3) = true := bne_iff_ne.mpr c56
                  by_cases c74 : a0_9 = true
                  · subst c74
                    have H1 : (if a0_5 = true then (if a0_6 = true then (some 3) else (if a0_11 = true then (if a0_10 = true then (some 0) else (some 3)) else (some 0))) else (some 3)) = some r := by rw [if_pos rfl] at H; exact H
                    clear H
                    have H := H1
                    clear H1
                    by_cases c75 : a0_5 = true
                    · subst c75
                      have H1 : (if a0_6 = true then (some 3) else (if a0_11 = true then (if a0_10 = true then (some 0) else (some 3)) else (some 0))) = some r := by rw [if_pos rfl] at H; exact H
                      clear H
                      have H := H1
                      clear H1
                      by_cases c76 : a0_6 = true
                      · subst c76
                        have H1 : (some 3) = some r := by rw [if_pos rfl] at H; exact H
                        clear H
                        have H := H1
                        clear H1
                        obtain rfl := Option.some.inj H
                        have hcz77_0 : wc.cell? ⟨gb181, 0, none⟩ = some (.int .i64 a0_0) := (blk_cell BK181.out 0).trans rfl
                        have hcz77_1 : wc.cell? ⟨gb181, 1, none⟩ = some (.int .i64 a0_1) := (blk_cell BK181.out 1).trans rfl
                        have hcz77_2 : wc.cell? ⟨gb181, 2, none⟩ = some (.int .i64 a0_2) := (blk_cell BK181.out 2).trans rfl
                        have hcz77_3 : wc.cell? ⟨gb181, 3, none⟩ = some (.int .i64 a0_3) := (blk_cell BK181.out 3).trans rfl
                        have hcz77_4 : wc.cell? ⟨gb181, 4, none⟩ = some (.bool a0_4) := (blk_cell BK181.out 4).trans rfl
                        have hcz77_5 : wc.cell? ⟨gb181, 5, none⟩ = some (.bool true) := (blk_cell BK181.out 5).trans rfl
                        have hcz77_6 : wc.cell? ⟨gb181, 6, none⟩ = some (.bool true) := (blk_cell BK181.out 6).trans rfl
                        have hcz77_7 : wc.cell? ⟨gb181, 7, none⟩ = some (.bool false) := (blk_cell BK181.out 7).trans rfl
                        have hcz77_8 : wc.cell? ⟨gb181, 8, none⟩ = some (.bool false) := (blk_cell BK181.out 8).trans rfl
                        have hcz77_9 : wc.cell? ⟨gb181, 9, none⟩ = some (.bool true) := (blk_cell BK181.out 9).trans rfl
                        have hcz77_10 : wc.cell? ⟨gb181, 10, none⟩ = some (.bool a0_10) := (blk_cell BK181.out 10).trans rfl
                        have hcz77_11 : wc.cell? ⟨gb181, 11, none⟩ = some (.bool a0_11) := (blk_cell BK181.out 11).trans rfl
                        have hcz77_12 : wc.cell? ⟨gb181, 12, none⟩ = some (.bool a0_12) := (blk_cell BK181.out 12).trans rfl
                        have hcz77_13 : wc.cell? ⟨gb181, 13, none⟩ = some (.bool a0_13) := (blk_cell BK181.out 13).trans rfl
                        go_wp2
                        go_ret
                        exact ⟨by first | rfl | (simp [errW_none, errW_some] <;> rfl) | (simp [*, errW_none, errW_some] <;> rfl), by repeat (first | (with_reducible first | exact HB.out | apply below_alloc | apply pw_below_drewN | apply below_drew1 | refine below_set ?_ GE181.out) | exact HB.out)⟩
                      · replace c76 := Bool.eq_false_iff.mpr c76
                        subst c76
                        have H1 : (if a0_11 = true then (if a0_10 = true then (some 0) else (some 3)) else (some 0)) = some r := by rw [if_neg (show ¬ (false = true) by decide)] at H; exact H
                        clear H
                        have H := H1
                        clear H1
                        by_cases c78 : a0_11 = true
                        · subst c78
                          have H1 : (if a0_10 = true then (some 0) else (some 3)) = some r := by rw [if_pos rfl] at H; exact H
                          clear H
                          have H := H1
                          clear H1
                          by_cases c79 : a0_10 = true
                          · subst c79
                            have H1 : (some 0) = some r := by rw [if_pos rfl] at H; exact H
                            clear H
                            have H := H1
                            clear H1
                            obtain rfl := Option.some.inj H
                            have hcz80_0 : wc.cell? ⟨gb181, 0, none⟩ = some (.int .i64 a0_0) := (blk_cell BK181.out 0).trans rfl
                            have hcz80_1 : wc.cell? ⟨gb181, 1, none⟩ = some (.int .i64 a0_1) := (blk_cell BK181.out 1).trans rfl
                            have hcz80_2 : wc.cell? ⟨gb181, 2, none⟩ = some (.int .i64 a0_2) := (blk_cell BK181.out 2).trans rfl
                            have hcz80_3 : wc.cell? ⟨gb181, 3, none⟩ = some (.int .i64 a0_3) := (blk_cell BK181.out 3).trans rfl
                            have hcz80_4 : wc.cell? ⟨gb181, 4, none⟩ = some (.bool a0_4) := (blk_cell BK181.out 4).trans rfl
                            have hcz80_5 : wc.cell? ⟨gb181, 5, none⟩ = some (.bool true) := (blk_cell BK181.out 5).trans rfl
                            have hcz80_6 : wc.cell? ⟨gb181, 6, none⟩ = some (.bool false) := (blk_cell BK181.out 6).trans rfl
                            have hcz80_7 : wc.cell? ⟨gb181, 7, none⟩ = some (.bool false) := (blk_cell BK181.out 7).trans rfl
                            have hcz80_8 : wc.cell? ⟨gb181, 8, none⟩ = some (.bool false) := (blk_cell BK181.out 8).trans rfl
                            have hcz80_9 : wc.cell? ⟨gb181, 9, none⟩ = some (.bool true) := (blk_cell BK181.out 9).trans rfl
                            have hcz80_10 : wc.cell? ⟨gb181, 10, none⟩ = some (.bool true) := (blk_cell BK181.out 10).trans rfl
                            have hcz80_11 : wc.cell? ⟨gb181, 11, none⟩ = some (.bool true) := (blk_cell BK181.out 11).trans rfl
                            have hcz80_12 : wc.cell? ⟨gb181, 12, none⟩ = some (.bool a0_12) := (blk_cell BK181.out 12).trans rfl
                            have hcz80_13 : wc.cell? ⟨gb181, 13, none⟩ = some (.bool a0_13) := (blk_cell BK181.out 13).trans rfl
                            go_wp2
                            go_ret
                            exact ⟨by first | rfl | (simp [errW_none, errW_some] <;> rfl) | (simp [*, errW_none, errW_some] <;> rfl), by repeat (first | (with_reducible first | exact HB.out | apply below_alloc | apply pw_below_drewN | apply below_drew1 | refine below_set ?_ GE181.out) | exact HB.out)⟩
                          · replace c79 := Bool.eq_false_iff.mpr c79
                            subst c79
                            have H1 : (some 3) = some r := by rw [if_neg (show ¬ (false = true) by decide)] at H; exact H
                            clear H
                            have H := H1
                            clear H1
                            obtain rfl := Option.some.inj H
                            have hcz81_0 : wc.cell? ⟨gb181, 0, none⟩ = some (.int .i64 a0_0) := (blk_cell BK181.out 0).trans rfl
                            have hcz81_1 : wc.cell? ⟨gb181, 1, none⟩ = some (.int .i64 a0_1) := (blk_cell BK181.out 1).trans rfl
                            have hcz81_2 : wc.cell? ⟨gb181, 2, none⟩ = some (.int .i64 a0_2) := (blk_cell BK181.out 2).trans rfl
                            have hcz81_3 : wc.cell? ⟨gb181, 3, none⟩ = some (.int .i64 a0_3) := (blk_cell BK181.out 3).trans rfl
                            have hcz81_4 : wc.cell? ⟨gb181, 4, none⟩ = some (.bool a0_4) := (blk_cell BK181.out 4).trans rfl
                            have hcz81_5 : wc.cell? ⟨gb181, 5, none⟩ = some (.bool true) := (blk_cell BK181.out 5).trans rfl
                            have hcz81_6 : wc.cell? ⟨gb181, 6, none⟩ = some (.bool false) := (blk_cell BK181.out 6).trans rfl
                            have hcz81_7 : wc.cell? ⟨gb181, 7, none⟩ = some (.bool false) := (blk_cell BK181.out 7).trans rfl
                            have hcz81_8 : wc.cell? ⟨gb181, 8, none⟩ = some (.bool false) := (blk_cell BK181.out 8).trans rfl
                            have hcz81_9 : wc.cell? ⟨gb181, 9, none⟩ = some (.bool true) := (blk_cell BK181.out 9).trans rfl
                            have hcz81_10 : wc.cell? ⟨gb181, 10, none⟩ = some (.bool false) := (blk_cell BK181.out 10).trans rfl
                            have hcz81_11 : wc.cell? ⟨gb181, 11, none⟩ = some (.bool true) := (blk_cell BK181.out 11).trans rfl
                            have hcz81_12 : wc.cell? ⟨gb181, 12, none⟩ = some (.bool a0_12) := (blk_cell BK181.out 12).trans rfl
                            have hcz81_13 : wc.cell? ⟨gb181, 13, none⟩ = some (.bool a0_13) := (blk_cell BK181.out 13).trans rfl
                            go_wp2
                            go_ret
                            exact ⟨by first | rfl | (simp [errW_none, errW_some] <;> rfl) | (simp [*, errW_none, errW_some] <;> rfl), by repeat (first | (with_reducible first | exact HB.out | apply below_alloc | apply pw_below_drewN | apply below_drew1 | refine below_set ?_ GE181.out) | exact HB.out)⟩
                        · replace c78 := Bool.eq_false_iff.mpr c78
                          subst c78
                          have H1 : (some 0) = some r := by rw [if_neg (show ¬ (false = true) by decide)] at H; exact H
                          clear H
                          have H := H1
                          clear H1
                          obtain rfl := Option.some.inj H
                          have hcz82_0 : wc.cell? ⟨gb181, 0, none⟩ = some (.int .i64 a0_0) := (blk_cell BK181.out 0).trans rfl
                          have hcz82_1 : wc.cell? ⟨gb181, 1, none⟩ = some (.int .i64 a0_1) := (blk_cell BK181.out 1).trans rfl
                          have hcz82_2 : wc.cell? ⟨gb181, 2, none⟩ = some (.int .i64 a0_2) := (blk_cell BK181.out 2).trans rfl
                          have hcz82_3 : wc.cell? ⟨gb181, 3, none⟩ = some (.int .i64 a0_3) := (blk_cell BK181.out 3).trans rfl
                          have hcz82_4 : wc.cell? ⟨gb181, 4, none⟩ = some (.bool a0_4) := (blk_cell BK181.out 4).trans rfl
                          have hcz82_5 : wc.cell? ⟨gb181, 5, none⟩ = some (.bool true) := (blk_cell BK181.out 5).trans rfl
                          have hcz82_6 : wc.cell? ⟨gb181, 6, none⟩ = some (.bool false) := (blk_cell BK181.out 6).trans rfl
                          have hcz82_7 : wc.cell? ⟨gb181, 7, none⟩ = some (.bool false) := (blk_cell BK181.out 7).trans rfl
                          have hcz82_8 : wc.cell? ⟨gb181, 8, none⟩ = some (.bool false) := (blk_cell BK181.out 8).trans rfl
                          have hcz82_9 : wc.cell? ⟨gb181, 9, none⟩ = some (.bool true) := (blk_cell BK181.out 9).trans rfl
                          have hcz82_10 : wc.cell? ⟨gb181, 10, none⟩ = some (.bool a0_10) := (blk_cell BK181.out 10).trans rfl
                          have hcz82_11 : wc.cell? ⟨gb181, 11, none⟩ = some (.bool false) := (blk_cell BK181.out 11).trans rfl
                          have hcz82_12 : wc.cell? ⟨gb181, 12, none⟩ = some (.bool a0_12) := (blk_cell BK181.out 12).trans rfl
                          have hcz82_13 : wc.cell? ⟨gb181, 13, none⟩ = some (.bool a0_13) := (blk_cell BK181.out 13).trans rfl
                          go_wp2
                          go_ret
                          exact ⟨by first | rfl | (simp [errW_none, errW_some] <;> rfl) | (simp [*, errW_none, errW_some] <;> rfl), by repeat (first | (with_reducible first | exact HB.out | apply below_alloc | apply pw_below_drewN | apply below_drew1 | refine below_set ?_ GE181.out) | exact HB.out)⟩
                    · replace c75 := Bool.eq_false_iff.mpr c75
                      subst c75
                      have H1 : (some 3) = some r := by rw [if_neg (show ¬ (false = true) by decide)] at H; exact H
                      clear H
                      have H := H1
                      clear H1
                      obtain rfl := Option.some.inj H
                      have hcz83_0 : wc.cell? ⟨gb181, 0, none⟩ = some (.int .i64 a0_0) := (blk_cell BK181.out 0).trans rfl
                      have hcz83_1 : wc.cell? ⟨gb181, 1, none⟩ = some (.int .i64 a0_1) := (blk_cell BK181.out 1).trans rfl
                      have hcz83_2 : wc.cell? ⟨gb181, 2, none⟩ = some (.int .i64 a0_2) := (blk_cell BK181.out 2).trans rfl
                      have hcz83_3 : wc.cell? ⟨gb181, 3, none⟩ = some (.int .i64 a0_3) := (blk_cell BK181.out 3).trans rfl
                      have hcz83_4 : wc.cell? ⟨gb181, 4, none⟩ = some (.bool a0_4) := (blk_cell BK181.out 4).trans rfl
                      have hcz83_5 : wc.cell? ⟨gb181, 5, none⟩ = some (.bool false) := (blk_cell BK181.out 5).trans rfl
                      have hcz83_6 : wc.cell? ⟨gb181, 6, none⟩ = some (.bool a0_6) := (blk_cell BK181.out 6).trans rfl
                      have hcz83_7 : wc.cell? ⟨gb181, 7, none⟩ = some (.bool false) := (blk_cell BK181.out 7).trans rfl
                      have hcz83_8 : wc.cell? ⟨gb181, 8, none⟩ = some (.bool false) := (blk_cell BK181.out 8).trans rfl
                      have hcz83_9 : wc.cell? ⟨gb181, 9, none⟩ = some (.bool true) := (blk_cell BK181.out 9).trans rfl
                      have hcz83_10 : wc.cell? ⟨gb181, 10, none⟩ = some (.bool a0_10) := (blk_cell BK181.out 10).trans rfl
                      have hcz83_11 : wc.cell? ⟨gb181, 11, none⟩ = some (.bool a0_11) := (blk_cell BK181.out 11).trans rfl
                      have hcz83_12 : wc.cell? ⟨gb181, 12, none⟩ = some (.bool a0_12) := (blk_cell BK181.out 12).trans rfl
                      have hcz83_13 : wc.cell? ⟨gb181, 13, none⟩ = some (.bool a0_13) := (blk_cell BK181.out 13).trans rfl
                      go_wp2
                      go_ret
                      exact ⟨by first | rfl | (simp [errW_none, errW_some] <;> rfl) | (simp [*, errW_none, errW_some] <;> rfl), by repeat (first | (with_reducible first | exact HB.out | apply below_alloc | apply pw_below_drewN | apply below_drew1 | refine below_set ?_ GE181.out) | exact HB.out)⟩
                  · replace c74 := Bool.eq_false_iff.mpr c74
                    subst c74
                    have H1 : (if a0_6 = true then (some 3) else (if a0_11 = true then (if a0_10 = true then (some 0) else (some 3)) else (some 0))) = some r := by rw [if_neg (show ¬ (false = true) by decide)] at H; exact H
                    clear H
                    have H := H1
                    clear H1
                    by_cases c84 : a0_6 = true
                    · subst c84
                      have H1 : (some 3) = some r := by rw [if_pos rfl] at H; exact H
                      clear H
                      have H := H1
                      clear H1
                      obtain rfl := Option.some.inj H
                      have hcz85_0 : wc.cell? ⟨gb181, 0, none⟩ = some (.int .i64 a0_0) := (blk_cell BK181.out 0).trans rfl
                      have hcz85_1 : wc.cell? ⟨gb181, 1, none⟩ = some (.int .i64 a0_1) := (blk_cell BK181.out 1).trans rfl
                      have hcz85_2 : wc.cell? ⟨gb181, 2, none⟩ = some (.int .i64 a0_2) := (blk_cell BK181.out 2).trans rfl
                      have hcz85_3 : wc.cell? ⟨gb181, 3, none⟩ = some (.int .i64 a0_3) := (blk_cell BK181.out 3).trans rfl
                      have hcz85_4 : wc.cell? ⟨gb181, 4, none⟩ = some (.bool a0_4) := (blk_cell BK181.out 4).trans rfl
                      have hcz85_5 : wc.cell? ⟨gb181, 5, none⟩ = some (.bool a0_5) := (blk_cell BK181.out 5).trans rfl
                      have hcz85_6 : wc.cell? ⟨gb181, 6, none⟩ = some (.bool true) := (blk_cell BK181.out 6).trans rfl
                      have hcz85_7 : wc.cell? ⟨gb181, 7, none⟩ = some (.bool false) := (blk_cell BK181.out 7).trans rfl
                      have hcz85_8 : wc.cell? ⟨gb181, 8, none⟩ = some (.bool false) := (blk_cell BK181.out 8).trans rfl
                      have hcz85_9 : wc.cell? ⟨gb181, 9, none⟩ = some (.bool false) := (blk_cell BK181.out 9).trans rfl
                      have hcz85_10 : wc.cell? ⟨gb181, 10, none⟩ = some (.bool a0_10) := (blk_cell BK181.out 10).trans rfl
                      have hcz85_11 : wc.cell? ⟨gb181, 11, none⟩ = some (.bool a0_11) := (blk_cell BK181.out 11).trans rfl
                      have hcz85_12 : wc.cell? ⟨gb181, 12, none⟩ = some (.bool a0_12) := (blk_cell BK181.out 12).trans rfl
                      have hcz85_13 : wc.cell? ⟨gb181, 13, none⟩ = some (.bool a0_13) := (blk_cell BK181.out 13).trans rfl
                      go_wp2
                      go_ret
                      exact ⟨by first | rfl | (simp [errW_none, errW_some] <;> rfl) | (simp [*, errW_none, errW_some] <;> rfl), by repeat (first | (with_reducible first | exact HB.out | apply below_alloc | apply pw_below_drewN | apply below_drew1 | refine below_set ?_ GE181.out) | exact HB.out)⟩
                    · replace c84 := Bool.eq_false_iff.mpr c84
                      subst c84
                      have H1 : (if a0_11 = true then (if a0_10 = true then (some 0) else (some 3)) else (some 0)) = some r := by rw [if_neg (show ¬ (false = true) by decide)] at H; exact H
                      clear H
                      have H := H1
                      clear H1
                      by_cases c86 : a0_11 = true
                      · subst c86
                        have H1 : (if a0_10 = true then (some 0) else (some 3)) = some r := by rw [if_pos rfl] at H; exact H
                        clear H
                        have H := H1
                        clear H1
                        by_cases c87 : a0_10 = true
                        · subst c87
                          have H1 : (some 0) = some r := by rw [if_pos rfl] at H; exact H
                          clear H
                          have H := H1
                          clear H1
                          obtain rfl := Option.some.inj H
                          have hcz88_0 : wc.cell? ⟨gb181, 0, none⟩ = some (.int .i64 a0_0) := (blk_cell BK181.out 0).trans rfl
                          have hcz88_1 : wc.cell? ⟨gb181, 1, none⟩ = some (.int .i64 a0_1) := (blk_cell BK181.out 1).trans rfl
                          have hcz88_2 : wc.cell? ⟨gb181, 2, none⟩ = some (.int .i64 a0_2) := (blk_cell BK181.out 2).trans rfl
                          have hcz88_3 : wc.cell? ⟨gb181, 3, none⟩ = some (.int .i64 a0_3) := (blk_cell BK181.out 3).trans rfl
                          have hcz88_4 : wc.cell? ⟨gb181, 4, none⟩ = some (.bool a0_4) := (blk_cell BK181.out 4).trans rfl
                          have hcz88_5 : wc.cell? ⟨gb181, 5, none⟩ = some (.bool a0_5) := (blk_cell BK181.out 5).trans rfl
                          have hcz88_6 : wc.cell? ⟨gb181, 6, none⟩ = some (.bool false) := (blk_cell BK181.out 6).trans rfl
                          have hcz88_7 : wc.cell? ⟨gb181, 7, none⟩ = some (.bool false) := (blk_cell BK181.out 7).trans rfl
                          have hcz88_8 : wc.cell? ⟨gb181, 8, none⟩ = some (.bool false) := (blk_cell BK181.out 8).trans rfl
                          have hcz88_9 : wc.cell? ⟨gb181, 9, none⟩ = some (.bool false) := (blk_cell BK181.out 9).trans rfl
                          have hcz88_10 : wc.cell? ⟨gb181, 10, none⟩ = some (.bool true) := (blk_cell BK181.out 10).trans rfl
                          have hcz88_11 : wc.cell? ⟨gb181, 11, none⟩ = some (.bool true) := (blk_cell BK181.out 11).trans rfl
                          have hcz88_12 : wc.cell? ⟨gb181, 12, none⟩ = some (.bool a0_12) := (blk_cell BK181.out 12).trans rfl
                          have hcz88_13 : wc.cell? ⟨gb181, 13, none⟩ = some (.bool a0_13) := (blk_cell BK181.out 13).trans rfl
                          go_wp2
                          go_ret
                          exact ⟨by first | rfl | (simp [errW_none, errW_some] <;> rfl) | (simp [*, errW_none, errW_some] <;> rfl), by repeat (first | (with_reducible first | exact HB.out | apply below_alloc | apply pw_below_drewN | apply below_drew1 | refine below_set ?_ GE181.out) | exact HB.out)⟩
                        · replace c87 := Bool.eq_false_iff.mpr c87
                          subst c87
                          have H1 : (some 3) = some r := by rw [if_neg (show ¬ (false = true) by decide)] at H; exact H
                          clear H
                          have H := H1
                          clear H1
                          obtain rfl := Option.some.inj H
                          have hcz89_0 : wc.cell? ⟨gb181, 0, none⟩ = some (.int .i64 a0_0) := (blk_cell BK181.out 0).trans rfl
                          have hcz89_1 : wc.cell? ⟨gb181, 1, none⟩ = some (.int .i64 a0_1) := (blk_cell BK181.out 1).trans rfl
                          have hcz89_2 : wc.cell? ⟨gb181, 2, none⟩ = some (.int .i64 a0_2) := (blk_cell BK181.out 2).trans rfl
                          have hcz89_3 : wc.cell? ⟨gb181, 3, none⟩ = some (.int .i64 a0_3) := (blk_cell BK181.out 3).trans rfl
                          have hcz89_4 : wc.cell? ⟨gb181, 4, none⟩ = some (.bool a0_4) := (blk_cell BK181.out 4).trans rfl
                          have hcz89_5 : wc.cell? ⟨gb181, 5, none⟩ = some (.bool a0_5) := (blk_cell BK181.out 5).trans rfl
                          have hcz89_6 : wc.cell? ⟨gb181, 6, none⟩ = some (.bool false) := (blk_cell BK181.out 6).trans rfl
                          have hcz89_7 : wc.cell? ⟨gb181, 7, none⟩ = some (.bool false) := (blk_cell BK181.out 7).trans rfl
                          have hcz89_8 : wc.cell? ⟨gb181, 8, none⟩ = some (.bool false) := (blk_cell BK181.out 8).trans rfl
                          have hcz89_9 : wc.cell? ⟨gb181, 9, none⟩ = some (.bool false) := (blk_cell BK181.out 9).trans rfl
                          have hcz89_10 : wc.cell? ⟨gb181, 10, none⟩ = some (.bool false) := (blk_cell BK181.out 10).trans rfl
                          have hcz89_11 : wc.cell? ⟨gb181, 11, none⟩ = some (.bool true) := (blk_cell BK181.out 11).trans rfl
                          have hcz89_12 : wc.cell? ⟨gb181, 12, none⟩ = some (.bool a0_12) := (blk_cell BK181.out 12).trans rfl
                          have hcz89_13 : wc.cell? ⟨gb181, 13, none⟩ = some (.bool a0_13) := (blk_cell BK181.out 13).trans rfl
                          go_wp2
                          go_ret
                          exact ⟨by first | rfl | (simp [errW_none, errW_some] <;> rfl) | (simp [*, errW_none, errW_some] <;> rfl), by repeat (first | (with_reducible first | exact HB.out | apply below_alloc | apply pw_below_drewN | apply below_drew1 | refine below_set ?_ GE181.out) | exact HB.out)⟩
                      · replace c86 := Bool.eq_false_iff.mpr c86
                        subst c86
                        have H1 : (some 0) = some r := by rw [if_neg (show ¬ (false = true) by decide)] at H; exact H
                        clear H
                        have H := H1
                        clear H1
                        obtain rfl := Option.some.inj H
                        have hcz90_0 : wc.cell? ⟨gb181, 0, none⟩ = some (.int .i64 a0_0) := (blk_cell BK181.out 0).trans rfl
                        have hcz90_1 : wc.cell? ⟨gb181, 1, none⟩ = some (.int .i64 a0_1) := (blk_cell BK181.out 1).trans rfl
                        have hcz90_2 : wc.cell? ⟨gb181, 2, none⟩ = some (.int .i64 a0_2) := (blk_cell BK181.out 2).trans rfl
                        have hcz90_3 : wc.cell? ⟨gb181, 3, none⟩ = some (.int .i64 a0_3) := (blk_cell BK181.out 3).trans rfl
                        have hcz90_4 : wc.cell? ⟨gb181, 4, none⟩ = some (.bool a0_4) := (blk_cell BK181.out 4).trans rfl
                        have hcz90_5 : wc.cell? ⟨gb181, 5, none⟩ = some (.bool a0_5) := (blk_cell BK181.out 5).trans rfl
                        have hcz90_6 : wc.cell? ⟨gb181, 6, none⟩ = some (.bool false) := (blk_cell BK181.out 6).trans rfl
                        have hcz90_7 : wc.cell? ⟨gb181, 7, none⟩ = some (.bool false) := (blk_cell BK181.out 7).trans rfl
                        have hcz90_8 : wc.cell? ⟨gb181, 8, none⟩ = some (.bool false) := (blk_cell BK181.out 8).trans rfl
                        have hcz90_9 : wc.cell? ⟨gb181, 9, none⟩ = some (.bool false) := (blk_cell BK181.out 9).trans rfl
                        have hcz90_10 : wc.cell? ⟨gb181, 10, none⟩ = some (.bool a0_10) := (blk_cell BK181.out 10).trans rfl
                        have hcz90_11 : wc.cell? ⟨gb181, 11, none⟩ = some (.bool false) := (blk_cell BK181.out 11).trans rfl
                        have hcz90_12 : wc.cell? ⟨gb181, 12, none⟩ = some (.bool a0_12) := (blk_cell BK181.out 12).trans rfl
                        have hcz90_13 : wc.cell? ⟨gb181, 13, none⟩ = some (.bool a0_13) := (blk_cell BK181.out 13).trans rfl
                        go_wp2
                        go_ret
                        exact ⟨by first | rfl | (simp [errW_none, errW_some] <;> rfl) | (simp [*, errW_none, errW_some] <;> rfl), by repeat (first | (with_reducible first | exact HB.out | apply below_alloc | apply pw_below_drewN | apply below_drew1 | refine below_set ?_ GE181.out) | exact HB.out)⟩
          · rw [if_neg c17] at H
            have c17b0 : (a0_2 == 0) = false := beq_eq_false_iff_ne.mpr c17
            have c17b1 : (a0_2 != 0) = true := bne_iff_ne.mpr c17
            by_cases c91 : a0_2 = 3
            · rw [if_pos c91] at H
              have c91b0 : (a0_2 == 3) = true := beq_iff_eq.mpr c91
              have c91b1 : (a0_2 != 3) = false := bne_eq_false_iff_eq.mpr c91
              clear c91
              by_cases c92 : a0_5 = true
              · subst c92
                have H1 : (if a0_6 = true then (some 3) else (if a0_7 = true then (some 3) else (if a0_11 = true then (if a0_10 = true then (some 0) else (some 3)) else (some 0)))) = some r := by rw [if_pos rfl] at H; exact H
                clear H
                have H := H1
                clear H1
                by_cases c93 : a0_6 = true
                · subst c93
                  have H1 : (some 3) = some r := by rw [if_pos rfl] at H; exact H
                  clear H
                  have H := H1
                  clear H1
                  obtain rfl := Option.some.inj H
                  have hcz94_0 : wc.cell? ⟨gb181, 0, none⟩ = some (.int .i64 a0_0) := (blk_cell BK181.out 0).trans rfl
                  have hcz94_1 : wc.cell? ⟨gb181, 1, none⟩ = some (.int .i64 a0_1) := (blk_cell BK181.out 1).trans rfl
                  have hcz94_2 : wc.cell? ⟨gb181, 2, none⟩ = some (.int .i64 a0_2) := (blk_cell BK181.out 2).trans rfl
                  have hcz94_3 : wc.cell? ⟨gb181, 3, none⟩ = some (.int .i64 a0_3) := (blk_cell BK181.out 3).trans rfl
                  have hcz94_4 : wc.cell? ⟨gb181, 4, none⟩ = some (.bool a0_4) := (blk_cell BK181.out 4).trans rfl
                  have hcz94_5 : wc.cell? ⟨gb181, 5, none⟩ = some (.bool true) := (blk_cell BK181.out 5).trans rfl
                  have hcz94_6 : wc.cell? ⟨gb181, 6, none⟩ = some (.bool true) := (blk_cell BK181.out 6).trans rfl
                  have hcz94_7 : wc.cell? ⟨gb181, 7, none⟩ = some (.bool a0_7) := (blk_cell BK181.out 7).trans rfl
                  have hcz94_8 : wc.cell? ⟨gb181, 8, none⟩ = some (.bool a0_8) := (blk_cell BK181.out 8).trans rfl
                  have hcz94_9 : wc.cell? ⟨gb181, 9, none⟩ = some (.bool a0_9) := (blk_cell BK181.out 9).trans rfl
                  have hcz94_10 : wc.cell? ⟨gb181, 10, none⟩ = some (.bool a0_10) := (blk_cell BK181.out 10).trans rfl
                  have hcz94_11 : wc.cell? ⟨gb181, 11, none⟩ = some (.bool a0_11) := (blk_cell BK181.out 11).trans rfl
                  have hcz94_12 : wc.cell? ⟨gb181, 12, none⟩ = some (.bool a0_12) := (blk_cell BK181.out 12).trans rfl
                  have hcz94_13 : wc.cell? ⟨gb181, 13, none⟩ = some (.bool a0_13) := (blk_cell BK181.out 13).trans rfl
                  go_wp2
                  go_ret
                  exact ⟨by first | rfl | (simp [errW_none, errW_some] <;> rfl) | (simp [*, errW_none, errW_some] <;> rfl), by repeat (first | (with_reducible first | exact HB.out | apply below_alloc | apply pw_below_drewN | apply below_drew1 | refine below_set ?_ GE181.out) | exact HB.out)⟩
                · replace c93 := Bool.eq_false_iff.mpr c93
                  subst c93
                  have H1 : (if a0_7 = true then (some 3) else (if a0_11 = true then (if a0_10 = true then (some 0) else (some 3)) else (some 0))) = some r := by rw [if_neg (show ¬ (false = true) by decide)] at H; exact H
                  clear H
                  have H := H1
                  clear H1
                  by_cases c95 : a0_7 = true
                  · subst c95
                    have H1 : (some 3) = some r := by rw [if_pos rfl] at H; exact H
                    clear H
                    have H := H1
                    clear H1
                    obtain rfl := Option.some.inj H
                    have hcz96_0 : wc.cell? ⟨gb181, 0, none⟩ = some (.int .i64 a0_0) := (blk_cell BK181.out 0).trans rfl
                    have hcz96_1 : wc.cell? ⟨gb181, 1, none⟩ = some (.int .i64 a0_1) := (blk_cell BK181.out 1).trans rfl
                    have hcz96_2 : wc.cell? ⟨gb181, 2, none⟩ = some (.int .i64 a0_2) := (blk_cell BK181.out 2).trans rfl
                    have hcz96_3 : wc.cell? ⟨gb181, 3, none⟩ = some (.int .i64 a0_3) := (blk_cell BK181.out 3).trans rfl
                    have hcz96_4 : wc.cell? ⟨gb181, 4, none⟩ = some (.bool a0_4) := (blk_cell BK181.out 4).trans rfl
                    have hcz96_5 : wc.cell? ⟨gb181, 5, none⟩ = some (.bool true) := (blk_cell BK181.out 5).trans rfl
                    have hcz96_6 : wc.cell? ⟨gb181, 6, none⟩ = some (.bool false) := (blk_cell BK181.out 6).trans rfl
                    have hcz96_7 : wc.cell? ⟨gb181, 7, none⟩ = some (.bool true) := (blk_cell BK181.out 7).trans rfl
                    have hcz96_8 : wc.cell? ⟨gb181, 8, none⟩ = some (.bool a0_8) := (blk_cell BK181.out 8).trans rfl
                    have hcz96_9 : wc.cell? ⟨gb181, 9, none⟩ = some (.bool a0_9) := (blk_cell BK181.out 9).trans rfl
                    have hcz96_10 : wc.cell? ⟨gb181, 10, none⟩ = some (.bool a0_10) := (blk_cell BK181.out 10).trans rfl
                    have hcz96_11 : wc.cell? ⟨gb181, 11, none⟩ = some (.bool a0_11) := (blk_cell BK181.out 11).trans rfl
                    have hcz96_12 : wc.cell? ⟨gb181, 12, none⟩ = some (.bool a0_12) := (blk_cell BK181.out 12).trans rfl
                    have hcz96_13 : wc.cell? ⟨gb181, 13, none⟩ = some (.bool a0_13) := (blk_cell BK181.out 13).trans rfl
                    go_wp2
                    go_ret
                    exact ⟨by first | rfl | (simp [errW_none, errW_some] <;> rfl) | (simp [*, errW_none, errW_some] <;> rfl), by repeat (first | (with_reducible first | exact HB.out | apply below_alloc | apply pw_below_drewN | apply below_drew1 | refine below_set ?_ GE181.out) | exact HB.out)⟩
                  · replace c95 := Bool.eq_false_iff.mpr c95
                    subst c95
                    have H1 : (if a0_11 = true then (if a0_10 = true then (some 0) else (some 3)) else (some 0)) = some r := by rw [if_neg (show ¬ (false = true) by decide)] at H; exact H
                    clear H
                    have H := H1
                    clear H1
                    by_cases c97 : a0_11 = true
                    · subst c97
                      have H1 : (if a0_10 = true then (some 0) else (some 3)) = some r := by rw [if_pos rfl] at H; exact H
                      clear H
                      have H := H1
                      clear H1
                      by_cases c98 : a0_10 = true
                      · subst c98
                        have H1 : (some 0) = some r := by rw [if_pos rfl] at H; exact H
                        clear H
                        have H := H1
                        clear H1
                        obtain rfl := Option.some.inj H
                        have hcz99_0 : wc.cell? ⟨gb181, 0, none⟩ = some (.int .i64 a0_0) := (blk_cell BK181.out 0).trans rfl
                        have hcz99_1 : wc.cell? ⟨gb181, 1, none⟩ = some (.int .i64 a0_1) := (blk_cell BK181.out 1).trans rfl
                        have hcz99_2 : wc.cell? ⟨gb181, 2, none⟩ = some (.int .i64 a0_2) := (blk_cell BK181.out 2).trans rfl
                        have hcz99_3 : wc.cell? ⟨gb181, 3, none⟩ = some (.int .i64 a0_3) := (blk_cell BK181.out 3).trans rfl
                        have hcz99_4 : wc.cell? ⟨gb181, 4, none⟩ = some (.bool a0_4) := (blk_cell BK181.out 4).trans rfl
                        have hcz99_5 : wc.cell? ⟨gb181, 5, none⟩ = some (.bool true) := (blk_cell BK181.out 5).trans rfl
                        have hcz99_6 : wc.cell? ⟨gb181, 6, none⟩ = some (.bool false) := (blk_cell BK181.out 6).trans rfl
                        have hcz99_7 : wc.cell? ⟨gb181, 7, none⟩ = some (.bool false) := (blk_cell BK181.out 7).trans rfl
                        have hcz99_8 : wc.cell? ⟨gb181, 8, none⟩ = some (.bool a0_8) := (blk_cell BK181.out 8).trans rfl
                        have hcz99_9 : wc.cell? ⟨gb181, 9, none⟩ = some (.bool a0_9) := (blk_cell BK181.out 9).trans rfl
                        have hcz99_10 : wc.cell? ⟨gb181, 10, none⟩ = some (.bool true) := (blk_cell BK181.out 10).trans rfl
                        have hcz99_11 : wc.cell? ⟨gb181, 11, none⟩ = some (.bool true) := (blk_cell BK181.out 11).trans rfl
                        have hcz99_12 : wc.cell? ⟨gb181, 12, none⟩ = some (.bool a0_12) := (blk_cell BK181.out 12).trans rfl
                        have hcz99_13 : wc.cell? ⟨gb181, 13, none⟩ = some (.bool a0_13) := (blk_cell BK181.out 13).trans rfl
                        go_wp2
                        go_ret
                        exact ⟨by first | rfl | (simp [errW_none, errW_some] <;> rfl) | (simp [*, errW_none, errW_some] <;> rfl), by repeat (first | (with_reducible first | exact HB.out | apply below_alloc | apply pw_below_drewN | apply below_drew1 | refine below_set ?_ GE181.out) | exact HB.out)⟩
                      · replace c98 := Bool.eq_false_iff.mpr c98
                        subst c98
                        have H1 : (some 3) = some r := by rw [if_neg (show ¬ (false = true) by decide)] at H; exact H
                        clear H
                        have H := H1
                        clear H1
                        obtain rfl := Option.some.inj H
                        have hcz100_0 : wc.cell? ⟨gb181, 0, none⟩ = some (.int .i64 a0_0) := (blk_cell BK181.out 0).trans rfl
                        have hcz100_1 : wc.cell? ⟨gb181, 1, none⟩ = some (.int .i64 a0_1) := (blk_cell BK181.out 1).trans rfl
                        have hcz100_2 : wc.cell? ⟨gb181, 2, none⟩ = some (.int .i64 a0_2) := (blk_cell BK181.out 2).trans rfl
                        have hcz100_3 : wc.cell? ⟨gb181, 3, none⟩ = some (.int .i64 a0_3) := (blk_cell BK181.out 3).trans rfl
                        have hcz100_4 : wc.cell? ⟨gb181, 4, none⟩ = some (.bool a0_4) := (blk_cell BK181.out 4).trans rfl
                        have hcz100_5 : wc.cell? ⟨gb181, 5, none⟩ = some (.bool true) := (blk_cell BK181.out 5).trans rfl
                        have hcz100_6 : wc.cell? ⟨gb181, 6, none⟩ = some (.bool false) := (blk_cell BK181.out 6).trans rfl
                        have hcz100_7 : wc.cell? ⟨gb181, 7, none⟩ = some (.bool false) := (blk_cell BK181.out 7).trans rfl
                        have hcz100_8 : wc.cell? ⟨gb181, 8, none⟩ = some (.bool a0_8) := (blk_cell BK181.out 8).trans rfl
                        have hcz100_9 : wc.cell? ⟨gb181, 9, none⟩ = some (.bool a0_9) := (blk_cell BK181.out 9).trans rfl
                        have hcz100_10 : wc.cell? ⟨gb181, 10, none⟩ = some (.bool false) := (blk_cell BK181.out 10).trans rfl
                        have hcz100_11 : wc.cell? ⟨gb181, 11, none⟩ = some (.bool true) := (blk_cell BK181.out 11).trans rfl
                        have hcz100_12 : wc.cell? ⟨gb181, 12, none⟩ = some (.bool a0_12) := (blk_cell BK181.out 12).trans rfl
                        have hcz100_13 : wc.cell? ⟨gb181, 13, none⟩ = some (.bool a0_13) := (blk_cell BK181.out 13).trans rfl
                        go_wp2
                        go_ret
                        exact ⟨by first | rfl | (simp [errW_none, errW_some] <;> rfl) | (simp [*, errW_none, errW_some] <;> rfl), by repeat (first | (with_reducible first | exact HB.out | apply below_alloc | apply pw_below_drewN | apply below_drew1 | refine below_set ?_ GE181.out) | exact HB.out)⟩
                    · replace c97 := Bool.eq_false_iff.mpr c97
                      subst c97
                      have H1 : (some 0) = some r := by rw [if_neg (show ¬ (false = true) by decide)] at H; exact H
                      clear H
                      have H := H1
                      clear H1
                      obtain rfl := Option.some.inj H
                      have hcz101_0 : wc.cell? ⟨gb181, 0, none⟩ = some (.int .i64 a0_0) := (blk_cell BK181.out 0).trans rfl
                      have hcz101_1 : wc.cell? ⟨gb181, 1, none⟩ = some (.int .i64 a0_1) := (blk_cell BK181.out 1).trans rfl
                      have hcz101_2 : wc.cell? ⟨gb181, 2, none⟩ = some (.int .i64 a0_2) := (blk_cell BK181.out 2).trans rfl
                      have hcz101_3 : wc.cell? ⟨gb181, 3, none⟩ = some (.int .i64 a0_3) := (blk_cell BK181.out 3).trans rfl
                      have hcz101_4 : wc.cell? ⟨gb181, 4, none⟩ = some (.bool a0_4) := (blk_cell BK181.out 4).trans rfl
                      have hcz101_5 : wc.cell? ⟨gb181, 5, none⟩ = some (.bool true) := (blk_cell BK181.out 5).trans rfl
                      have hcz101_6 : wc.cell? ⟨gb181, 6, none⟩ = some (.bool false) := (blk_cell BK181.out 6).trans rfl
                      have hcz101_7 : wc.cell? ⟨gb181, 7, none⟩ = some (.bool false) := (blk_cell BK181.out 7).trans rfl
                      have hcz101_8 : wc.cell? ⟨gb181, 8, none⟩ = some (.bool a0_8) := (blk_cell BK181.out 8).trans rfl
                      have hcz101_9 : wc.cell? ⟨gb181, 9, none⟩ = some (.bool a0_9) := (blk_cell BK181.out 9).trans rfl
                      have hcz101_10 : wc.cell? ⟨gb181, 10, none⟩ = some (.bool a0_10) := (blk_cell BK181.out 10).trans rfl
                      have hcz101_11 : wc.cell? ⟨gb181, 11, none⟩ = some (.bool false) := (blk_cell BK181.out 11).trans rfl
                      have hcz101_12 : wc.cell? ⟨gb181, 12, none⟩ = some (.bool a0_12) := (blk_cell BK181.out 12).trans rfl
                      have hcz101_13 : wc.cell? ⟨gb181, 13, none⟩ = some (.bool a0_13) := (blk_cell BK181.out 13).trans rfl
                      go_wp2
                      go_ret
                      exact ⟨by first | rfl | (simp [errW_none, errW_some] <;> rfl) | (simp [*, errW_none, errW_some] <;> rfl), by repeat (first | (with_reducible first | exact HB.out | apply below_alloc | apply pw_below_drewN | apply below_drew1 | refine below_set ?_ GE181.out) | exact HB.out)⟩
              · replace c92 := Bool.eq_false_iff.mpr c92
                subst c92
                have H1 : (some 3) = some r := by rw [if_neg (show ¬ (false = true) by decide)] at H; exact H
                clear H
                have H := H1
                clear H1
                obtain rfl := Option.some.inj H
                have hcz102_0 : wc.cell? ⟨gb181, 0, none⟩ = some (.int .i64 a0_0) := (blk_cell BK181.out 0).trans rfl
                have hcz102_1 : wc.cell? ⟨gb181, 1, none⟩ = some (.int .i64 a0_1) := (blk_cell BK181.out 1).trans rfl
                have hcz102_2 : wc.cell? ⟨gb181, 2, none⟩ = some (.int .i64 a0_2) := (blk_cell BK181.out 2).trans rfl
                have hcz102_3 : wc.cell? ⟨gb181, 3, none⟩ = some (.int .i64 a0_3) := (blk_cell BK181.out 3).trans rfl
                have hcz102_4 : wc.cell? ⟨gb181, 4, none⟩ = some (.bool a0_4) := (blk_cell BK181.out 4).trans rfl
                have hcz102_5 : wc.cell? ⟨gb181, 5, none⟩ = some (.bool false) := (blk_cell BK181.out 5).trans rfl
                have hcz102_6 : wc.cell? ⟨gb181, 6, none⟩ = some (.bool a0_6) := (blk_cell BK181.out 6).trans rfl
                have hcz102_7 : wc.cell? ⟨gb181, 7, none⟩ = some (.bool a0_7) := (blk_cell BK181.out 7).trans rfl
                have hcz102_8 : wc.cell? ⟨gb181, 8, none⟩ = some (.bool a0_8) := (blk_cell BK181.out 8).trans rfl
                have hcz102_9 : wc.cell? ⟨gb181, 9, none⟩ = some (.bool a0_9) := (blk_cell BK181.out 9).trans rfl
                have hcz102_10 : wc.cell? ⟨gb181, 10, none⟩ = some (.bool a0_10) := (blk_cell BK181.out 10).trans rfl
                have hcz102_11 : wc.cell? ⟨gb181, 11, none⟩ = some (.bool a0_11) := (blk_cell BK181.out 11).trans rfl
                have hcz102_12 : wc.cell? ⟨gb181, 12, none⟩ = some (.bool a0_12) := (blk_cell BK181.out 12).trans rfl
                have hcz102_13 : wc.cell? ⟨gb181, 13, none⟩ = some (.bool a0_13) := (blk_cell BK181.out 13).trans rfl
                go_wp2
                go_ret
                exact ⟨by first | rfl | (simp [errW_none, errW_some] <;> rfl) | (simp [*, errW_none, errW_some] <;> rfl), by repeat (first | (with_reducible first | exact HB.out | apply below_alloc | apply pw_below_drewN | apply below_drew1 | refine below_set ?_ GE181.out) | exact HB.out)⟩
            · rw [if_neg c91] at H
              have c91b0 : (a0_2 == 3) = false := beq_eq_false_iff_ne.mpr c91
              have c91b1 : (a0_2 != 3) = true := bne_iff_ne.mpr c91
              by_cases c103 : a0_5 = true
              · subst c103
                have H1 : (if a0_6 = true then (some 3) else (if a0_7 = true then (if a0_2 = 4 then (some 3) else (if a0_11 = true then (if a0_10 = true then (some 0) else (some 3)) else (some 0))) else (if a0_11 = true then (if a0_10 = true then (some 0) else (some 3)) else (some 0)))) = some r := by rw [if_pos rfl] at H; exact H
                clear H
                have H := H1
                clear H1
                by_cases c104 : a0_6 = true
                · subst c104
                  have H1 : (some 3) = some r := by rw [if_pos rfl] at H; exact H
                  clear H
                  have H := H1
                  clear H1
                  obtain rfl := Option.some.inj H
                  have hcz105_0 : wc.cell? ⟨gb181, 0, none⟩ = some (.int .i64 a0_0) := (blk_cell BK181.out 0).trans rfl
                  have hcz105_1 : wc.cell? ⟨gb181, 1, none⟩ = some (.int .i64 a0_1) := (blk_cell BK181.out 1).trans rfl
                  have hcz105_2 : wc.cell? ⟨gb181, 2, none⟩ = some (.int .i64 a0_2) := (blk_cell BK181.out 2).trans rfl
                  have hcz105_3 : wc.cell? ⟨gb181, 3, none⟩ = some (.int .i64 a0_3) := (blk_cell BK181.out 3).trans rfl
                  have hcz105_4 : wc.cell? ⟨gb181, 4, none⟩ = some (.bool a0_4) := (blk_cell BK181.out 4).trans rfl
                  have hcz105_5 : wc.cell? ⟨gb181, 5, none⟩ = some (.bool true) := (blk_cell BK181.out 5).trans rfl
                  have hcz105_6 : wc.cell? ⟨gb181, 6, none⟩ = some (.bool true) := (blk_cell BK181.out 6).trans rfl
                  have hcz105_7 : wc.cell? ⟨gb181, 7, none⟩ = some (.bool a0_7) := (blk_cell BK181.out 7).trans rfl
                  have hcz105_8 : wc.cell? ⟨gb181, 8, none⟩ = some (.bool a0_8) := (blk_cell BK181.out 8).trans rfl
                  have hcz105_9 : wc.cell? ⟨gb181, 9, none⟩ = some (.bool a0_9) := (blk_cell BK181.out 9).trans rfl
                  have hcz105_10 : wc.cell? ⟨gb181, 10, none⟩ = some (.bool a0_10) := (blk_cell BK181.out 10).trans rfl
                  have hcz105_11 : wc.cell? ⟨gb181, 11, none⟩ = some (.bool a0_11) := (blk_cell BK181.out 11).trans rfl
                  have hcz105_12 : wc.cell? ⟨gb181, 12, none⟩ = some (.bool a0_12) := (blk_cell BK181.out 12).trans rfl
                  have hcz105_13 : wc.cell? ⟨gb181, 13, none⟩ = some (.bool a0_13) := (blk_cell BK181.out 13).trans rfl
                  go_wp2
                  go_ret
                  exact ⟨by first | rfl | (simp [errW_none, errW_some] <;> rfl) | (simp [*, errW_none, errW_some] <;> rfl), by repeat (first | (with_reducible first | exact HB.out | apply below_alloc | apply pw_below_drewN | apply below_drew1 | refine below_set ?_ GE181.out) | exact HB.out)⟩
                · replace c104 := Bool.eq_false_iff.mpr c104
                  subst c104
                  have H1 : (if a0_7 = true then (if a0_2 = 4 then (some 3) else (if a0_11 = true then (if a0_10 = true then (some 0) else (some 3)) else (some 0))) else (if a0_11 = true then (if a0_10 = true then (some 0) else (some 3)) else (some 0))) = some r := by rw [if_neg (show ¬ (false = true) by decide)] at H; exact H
                  clear H
                  have H := H1
                  clear H1
                  by_cases c106 : a0_7 = true
                  · subst c106
                    have H1 : (if a0_2 = 4 then (some 3) else (if a0_11 = true then (if a0_10 = true then (some 0) else (some 3)) else (some 0))) = some r := by rw [if_pos rfl] at H; exact H
                    clear H
                    have H := H1
                    clear H1
                    by_cases c107 : a0_2 = 4
                    · rw [if_pos c107] at H
                      have c107b0 : (a0_2 == 4) = true := beq_iff_eq.mpr c107
                      have c107b1 : (a0_2 != 4) = false := bne_eq_false_iff_eq.mpr c107
                      clear c107
                      obtain rfl := Option.some.inj H
                      have hcz108_0 : wc.cell? ⟨gb181, 0, none⟩ = some (.int .i64 a0_0) := (blk_cell BK181.out 0).trans rfl
                      have hcz108_1 : wc.cell? ⟨gb181, 1, none⟩ = some (.int .i64 a0_1) := (blk_cell BK181.out 1).trans rfl
                      have hcz108_2 : wc.cell? ⟨gb181, 2, none⟩ = some (.int .i64 a0_2) := (blk_cell BK181.out 2).trans rfl
                      have hcz108_3 : wc.cell? ⟨gb181, 3, none⟩ = some (.int .i64 a0_3) := (blk_cell BK181.out 3).trans rfl
                      have hcz108_4 : wc.cell? ⟨gb181, 4, none⟩ = some (.bool a0_4) := (blk_cell BK181.out 4).trans rfl
                      have hcz108_5 : wc.cell? ⟨gb181, 5, none⟩ = some (.bool true) := (blk_cell BK181.out 5).trans rfl
                      have hcz108_6 : wc.cell? ⟨gb181, 6, none⟩ = some (.bool false) := (blk_cell BK181.out 6).trans rfl
                      have hcz108_7 : wc.cell? ⟨gb181, 7, none⟩ = some (.bool true) := (blk_cell BK181.out 7).trans rfl
                      have hcz108_8 : wc.cell? ⟨gb181, 8, none⟩ = some (.bool a0_8) := (blk_cell BK181.out 8).trans rfl
                      have hcz108_9 : wc.cell? ⟨gb181, 9, none⟩ = some (.bool a0_9) := (blk_cell BK181.out 9).trans rfl
                      have hcz108_10 : wc.cell? ⟨gb181, 10, none⟩ = some (.bool a0_10) := (blk_cell BK181.out 10).trans rfl
                      have hcz108_11 : wc.cell? ⟨gb181, 11, none⟩ = some (.bool a0_11) := (blk_cell BK181.out 11).trans rfl
                      have hcz108_12 : wc.cell? ⟨gb181, 12, none⟩ = some (.bool a0_12) := (blk_cell BK181.out 12).trans rfl
                      have hcz108_13 : wc.cell? ⟨gb181, 13, none⟩ = some (.bool a0_13) := (blk_cell BK181.out 13).trans rfl
                      go_wp2
                      go_ret
                      exact ⟨by first | rfl | (simp [errW_none, errW_some] <;> rfl) | (simp [*, errW_none, errW_some] <;> rfl), by repeat (first | (with_reducible first | exact HB.out | apply below_alloc | apply pw_below_drewN | apply below_drew1 | refine below_set ?_ GE181.out) | exact HB.out)⟩
                    · rw [if_neg c107] at H
                      have c107b0 : (a0_2 == 4) = false := beq_eq_false_iff_ne.mpr c107
                      have c107b1 : (a0_2 != 4) = true := bne_iff_ne.mpr c107
                      by_cases c109 : a0_11 = true
                      · subst c109
                        have H1 : (if a0_10 = true then (some 0) else (some 3)) = some r := by rw [if_pos rfl] at H; exact H
                        clear H
                        have H := H1
                        clear H1
                        by_cases c110 : a0_10 = true
                        · subst c110
                          have H1 : (some 0) = some r := by rw [if_pos rfl] at H; exact H
                          clear H
                          have H := H1
                          clear H1
                          obtain rfl := Option.some.inj H
                          have hcz111_0 : wc.cell? ⟨gb181, 0, none⟩ = some (.int .i64 a0_0) := (blk_cell BK181.out 0).trans rfl
                          have hcz111_1 : wc.cell? ⟨gb181, 1, none⟩ = some (.int .i64 a0_1) := (blk_cell BK181.out 1).trans rfl
                          have hcz111_2 : wc.cell? ⟨gb181, 2, none⟩ = some (.int .i64 a0_2) := (blk_cell BK181.out 2).trans rfl
                          have hcz111_3 : wc.cell? ⟨gb181, 3, none⟩ = some (.int .i64 a0_3) := (blk_cell BK181.out 3).trans rfl
                          have hcz111_4 : wc.cell? ⟨gb181, 4, none⟩ = some (.bool a0_4) := (blk_cell BK181.out 4).trans rfl
                          have hcz111_5 : wc.cell? ⟨gb181, 5, none⟩ = some (.bool true) := (blk_cell BK181.out 5).trans rfl
                          have hcz111_6 : wc.cell? ⟨gb181, 6, none⟩ = some (.bool false) := (blk_cell BK181.out 6).trans rfl
                          have hcz111_7 : wc.cell? ⟨gb181, 7, none⟩ = some (.bool true) := (blk_cell BK181.out 7).trans rfl
                          have hcz111_8 : wc.cell? ⟨gb181, 8, none⟩ = some (.bool a0_8) := (blk_cell BK181.out 8).trans rfl
                          have hcz111_9 : wc.cell? ⟨gb181, 9, none⟩ = some (.bool a0_9) := (blk_cell BK181.out 9).trans rfl
                          have hcz111_10 : wc.cell? ⟨gb181, 10, none⟩ = some (.bool true) := (blk_cell BK181.out 10).trans rfl
                          have hcz111_11 : wc.cell? ⟨gb181, 11, none⟩ = some (.bool true) := (blk_cell BK181.out 11).trans rfl
                          have hcz111_12 : wc.cell? ⟨gb181, 12, none⟩ = some (.bool a0_12) := (blk_cell BK181.out 12).trans rfl
                          have hcz111_13 : wc.cell? ⟨gb181, 13, none⟩ = some (.bool a0_13) := (blk_cell BK181.out 13).trans rfl
                          go_wp2
                          go_ret
                          exact ⟨by first | rfl | (simp [errW_none, errW_some] <;> rfl) | (simp [*, errW_none, errW_some] <;> rfl), by repeat (first | (with_reducible first | exact HB.out | apply below_alloc | apply pw_below_drewN | apply below_drew1 | refine below_set ?_ GE181.out) | exact HB.out)⟩
                        · replace c110 := Bool.eq_false_iff.mpr c110
                          subst c110
                          have H1 : (some 3) = some r := by rw [if_neg (show ¬ (false = true) by decide)] at H; exact H
                          clear H
                          have H := H1
                          clear H1
                          obtain rfl := Option.some.inj H
                          have hcz112_0 : wc.cell? ⟨gb181, 0, none⟩ = some (.int .i64 a0_0) := (blk_cell BK181.out 0).trans rfl
                          have hcz112_1 : wc.cell? ⟨gb181, 1, none⟩ = some (.int .i64 a0_1) := (blk_cell BK181.out 1).trans rfl
                          have hcz112_2 : wc.cell? ⟨gb181, 2, none⟩ = some (.int .i64 a0_2) := (blk_cell BK181.out 2).trans rfl
                          have hcz112_3 : wc.cell? ⟨gb181, 3, none⟩ = some (.int .i64 a0_3) := (blk_cell BK181.out 3).trans rfl
                          have hcz112_4 : wc.cell? ⟨gb181, 4, none⟩ = some (.bool a0_4) := (blk_cell BK181.out 4).trans rfl
                          have hcz112_5 : wc.cell? ⟨gb181, 5, none⟩ = some (.bool true) := (blk_cell BK181.out 5).trans rfl
                          have hcz112_6 : wc.cell? ⟨gb181, 6, none⟩ = some (.bool false) := (blk_cell BK181.out 6).trans rfl
                          have hcz112_7 : wc.cell? ⟨gb181, 7, none⟩ = some (.bool true) := (blk_cell BK181.out 7).trans rfl
                          have hcz112_8 : wc.cell? ⟨gb181, 8, none⟩ = some (.bool a0_8) := (blk_cell BK181.out 8).trans rfl
                          have hcz112_9 : wc.cell? ⟨gb181, 9, none⟩ = some (.bool a0_9) := (blk_cell BK181.out 9).trans rfl
                          have hcz112_10 : wc.cell? ⟨gb181, 10, none⟩ = some (.bool false) := (blk_cell BK181.out 10).trans rfl
                          have hcz112_11 : wc.cell? ⟨gb181, 11, none⟩ = some (.bool true) := (blk_cell BK181.out 11).trans rfl
                          have hcz112_12 : wc.cell? ⟨gb181, 12, none⟩ = some (.bool a0_12) := (blk_cell BK181.out 12).trans rfl
                          have hcz112_13 : wc.cell? ⟨gb181, 13, none⟩ = some (.bool a0_13) := (blk_cell BK181.out 13).trans rfl
                          go_wp2
                          go_ret
                          exact ⟨by first | rfl | (simp [errW_none, errW_some] <;> rfl) | (simp [*, errW_none, errW_some] <;> rfl), by repeat (first | (with_reducible first | exact HB.out | apply below_alloc | apply pw_below_drewN | apply below_drew1 | refine below_set ?_ GE181.out) | exact HB.out)⟩
                      · replace c109 := Bool.eq_false_iff.mpr c109
                        subst c109
                        have H1 : (some 0) = some r := by rw [if_neg (show ¬ (false = true) by decide)] at H; exact H
                        clear H
                        have H := H1
                        clear H1
                        obtain rfl := Option.some.inj H
                        have hcz113_0 : wc.cell? ⟨gb181, 0, none⟩ = some (.int .i64 a0_0) := (blk_cell BK181.out 0).trans rfl
                        have hcz113_1 : wc.cell? ⟨gb181, 1, none⟩ = some (.int .i64 a0_1) := (blk_cell BK181.out 1).trans rfl
                        have hcz113_2 : wc.cell? ⟨gb181, 2, none⟩ = some (.int .i64 a0_2) := (blk_cell BK181.out 2).trans rfl
                        have hcz113_3 : wc.cell? ⟨gb181, 3, none⟩ = some (.int .i64 a0_3) := (blk_cell BK181.out 3).trans rfl
                        have hcz113_4 : wc.cell? ⟨gb181, 4, none⟩ = some (.bool a0_4) := (blk_cell BK181.out 4).trans rfl
                        have hcz113_5 : wc.cell? ⟨gb181, 5, none⟩ = some (.bool true) := (blk_cell BK181.out 5).trans rfl
                        have hcz113_6 : wc.cell? ⟨gb181, 6, none⟩ = some (.bool false) := (blk_cell BK181.out 6).trans rfl
                        have hcz113_7 : wc.cell? ⟨gb181, 7, none⟩ = some (.bool true) := (blk_cell BK181.out 7).trans rfl
                        have hcz113_8 : wc.cell? ⟨gb181, 8, none⟩ = some (.bool a0_8) := (blk_cell BK181.out 8).trans rfl
                        have hcz113_9 : wc.cell? ⟨gb181, 9, none⟩ = some (.bool a0_9) := (blk_cell BK181.out 9).trans rfl
                        have hcz113_10 : wc.cell? ⟨gb181, 10, none⟩ = some (.bool a0_10) := (blk_cell BK181.out 10).trans rfl
                        have hcz113_11 : wc.cell? ⟨gb181, 11, none⟩ = some (.bool false) := (blk_cell BK181.out 11).trans rfl
                        have hcz113_12 : wc.cell? ⟨gb181, 12, none⟩ = some (.bool a0_12) := (blk_cell BK181.out 12).trans rfl
                        have hcz113_13 : wc.cell? ⟨gb181, 13, none⟩ = some (.bool a0_13) := (blk_cell BK181.out 13).trans rfl
                        go_wp2
                        go_ret
                        exact ⟨by first | rfl | (simp [errW_none, errW_some] <;> rfl) | (simp [*, errW_none, errW_some] <;> rfl), by repeat (first | (with_reducible first | exact HB.out | apply below_alloc | apply pw_below_drewN | apply below_drew1 | refine below_set ?_ GE181.out) | exact HB.out)⟩
                  · replace c106 := Bool.eq_false_iff.mpr c106
                    subst c106
                    have H1 : (if a0_11 = true then (if a0_10 = true then (some 0) else (some 3)) else (some 0)) = some r := by rw [if_neg (show ¬ (false = true) by decide)] at H; exact H
                    clear H
                    have H := H1
                    clear H1
                    by_cases c114 : a0_11 = true
                    · subst c114
                      have H1 : (if a0_10 = true then (some 0) else (some 3)) = some r := by rw [if_pos rfl] at H; exact H
                      clear H
                      have H := H1
                      clear H1
                      by_cases c115 : a0_10 = true
                      · subst c115
                        have H1 : (some 0) = some r := by rw [if_pos rfl] at H; exact H
                        clear H
                        have H := H1
                        clear H1
                        obtain rfl := Option.some.inj H
                        have hcz116_0 : wc.cell? ⟨gb181, 0, none⟩ = some (.int .i64 a0_0) := (blk_cell BK181.out 0).trans rfl
                        have hcz116_1 : wc.cell? ⟨gb181, 1, none⟩ = some (.int .i64 a0_1) := (blk_cell BK181.out 1).trans rfl
                        have hcz116_2 : wc.cell? ⟨gb181, 2, none⟩ = some (.int .i64 a0_2) := (blk_cell BK181.out 2).trans rfl
                        have hcz116_3 : wc.cell? ⟨gb181, 3, none⟩ = some (.int .i64 a0_3) := (blk_cell BK181.out 3).trans rfl
                        have hcz116_4 : wc.cell? ⟨gb181, 4, none⟩ = some (.bool a0_4) := (blk_cell BK181.out 4).trans rfl
                        have hcz116_5 : wc.cell? ⟨gb181, 5, none⟩ = some (.bool true) := (blk_cell BK181.out 5).trans rfl
                        have hcz116_6 : wc.cell? ⟨gb181, 6, none⟩ = some (.bool false) := (blk_cell BK181.out 6).trans rfl
                        have hcz116_7 : wc.cell? ⟨gb181, 7, none⟩ = some (.bool false) := (blk_cell BK181.out 7).trans rfl
                        have hcz116_8 : wc.cell? ⟨gb181, 8, none⟩ = some (.bool a0_8) := (blk_cell BK181.out 8).trans rfl
                        have hcz116_9 : wc.cell? ⟨gb181, 9, none⟩ = some (.bool a0_9) := (blk_cell BK181.out 9).trans rfl
                        have hcz116_10 : wc.cell? ⟨gb181, 10, none⟩ = some (.bool true) := (blk_cell BK181.out 10).trans rfl
                        have hcz116_11 : wc.cell? ⟨gb181, 11, none⟩ = some (.bool true) := (blk_cell BK181.out 11).trans rfl
                        have hcz116_12 : wc.cell? ⟨gb181, 12, none⟩ = some (.bool a0_12) := (blk_cell BK181.out 12).trans rfl
                        have hcz116_13 : wc.cell? ⟨gb181, 13, none⟩ = some (.bool a0_13) := (blk_cell BK181.out 13).trans rfl
                        go_wp2
                        go_ret
                        exact ⟨by first | rfl | (simp [errW_none, errW_some] <;> rfl) | (simp [*, errW_none, errW_some] <;> rfl), by repeat (first | (with_reducible first | exact HB.out | apply below_alloc | apply pw_below_drewN | apply below_drew1 | refine below_set ?_ GE181.out) | exact HB.out)⟩
                      · replace c115 := Bool.eq_false_iff.mpr c115
                        subst c115
                        have H1 : (some 3) = some r := by rw [if_neg (show ¬ (false = true) by decide)] at H; exact H
                        clear H
                        have H := H1
                        clear H1
                        obtain rfl := Option.some.inj H
                        have hcz117_0 : wc.cell? ⟨gb181, 0, none⟩ = some (.int .i64 a0_0) := (blk_cell BK181.out 0).trans rfl
                        have hcz117_1 : wc.cell? ⟨gb181, 1, none⟩ = some (.int .i64 a0_1) := (blk_cell BK181.out 1).trans rfl
                        have hcz117_2 : wc.cell? ⟨gb181, 2, none⟩ = some (.int .i64 a0_2) := (blk_cell BK181.out 2).trans rfl
                        have hcz117_3 : wc.cell? ⟨gb181, 3, none⟩ = some (.int .i64 a0_3) := (blk_cell BK181.out 3).trans rfl
                        have hcz117_4 : wc.cell? ⟨gb181, 4, none⟩ = some (.bool a0_4) := (blk_cell BK181.out 4).trans rfl
                        have hcz117_5 : wc.cell? ⟨gb181, 5, none⟩ = some (.bool true) := (blk_cell BK181.out 5).trans rfl
                        have hcz117_6 : wc.cell? ⟨gb181, 6, none⟩ = some (.bool false) := (blk_cell BK181.out 6).trans rfl
                        have hcz117_7 : wc.cell? ⟨gb181, 7, none⟩ = some (.bool false) := (blk_cell BK181.out 7).trans rfl
                        have hcz117_8 : wc.cell? ⟨gb181, 8, none⟩ = some (.bool a0_8) := (blk_cell BK181.out 8).trans rfl
                        have hcz117_9 : wc.cell? ⟨gb181, 9, none⟩ = some (.bool a0_9) := (blk_cell BK181.out 9).trans rfl
                        have hcz117_10 : wc.cell? ⟨gb181, 10, none⟩ = some (.bool false) := (blk_cell BK181.out 10).trans rfl
                        have hcz117_11 : wc.cell? ⟨gb181, 11, none⟩ = some (.bool true) := (blk_cell BK181.out 11).trans rfl
                        have hcz117_12 : wc.cell? ⟨gb181, 12, none⟩ = some (.bool a0_12) := (blk_cell BK181.out 12).trans rfl
                        have hcz117_13 : wc.cell? ⟨gb181, 13, none⟩ = some (.bool a0_13) := (blk_cell BK181.out 13).trans rfl
                        go_wp2
                        go_ret
                        exact ⟨by first | rfl | (simp [errW_none, errW_some] <;> rfl) | (simp [*, errW_none, errW_some] <;> rfl), by repeat (first | (with_reducible first | exact HB.out | apply below_alloc | apply pw_below_drewN | apply below_drew1 | refine below_set ?_ GE181.out) | exact HB.out)⟩
                    · replace c114 := Bool.eq_false_iff.mpr c114
                      subst c114
                      have H1 : (some 0) = some r := by rw [if_neg (show ¬ (false = true) by decide)] at H; exact H
                      clear H
                      have H := H1
                      clear H1
                      obtain rfl := Option.some.inj H
                      have hcz118_0 : wc.cell? ⟨gb181, 0, none⟩ = some (.int .i64 a0_0) := (blk_cell BK181.out 0).trans rfl
                      have hcz118_1 : wc.cell? ⟨gb181, 1, none⟩ = some (.int .i64 a0_1) := (blk_cell BK181.out 1).trans rfl
                      have hcz118_2 : wc.cell? ⟨gb181, 2, none⟩ = some (.int .i64 a0_2) := (blk_cell BK181.out 2).trans rfl
                      have hcz118_3 : wc.cell? ⟨gb181, 3, none⟩ = some (.int .i64 a0_3) := (blk_cell BK181.out 3).trans rfl
                      have hcz118_4 : wc.cell? ⟨gb181, 4, none⟩ = some (.bool a0_4) := (blk_cell BK181.out 4).trans rfl
                      have hcz118_5 : wc.cell? ⟨gb181, 5, none⟩ = some (.bool true) := (blk_cell BK181.out 5).trans rfl
                      have hcz118_6 : wc.cell? ⟨gb181, 6, none⟩ = some (.bool false) := (blk_cell BK181.out 6).trans rfl
                      have hcz118_7 : wc.cell? ⟨gb181, 7, none⟩ = some (.bool false) := (blk_cell BK181.out 7).trans rfl
                      have hcz118_8 : wc.cell? ⟨gb181, 8, none⟩ = some (.bool a0_8) := (blk_cell BK181.out 8).trans rfl
                      have hcz118_9 : wc.cell? ⟨gb181, 9, none⟩ = some (.bool a0_9) := (blk_cell BK181.out 9).trans rfl
                      have hcz118_10 : wc.cell? ⟨gb181, 10, none⟩ = some (.bool a0_10) := (blk_cell BK181.out 10).trans rfl
                      have hcz118_11 : wc.cell? ⟨gb181, 11, none⟩ = some (.bool false) := (blk_cell BK181.out 11).trans rfl
                      have hcz118_12 : wc.cell? ⟨gb181, 12, none⟩ = some (.bool a0_12) := (blk_cell BK181.out 12).trans rfl
                      have hcz118_13 : wc.cell? ⟨gb181, 13, none⟩ = some (.bool a0_13) := (blk_cell BK181.out 13).trans rfl
                      go_wp2
                      go_ret
                      exact ⟨by first | rfl | (simp [errW_none, errW_some] <;> rfl) | (simp [*, errW_none, errW_some] <;> rfl), by repeat (first | (with_reducible first | exact HB.out | apply below_alloc | apply pw_below_drewN | apply below_drew1 | refine below_set ?_ GE181.out) | exact HB.out)⟩
              · replace c103 := Bool.eq_false_iff.mpr c103
                subst c103
                have H1 : (some 3) = some r := by rw [if_neg (show ¬ (false = true) by decide)] at H; exact H
                clear H
                have H := H1
                clear H1
                obtain rfl := Option.some.inj H
                have hcz119_0 : wc.cell? ⟨gb181, 0, none⟩ = some (.int .i64 a0_0) := (blk_cell BK181.out 0).trans rfl
                have hcz119_1 : wc.cell? ⟨gb181, 1, none⟩ = some (.int .i64 a0_1) := (blk_cell BK181.out 1).trans rfl
                have hcz119_2 : wc.cell? ⟨gb181, 2, none⟩ = some (.int .i64 a0_2) := (blk_cell BK181.out 2).trans rfl
                have hcz119_3 : wc.cell? ⟨gb181, 3, none⟩ = some (.int .i64 a0_3) := (blk_cell BK181.out 3).trans rfl
                have hcz119_4 : wc.cell? ⟨gb181, 4, none⟩ = some (.bool a0_4) := (blk_cell BK181.out 4).trans rfl
                have hcz119_5 : wc.cell? ⟨gb181, 5, none⟩ = some (.bool false) := (blk_cell BK181.out 5).trans rfl
                have hcz119_6 : wc.cell? ⟨gb181, 6, none⟩ = some (.bool a0_6) := (blk_cell BK181.out 6).trans rfl
                have hcz119_7 : wc.cell? ⟨gb181, 7, none⟩ = some (.bool a0_7) := (blk_cell BK181.out 7).trans rfl
                have hcz119_8 : wc.cell? ⟨gb181, 8, none⟩ = some (.bool a0_8) := (blk_cell BK181.out 8).trans rfl
                have hcz119_9 : wc.cell? ⟨gb181, 9, none⟩ = some (.bool a0_9) := (blk_cell BK181.out 9).trans rfl
                have hcz119_10 : wc.cell? ⟨gb181, 10, none⟩ = some (.bool a0_10) := (blk_cell BK181.out 10).trans rfl
                have hcz119_11 : wc.cell? ⟨gb181, 11, none⟩ = some (.bool a0_11) := (blk_cell BK181.out 11).trans rfl
                have hcz119_12 : wc.cell? ⟨gb181, 12, none⟩ = some (.bool a0_12) := (blk_cell BK181.out 12).trans rfl
                have hcz119_13 : wc.cell? ⟨gb181, 13, none⟩ = some (.bool a0_13) := (blk_cell BK181.out 13).trans rfl
                go_wp2
                go_ret
                exact ⟨by first | rfl | (simp [errW_none, errW_some] <;> rfl) | (simp [*, errW_none, errW_some] <;> rfl), by repeat (first | (with_reducible first | exact HB.out | apply below_alloc | apply pw_below_drewN | apply below_drew1 | refine below_set ?_ GE181.out) | exact HB.out)⟩
        · rw [if_neg c16] at H
          have c16b0 : (a0_1 == 0) = false := beq_eq_false_iff_ne.mpr c16
          have c16b1 : (a0_1 != 0) = true := bne_iff_ne.mpr c16
          by_cases c120 : a0_2 = 3
          · rw [if_pos c120] at H
            have c120b0 : (a0_2 == 3) = true := beq_iff_eq.mpr c120
            have c120b1 : (a0_2 != 3) = false := bne_eq_false_iff_eq.mpr c120
            clear c120
            by_cases c121 : a0_5 = true
            · subst c121
              have H1 : (if a0_6 = true then (if a0_7 = true then (some 3) else (if a0_11 = true then (if a0_10 = true then (some 0) else (some 3)) else (some 0))) else (if a0_7 = true then (some 3) else (if a0_11 = true then (if a0_10 = true then (some 0) else (some 3)) else (some 0)))) = some r := by rw [if_pos rfl] at H; exact H
              clear H
              have H := H1
              clear H1
              by_cases c122 : a0_6 = true
              · subst c122
                have H1 : (if a0_7 = true then (some 3) else (if a0_11 = true then (if a0_10 = true then (some 0) else (some 3)) else (some 0))) = some r := by rw [if_pos rfl] at H; exact H
                clear H
                have H := H1
                clear H1
                by_cases c123 : a0_7 = true
                · subst c123
                  have H1 : (some 3) = some r := by rw [if_pos rfl] at H; exact H
                  clear H
                  have H := H1
                  clear H1
                  obtain rfl := Option.some.inj H
                  have hcz124_0 : wc.cell? ⟨gb181, 0, none⟩ = some (.int .i64 a0_0) := (blk_cell BK181.out 0).trans rfl
                  have hcz124_1 : wc.cell? ⟨gb181, 1, none⟩ = some (.int .i64 a0_1) := (blk_cell BK181.out 1).trans rfl
                  have hcz124_2 : wc.cell? ⟨gb181, 2, none⟩ = some (.int .i64 a0_2) := (blk_cell BK181.out 2).trans rfl
                  have hcz124_3 : wc.cell? ⟨gb181, 3, none⟩ = some (.int .i64 a0_3) := (blk_cell BK181.out 3).trans rfl
                  have hcz124_4 : wc.cell? ⟨gb181, 4, none⟩ = some (.bool a0_4) := (blk_cell BK181.out 4).trans rfl
                  have hcz124_5 : wc.cell? ⟨gb181, 5, none⟩ = some (.bool true) := (blk_cell BK181.out 5).trans rfl
                  have hcz124_6 : wc.cell? ⟨gb181, 6, none⟩ = some (.bool true) := (blk_cell BK181.out 6).trans rfl
                  have hcz124_7 : wc.cell? ⟨gb181, 7, none⟩ = some (.bool true) := (blk_cell BK181.out 7).trans rfl
                  have hcz124_8 : wc.cell? ⟨gb181, 8, none⟩ = some (.bool a0_8) := (blk_cell BK181.out 8).trans rfl
                  have hcz124_9 : wc.cell? ⟨gb181, 9, none⟩ = some (.bool a0_9) := (blk_cell BK181.out 9).trans rfl
                  have hcz124_10 : wc.cell? ⟨gb181, 10, none⟩ = some (.bool a0_10) := (blk_cell BK181.out 10).trans rfl
                  have hcz124_11 : wc.cell? ⟨gb181, 11, none⟩ = some (.bool a0_11) := (blk_cell BK181.out 11).trans rfl
                  have hcz124_12 : wc.cell? ⟨gb181, 12, none⟩ = some (.bool a0_12) := (blk_cell BK181.out 12).trans rfl
                  have hcz124_13 : wc.cell? ⟨gb181, 13, none⟩ = some (.bool a0_13) := (blk_cell BK181.out 13).trans rfl
                  go_wp2
                  go_ret
                  exact ⟨by first | rfl | (simp [errW_none, errW_some] <;> rfl) | (simp [*, errW_none, errW_some] <;> rfl), by repeat (first | (with_reducible first | exact HB.out | apply below_alloc | apply pw_below_drewN | apply below_drew1 | refine below_set ?_ GE181.out) | exact HB.out)⟩
                · replace c123 := Bool.eq_false_iff.mpr c123
                  subst c123
                  have H1 : (if a0_11 = true then (if a0_10 = true then (some 0) else (some 3)) else (some 0)) = some r := by rw [if_neg (show ¬ (false = true) by decide)] at H; exact H
                  clear H
                  have H := H1
                  clear H1
                  by_cases c125 : a0_11 = true
                  · subst c125
                    have H1 : (if a0_10 = true then (some 0) else (some 3)) = some r := by rw [if_pos rfl] at H; exact H
                    clear H
                    have H := H1
                    clear H1
                    by_cases c126 : a0_10 = true
                    · subst c126
                      have H1 : (some 0) = some r := by rw [if_pos rfl] at H; exact H
                      clear H
                      have H := H1
                      clear H1
                      obtain rfl := Option.some.inj H
                      have hcz127_0 : wc.cell? ⟨gb181, 0, none⟩ = some (.int .i64 a0_0) := (blk_cell BK181.out 0).trans rfl
                      have hcz127_1 : wc.cell? ⟨gb181, 1, none⟩ = some (.int .i64 a0_1) := (blk_cell BK181.out 1).trans rfl
                      have hcz127_2 : wc.cell? ⟨gb181, 2, none⟩ = some (.int .i64 a0_2) := (blk_cell BK181.out 2).trans rfl
                      have hcz127_3 : wc.cell? ⟨gb181, 3, none⟩ = some (.int .i64 a0_3) := (blk_cell BK181.out 3).trans rfl
                      have hcz127_4 : wc.cell? ⟨gb181, 4, none⟩ = some (.bool a0_4) := (blk_cell BK181.out 4).trans rfl
                      have hcz127_5 : wc.cell? ⟨gb181, 5, none⟩ = some (.bool true) := (blk_cell BK181.out 5).trans rfl
                      have hcz127_6 : wc.cell? ⟨gb181, 6, none⟩ = some (.bool true) := (blk_cell BK181.out 6).trans rfl
                      have hcz127_7 : wc.cell? ⟨gb181, 7, none⟩ = some (.bool false) := (blk_cell BK181.out 7).trans rfl
                      have hcz127_8 : wc.cell? ⟨gb181, 8, none⟩ = some (.bool a0_8) := (blk_cell BK181.out 8).trans rfl
                      have hcz127_9 : wc.cell? ⟨gb181, 9, none⟩ = some (.bool a0_9) := (blk_cell BK181.out 9).trans rfl
                      have hcz127_10 : wc.cell? ⟨gb181, 10, none⟩ = some (.bool true) := (blk_cell BK181.out 10).trans rfl
                      have hcz127_11 : wc.cell? ⟨gb181, 11, none⟩ = some (.bool true) := (blk_cell BK181.out 11).trans rfl
                      have hcz127_12 : wc.cell? ⟨gb181, 12, none⟩ = some (.bool a0_12) := (blk_cell BK181.out 12).trans rfl
                      have hcz127_13 : wc.cell? ⟨gb181, 13, none⟩ = some (.bool a0_13) := (blk_cell BK181.out 13).trans rfl
                      go_wp2
                      go_ret
                      exact ⟨by first | rfl | (simp [errW_none, errW_some] <;> rfl) | (simp [*, errW_none, errW_some] <;> rfl), by repeat (first | (with_reducible first | exact HB.out | apply below_alloc | apply pw_below_drewN | apply below_drew1 | refine below_set ?_ GE181.out) | exact HB.out)⟩
                    · replace c126 := Bool.eq_false_iff.mpr c126
                      subst c126
                      have H1 : (some 3) = some r := by rw [if_neg (show ¬ (false = true) by decide)] at H; exact H
                      clear H
                      have H := H1
                      clear H1
                      obtain rfl := Option.some.inj H
                      have hcz128_0 : wc.cell? ⟨gb181, 0, none⟩ = some (.int .i64 a0_0) := (blk_cell BK181.out 0).trans rfl
                      have hcz128_1 : wc.cell? ⟨gb181, 1, none⟩ = some (.int .i64 a0_1) := (blk_cell BK181.out 1).trans rfl
                      have hcz128_2 : wc.cell? ⟨gb181, 2, none⟩ = some (.int .i64 a0_2) := (blk_cell BK181.out 2).trans rfl
                      have hcz128_3 : wc.cell? ⟨gb181, 3, none⟩ = some (.int .i64 a0_3) := (blk_cell BK181.out 3).trans rfl
                      have hcz128_4 : wc.cell? ⟨gb181, 4, none⟩ = some (.bool a0_4) := (blk_cell BK181.out 4).trans rfl
                      have hcz128_5 : wc.cell? ⟨gb181, 5, none⟩ = some (.bool true) := (blk_cell BK181.out 5).trans rfl
                      have hcz128_6 : wc.cell? ⟨gb181, 6, none⟩ = some (.bool true) := (blk_cell BK181.out 6).trans rfl
                      have hcz128_7 : wc.cell? ⟨gb181, 7, none⟩ = some (.bool false) := (blk_cell BK181.out 7).trans rfl
                      have hcz128_8 : wc.cell? ⟨gb181, 8, none⟩ = some (.bool a0_8) := (blk_cell BK181.out 8).trans rfl
                      have hcz128_9 : wc.cell? ⟨gb181, 9, none⟩ = some (.bool a0_9) := (blk_cell BK181.out 9).trans rfl
                      have hcz128_10 : wc.cell? ⟨gb181, 10, none⟩ = some (.bool false) := (blk_cell BK181.out 10).trans rfl
                      have hcz128_11 : wc.cell? ⟨gb181, 11, none⟩ = some (.bool true) := (blk_cell BK181.out 11).trans rfl
                      have hcz128_12 : wc.cell? ⟨gb181, 12, none⟩ = some (.bool a0_12) := (blk_cell BK181.out 12).trans rfl
                      have hcz128_13 : wc.cell? ⟨gb181, 13, none⟩ = some (.bool a0_13) := (blk_cell BK181.out 13).trans rfl
                      go_wp2
                      go_ret
                      exact ⟨by first | rfl | (simp [errW_none, errW_some] <;> rfl) | (simp [*, errW_none, errW_some] <;> rfl), by repeat (first | (with_reducible first | exact HB.out | apply below_alloc | apply pw_below_drewN | apply below_drew1 | refine below_set ?_ GE181.out) | exact HB.out)⟩
                  · replace c125 := Bool.eq_false_iff.mpr c125
                    subst c125
                    have H1 : (some 0) = some r := by rw [if_neg (show ¬ (false = true) by decide)] at H; exact H
                    clear H
                    have H := H1
                    clear H1
                    obtain rfl := Option.some.inj H
                    have hcz129_0 : wc.cell? ⟨gb181, 0, none⟩ = some (.int .i64 a0_0) := (blk_cell BK181.out 0).trans rfl
                    have hcz129_1 : wc.cell? ⟨gb181, 1, none⟩ = some (.int .i64 a0_1) := (blk_cell BK181.out 1).trans rfl
                    have hcz129_2 : wc.cell? ⟨gb181, 2, none⟩ = some (.int .i64 a0_2) := (blk_cell BK181.out 2).trans rfl
                    have hcz129_3 : wc.cell? ⟨gb181, 3, none⟩ = some (.int .i64 a0_3) := (blk_cell BK181.out 3).trans rfl
                    have hcz129_4 : wc.cell? ⟨gb181, 4, none⟩ = some (.bool a0_4) := (blk_cell BK181.out 4).trans rfl
                    have hcz129_5 : wc.cell? ⟨gb181, 5, none⟩ = some (.bool true) := (blk_cell BK181.out 5).trans rfl
                    have hcz129_6 : wc.cell? ⟨gb181, 6, none⟩ = some (.bool true) := (blk_cell BK181.out 6).trans rfl
                    have hcz129_7 : wc.cell? ⟨gb181, 7, none⟩ = some (.bool false) := (blk_cell BK181.out 7).trans rfl
                    have hcz129_8 : wc.cell? ⟨gb181, 8, none⟩ = some (.bool a0_8) := (blk_cell BK181.out 8).trans rfl
                    have hcz129_9 : wc.cell? ⟨gb181, 9, none⟩ = some (.bool a0_9) := (blk_cell BK181.out 9).trans rfl
                    have hcz129_10 : wc.cell? ⟨gb181, 10, none⟩ = some (.bool a0_10) := (blk_cell BK181.out 10).trans rfl
                    have hcz129_11 : wc.cell? ⟨gb181, 11, none⟩ = some (.bool false) := (blk_cell BK181.out 11).trans rfl
                    have hcz129_12 : wc.cell? ⟨gb181, 12, none⟩ = some (.bool a0_12) := (blk_cell BK181.out 12).trans rfl
                    have hcz129_13 : wc.cell? ⟨gb181, 13, none⟩ = some (.bool a0_13) := (blk_cell BK181.out 13).trans rfl
                    go_wp2
                    go_ret
                    exact ⟨by first | rfl | (simp [errW_none, errW_some] <;> rfl) | (simp [*, errW_none, errW_some] <;> rfl), by repeat (first | (with_reducible first | exact HB.out | apply below_alloc | apply pw_below_drewN | apply below_drew1 | refine below_set ?_ GE181.out) | exact HB.out)⟩
              · replace c122 := Bool.eq_false_iff.mpr c122
                subst c122
                have H1 : (if a0_7 = true then (some 3) else (if a0_11 = true then (if a0_10 = true then (some 0) else (some 3)) else (some 0))) = some r := by rw [if_neg (show ¬ (false = true) by decide)] at H; exact H
                clear H
                have H := H1
                clear H1
                by_cases c130 : a0_7 = true
                · subst c130
                  have H1 : (some 3) = some r := by rw [if_pos rfl] at H; exact H
                  clear H
                  have H := H1
                  clear H1
                  obtain rfl := Option.some.inj H
                  have hcz131_0 : wc.cell? ⟨gb181, 0, none⟩ = some (.int .i64 a0_0) := (blk_cell BK181.out 0).trans rfl
                  have hcz131_1 : wc.cell? ⟨gb181, 1, none⟩ = some (.int .i64 a0_1) := (blk_cell BK181.out 1).trans rfl
                  have hcz131_2 : wc.cell? ⟨gb181, 2, none⟩ = some (.int .i64 a0_2) := (blk_cell BK181.out 2).trans rfl
                  have hcz131_3 : wc.cell? ⟨gb181, 3, none⟩ = some (.int .i64 a0_3) := (blk_cell BK181.out 3).trans rfl
                  have hcz131_4 : wc.cell? ⟨gb181, 4, none⟩ = some (.bool a0_4) := (blk_cell BK181.out 4).trans rfl
                  have hcz131_5 : wc.cell? ⟨gb181, 5, none⟩ = some (.bool true) := (blk_cell BK181.out 5).trans rfl
                  have hcz131_6 : wc.cell? ⟨gb181, 6, none⟩ = some (.bool false) := (blk_cell BK181.out 6).trans rfl
                  have hcz131_7 : wc.cell? ⟨gb181, 7, none⟩ = some (.bool true) := (blk_cell BK181.out 7).trans rfl
                  have hcz131_8 : wc.cell? ⟨gb181, 8, none⟩ = some (.bool a0_8) := (blk_cell BK181.out 8).trans rfl
                  have hcz131_9 : wc.cell? ⟨gb181, 9, none⟩ = some (.bool a0_9) := (blk_cell BK181.out 9).trans rfl
                  have hcz131_10 : wc.cell? ⟨gb181, 10, none⟩ = some (.bool a0_10) := (blk_cell BK181.out 10).trans rfl
                  have hcz131_11 : wc.cell? ⟨gb181, 11, none⟩ = some (.bool a0_11) := (blk_cell BK181.out 11).trans rfl
                  have hcz131_12 : wc.cell? ⟨gb181, 12, none⟩ = some (.bool a0_12) := (blk_cell BK181.out 12).trans rfl
                  have hcz131_13 : wc.cell? ⟨gb181, 13, none⟩ = some (.bool a0_13) := (blk_cell BK181.out 13).trans rfl
                  go_wp2
                  go_ret
                  exact ⟨by first | rfl | (simp [errW_none, errW_some] <;> rfl) | (simp [*, errW_none, errW_some] <;> rfl), by repeat (first | (with_reducible first | exact HB.out | apply below_alloc | apply pw_below_drewN | apply below_drew1 | refine below_set ?_ GE181.out) | exact HB.out)⟩
                · replace c130 := Bool.eq_false_iff.mpr c130
                  subst c130
                  have H1 : (if a0_11 = true then (if a0_10 = true then (some 0) else (some 3)) else (some 0)) = some r := by rw [if_neg (show ¬ (false = true) by decide)] at H; exact H
                  clear H
                  have H := H1
                  clear H1
                  by_cases c132 : a0_11 = true
                  · subst c132
                    have H1 : (if a0_10 = true then (some 0) else (some 3)) = some r := by rw [if_pos rfl] at H; exact H
                    clear H
                    have H := H1
                    clear H1
                    by_cases c133 : a0_10 = true
                    · subst c133
                      have H1 : (some 0) = some r := by rw [if_pos rfl] at H; exact H
                      clear H
                      have H := H1
                      clear H1
                      obtain rfl := Option.some.inj H
                      have hcz134_0 : wc.cell? ⟨gb181, 0, none⟩ = some (.int .i64 a0_0) := (blk_cell BK181.out 0).trans rfl
                      have hcz134_1 : wc.cell? ⟨gb181, 1, none⟩ = some (.int .i64 a0_1) := (blk_cell BK181.out 1).trans rfl
                      have hcz134_2 : wc.cell? ⟨gb181, 2, none⟩ = some (.int .i64 a0_2) := (blk_cell BK181.out 2).trans rfl
                      have hcz134_3 : wc.cell? ⟨gb181, 3, none⟩ = some (.int .i64 a0_3) := (blk_cell BK181.out 3).trans rfl
                      have hcz134_4 : wc.cell? ⟨gb181, 4, none⟩ = some (.bool a0_4) := (blk_cell BK181.out 4).trans rfl
                      have hcz134_5 : wc.cell? ⟨gb181, 5, none⟩ = some (.bool true) := (blk_cell BK181.out 5).trans rfl
                      have hcz134_6 : wc.cell? ⟨gb181, 6, none⟩ = some (.bool false) := (blk_cell BK181.out 6).trans rfl
                      have hcz134_7 : wc.cell? ⟨gb181, 7, none⟩ = some (.bool false) := (blk_cell BK181.out 7).trans rfl
                      have hcz134_8 : wc.cell? ⟨gb181, 8, none⟩ = some (.bool a0_8) := (blk_cell BK181.out 8).trans rfl
                      have hcz134_9 : wc.cell? ⟨gb181, 9, none⟩ = some (.bool a0_9) := (blk_cell BK181.out 9).trans rfl
                      have hcz134_10 : wc.cell? ⟨gb181, 10, none⟩ = some (.bool true) := (blk_cell BK181.out 10).trans rfl
                      have hcz134_11 : wc.cell? ⟨gb181, 11, none⟩ = some (.bool true) := (blk_cell BK181.out 11).trans rfl
                      have hcz134_12 : wc.cell? ⟨gb181, 12, none⟩ = some (.bool a0_12) := (blk_cell BK181.out 12).trans rfl
                      have hcz134_13 : wc.cell? ⟨gb181, 13, none⟩ = some (.bool a0_13) := (blk_cell BK181.out 13).trans rfl
                      go_wp2
                      go_ret
                      exact ⟨by first | rfl | (simp [errW_none, errW_some] <;> rfl) | (simp [*, errW_none, errW_some] <;> rfl), by repeat (first | (with_reducible first | exact HB.out | apply below_alloc | apply pw_below_drewN | apply below_drew1 | refine below_set ?_ GE181.out) | exact HB.out)⟩
                    · replace c133 := Bool.eq_false_iff.mpr c133
                      subst c133
                      have H1 : (some 3) = some r := by rw [if_neg (show ¬ (false = true) by decide)] at H; exact H
                      clear H
                      have H := H1
                      clear H1
                      obtain rfl := Option.some.inj H
                      have hcz135_0 : wc.cell? ⟨gb181, 0, none⟩ = some (.int .i64 a0_0) := (blk_cell BK181.out 0).trans rfl
                      have hcz135_1 : wc.cell? ⟨gb181, 1, none⟩ = some (.int .i64 a0_1) := (blk_cell BK181.out 1).trans rfl
                      have hcz135_2 : wc.cell? ⟨gb181, 2, none⟩ = some (.int .i64 a0_2) := (blk_cell BK181.out 2).trans rfl
                      have hcz135_3 : wc.cell? ⟨gb181, 3, none⟩ = some (.int .i64 a0_3) := (blk_cell BK181.out 3).trans rfl
                      have hcz135_4 : wc.cell? ⟨gb181, 4, none⟩ = some (.bool a0_4) := (blk_cell BK181.out 4).trans rfl
                      have hcz135_5 : wc.cell? ⟨gb181, 5, none⟩ = some (.bool true) := (blk_cell BK181.out 5).trans rfl
                      have hcz135_6 : wc.cell? ⟨gb181, 6, none⟩ = some (.bool false) := (blk_cell BK181.out 6).trans rfl
                      have hcz135_7 : wc.cell? ⟨gb181, 7, none⟩ = some (.bool false) := (blk_cell BK181.out 7).trans rfl
                      have hcz135_8 : wc.cell? ⟨gb181, 8, none⟩ = some (.bool a0_8) := (blk_cell BK181.out 8).trans rfl
                      have hcz135_9 : wc.cell? ⟨gb181, 9, none⟩ = some (.bool a0_9) := (blk_cell BK181.out 9).trans rfl
                      have hcz135_10 : wc.cell? ⟨gb181, 10, none⟩ = some (.bool false) := (blk_cell BK181.out 10).trans rfl
                      have hcz135_11 : wc.cell? ⟨gb181, 11, none⟩ = some (.bool true) := (blk_cell BK181.out 11).trans rfl
                      have hcz135_12 : wc.cell? ⟨gb181, 12, none⟩ = some (.bool a0_12) := (blk_cell BK181.out 12).trans rfl
                      have hcz135_13 : wc.cell? ⟨gb181, 13, none⟩ = some (.bool a0_13) := (blk_cell BK181.out 13).trans rfl
                      go_wp2
                      go_ret
                      exact ⟨by first | rfl | (simp [errW_none, errW_some] <;> rfl) | (simp [*, errW_none, errW_some] <;> rfl), by repeat (first | (with_reducible first | exact HB.out | apply below_alloc | apply pw_below_drewN | apply below_drew1 | refine below_set ?_ GE181.out) | exact HB.out)⟩
                  · replace c132 := Bool.eq_false_iff.mpr c132
                    subst c132
                    have H1 : (some 0) = some r := by rw [if_neg (show ¬ (false = true) by decide)] at H; exact H
                    clear H
                    have H := H1
                    clear H1
                    obtain rfl := Option.some.inj H
                    have hcz136_0 : wc.cell? ⟨gb181, 0, none⟩ = some (.int .i64 a0_0) := (blk_cell BK181.out 0).trans rfl
                    have hcz136_1 : wc.cell? ⟨gb181, 1, none⟩ = some (.int .i64 a0_1) := (blk_cell BK181.out 1).trans rfl
                    have hcz136_2 : wc.cell? ⟨gb181, 2, none⟩ = some (.int .i64 a0_2) := (blk_cell BK181.out 2).trans rfl
                    have hcz136_3 : wc.cell? ⟨gb181, 3, none⟩ = some (.int .i64 a0_3) := (blk_cell BK181.out 3).trans rfl
                    have hcz136_4 : wc.cell? ⟨gb181, 4, none⟩ = some (.bool a0_4) := (blk_cell BK181.out 4).trans rfl
                    have hcz136_5 : wc.cell? ⟨gb181, 5, none⟩ = some (.bool true) := (blk_cell BK181.out 5).trans rfl
                    have hcz136_6 : wc.cell? ⟨gb181, 6, none⟩ = some (.bool false) := (blk_cell BK181.out 6).trans rfl
                    have hcz136_7 : wc.cell? ⟨gb181, 7, none⟩ = some (.bool false) := (blk_cell BK181.out 7).trans rfl
                    have hcz136_8 : wc.cell? ⟨gb181, 8, none⟩ = some (.bool a0_8) := (blk_cell BK181.out 8).trans rfl
                    have hcz136_9 : wc.cell? ⟨gb181, 9, none⟩ = some (.bool a0_9) := (blk_cell BK181.out 9).trans rfl
                    have hcz136_10 : wc.cell? ⟨gb181, 10, none⟩ = some (.bool a0_10) := (blk_cell BK181.out 10).trans rfl
                    have hcz136_11 : wc.cell? ⟨gb181, 11, none⟩ = some (.bool false) := (blk_cell BK181.out 11).trans rfl
                    have hcz136_12 : wc.cell? ⟨gb181, 12, none⟩ = some (.bool a0_12) := (blk_cell BK181.out 12).trans rfl
                    have hcz136_13 : wc.cell? ⟨gb181, 13, none⟩ = some (.bool a0_13) := (blk_cell BK181.out 13).trans rfl
                    go_wp2
                    go_ret
                    exact ⟨by first | rfl | (simp [errW_none, errW_some] <;> rfl) | (simp [*, errW_none, errW_some] <;> rfl), by repeat (first | (with_reducible first | exact HB.out | apply below_alloc | apply pw_below_drewN | apply below_drew1 | refine below_set ?_ GE181.out) | exact HB.out)⟩
            · replace c121 := Bool.eq_false_iff.mpr c121
              subst c121
              have H1 : (some 3) = some r := by rw [if_neg (show ¬ (false = true) by decide)] at H; exact H
              clear H
              have H := H1
              clear H1
              obtain rfl := Option.some.inj H
              have hcz137_0 : wc.cell? ⟨gb181, 0, none⟩ = some (.int .i64 a0_0) := (blk_cell BK181.out 0).trans rfl
              have hcz137_1 : wc.cell? ⟨gb181, 1, none⟩ = some (.int .i64 a0_1) := (blk_cell BK181.out 1).trans rfl
              have hcz137_2 : wc.cell? ⟨gb181, 2, none⟩ = some (.int .i64 a0_2) := (blk_cell BK181.out 2).trans rfl
              have hcz137_3 : wc.cell? ⟨gb181, 3, none⟩ = some (.int .i64 a0_3) := (blk_cell BK181.out 3).trans rfl
              have hcz137_4 : wc.cell? ⟨gb181, 4, none⟩ = some (.bool a0_4) := (blk_cell BK181.out 4).trans rfl
              have hcz137_5 : wc.cell? ⟨gb181, 5, none⟩ = some (.bool false) := (blk_cell BK181.out 5).trans rfl
              have hcz137_6 : wc.cell? ⟨gb181, 6, none⟩ = some (.bool a0_6) := (blk_cell BK181.out 6).trans rfl
              have hcz137_7 : wc.cell? ⟨gb181, 7, none⟩ = some (.bool a0_7) := (blk_cell BK181.out 7).trans rfl
              have hcz137_8 : wc.cell? ⟨gb181, 8, none⟩ = some (.bool a0_8) := (blk_cell BK181.out 8).trans rfl
              have hcz137_9 : wc.cell? ⟨gb181, 9, none⟩ = some (.bool a0_9) := (blk_cell BK181.out 9).trans rfl
              have hcz137_10 : wc.cell? ⟨gb181, 10, none⟩ = some (.bool a0_10) := (blk_cell BK181.out 10).trans rfl
              have hcz137_11 : wc.cell? ⟨gb181, 11, none⟩ = some (.bool a0_11) := (blk_cell BK181.out 11).trans rfl
              have hcz137_12 : wc.cell? ⟨gb181, 12, none⟩ = some (.bool a0_12) := (blk_cell BK181.out 12).trans rfl
              have hcz137_13 : wc.cell? ⟨gb181, 13, none⟩ = some (.bool a0_13) := (blk_cell BK181.out 13).trans rfl
              go_wp2
              go_ret
              exact ⟨by first | rfl | (simp [errW_none, errW_some] <;> rfl) | (simp [*, errW_none, errW_some] <;> rfl), by repeat (first | (with_reducible first | exact HB.out | apply below_alloc | apply pw_below_drewN | apply below_drew1 | refine below_set ?_ GE181.out) | exact HB.out)⟩
          · rw [if_neg c120] at H
            have c120b0 : (a0_2 == 3) = false := beq_eq_false_iff_ne.mpr c120
            have c120b1 : (a0_2 != 3) = true := bne_iff_ne.mpr c120
            by_cases c138 : a0_5 = true
            · subst c138
              have H1 : (if a0_6 = true then (if a0_7 = true then (if a0_2 = 4 then (some 3) else (if a0_11 = true then (if a0_10 = true then (some 0) else (some 3)) else (some 0))) else (if a0_11 = true then (if a0_10 = true then (some 0) else (some 3)) else (some 0))) else (if a0_7 = true then (if a0_2 = 4 then (some 3) else (if a0_11 = true then (if a0_10 = true then (some 0) else (some 3)) else (some 0))) else (if a0_11 = true then (if a0_10 = true then (some 0) else (some 3)) else (some 0)))) = some r := by rw [if_pos rfl] at H; exact H
              clear H
              have H := H1
              clear H1
              by_cases c139 : a0_6 = true
              · subst c139
                have H1 : (if a0_7 = true then (if a0_2 = 4 then (some 3) else (if a0_11 = true then (if a0_10 = true then (some 0) else (some 3)) else (some 0))) else (if a0_11 = true then (if a0_10 = true then (some 0) else (some 3)) else (some 0))) = some r := by rw [if_pos rfl] at H; exact H
                clear H
                have H := H1
                clear H1
                by_cases c140 : a0_7 = true
                · subst c140
                  have H1 : (if a0_2 = 4 then (some 3) else (if a0_11 = true then (if a0_10 = true then (some 0) else (some 3)) else (some 0))) = some r := by rw [if_pos rfl] at H; exact H
                  clear H
                  have H := H1
                  clear H1
                  by_cases c141 : a0_2 = 4
                  · rw [if_pos c141] at H
                    have c141b0 : (a0_2 == 4) = true := beq_iff_eq.mpr c141
                    have c141b1 : (a0_2 != 4) = false := bne_eq_false_iff_eq.mpr c141
                    clear c141
                    obtain rfl := Option.some.inj H
                    have hcz142_0 : wc.cell? ⟨gb181, 0, none⟩ = some (.int .i64 a0_0) := (blk_cell BK181.out 0).trans rfl
                    have hcz142_1 : wc.cell? ⟨gb181, 1, none⟩ = some (.int .i64 a0_1) := (blk_cell BK181.out 1).trans rfl
                    have hcz142_2 : wc.cell? ⟨gb181, 2, none⟩ = some (.int .i64 a0_2) := (blk_cell BK181.out 2).trans rfl
                    have hcz142_3 : wc.cell? ⟨gb181, 3, none⟩ = some (.int .i64 a0_3) := (blk_cell BK181.out 3).trans rfl
                    have hcz142_4 : wc.cell? ⟨gb181, 4, none⟩ = some (.bool a0_4) := (blk_cell BK181.out 4).trans rfl
                    have hcz142_5 : wc.cell? ⟨gb181, 5, none⟩ = some (.bool true) := (blk_cell BK181.out 5).trans rfl
                    have hcz142_6 : wc.cell? ⟨gb181, 6, none⟩ = some (.bool true) := (blk_cell BK181.out 6).trans rfl
                    have hcz142_7 : wc.cell? ⟨gb181, 7, none⟩ = some (.bool true) := (blk_cell BK181.out 7).trans rfl
                    have hcz142_8 : wc.cell? ⟨gb181, 8, none⟩ = some (.bool a0_8) := (blk_cell BK181.out 8).trans rfl
                    have hcz142_9 : wc.cell? ⟨gb181, 9, none⟩ = some (.bool a0_9) := (blk_cell BK181.out 9).trans rfl
                    have hcz142_10 : wc.cell? ⟨gb181, 10, none⟩ = some (.bool a0_10) := (blk_cell BK181.out 10).trans rfl
                    have hcz142_11 : wc.cell? ⟨gb181, 11, none⟩ = some (.bool a0_11) := (blk_cell BK181.out 11).trans rfl
                    have hcz142_12 : wc.cell? ⟨gb181, 12, none⟩ = some (.bool a0_12) := (blk_cell BK181.out 12).trans rfl
                    have hcz142_13 : wc.cell? ⟨gb181, 13, none⟩ = some (.bool a0_13) := (blk_cell BK181.out 13).trans rfl
                    go_wp2
                    go_ret
                    exact ⟨by first | rfl | (simp [errW_none, errW_some] <;> rfl) | (simp [*, errW_none, errW_some] <;> rfl), by repeat (first | (with_reducible first | exact HB.out | apply below_alloc | apply pw_below_drewN | apply below_drew1 | refine below_set ?_ GE181.out) | exact HB.out)⟩
                  · rw [if_neg c141] at H
                    have c141b0 : (a0_2 == 4) = false := beq_eq_false_iff_ne.mpr c141
                    have c141b1 : (a0_2 != 4) = true := bne_iff_ne.mpr c141
                    by_cases c143 : a0_11 = true
                    · subst c143
                      have H1 : (if a0_10 = true then (some 0) else (some 3)) = some r := by rw [if_pos rfl] at H; exact H
                      clear H
                      have H := H1
                      clear H1
                      by_cases c144 : a0_10 = true
                      · subst c144
                        have H1 : (some 0) = some r := by rw [if_pos rfl] at H; exact H
                        clear H
                        have H := H1
                        clear H1
                        obtain rfl := Option.some.inj H
                        have hcz145_0 : wc.cell? ⟨gb181, 0, none⟩ = some (.int .i64 a0_0) := (blk_cell BK181.out 0).trans rfl
                        have hcz145_1 : wc.cell? ⟨gb181, 1, none⟩ = some (.int .i64 a0_1) := (blk_cell BK181.out 1).trans rfl
                        have hcz145_2 : wc.cell? ⟨gb181, 2, none⟩ = some (.int .i64 a0_2) := (blk_cell BK181.out 2).trans rfl
                        have hcz145_3 : wc.cell? ⟨gb181, 3, none⟩ = some (.int .i64 a0_3) := (blk_cell BK181.out 3).trans rfl
                        have hcz145_4 : wc.cell? ⟨gb181, 4, none⟩ = some (.bool a0_4) := (blk_cell BK181.out 4).trans rfl
                        have hcz145_5 : wc.cell? ⟨gb181, 5, none⟩ = some (.bool true) := (blk_cell BK181.out 5).trans rfl
                        have hcz145_6 : wc.cell? ⟨gb181, 6, none⟩ = some (.bool true) := (blk_cell BK181.out 6).trans rfl
                        have hcz145_7 : wc.cell? ⟨gb181, 7, none⟩ = some (.bool true) := (blk_cell BK181.out 7).trans rfl
                        have hcz145_8 : wc.cell? ⟨gb181, 8, none⟩ = some (.bool a0_8) := (blk_cell BK181.out 8).trans rfl
                        have hcz145_9 : wc.cell? ⟨gb181, 9, none⟩ = some (.bool a0_9) := (blk_cell BK181.out 9).trans rfl
                        have hcz145_10 : wc.cell? ⟨gb181, 10, none⟩ = some (.bool true) := (blk_cell BK181.out 10).trans rfl
                        have hcz145_11 : wc.cell? ⟨gb181, 11, none⟩ = some (.bool true) := (blk_cell BK181.out 11).trans rfl
                        have hcz145_12 : wc.cell? ⟨gb181, 12, none⟩ = some (.bool a0_12) := (blk_cell BK181.out 12).trans rfl
                        have hcz145_13 : wc.cell? ⟨gb181, 13, none⟩ = some (.bool a0_13) := (blk_cell BK181.out 13).trans rfl
                        go_wp2
                        go_ret
                        exact ⟨by first | rfl | (simp [errW_none, errW_some] <;> rfl) | (simp [*, errW_none, errW_some] <;> rfl), by repeat (first | (with_reducible first | exact HB.out | apply below_alloc | apply pw_below_drewN | apply below_drew1 | refine below_set ?_ GE181.out) | exact HB.out)⟩
                      · replace c144 := Bool.eq_false_iff.mpr c144
                        subst c144
                        have H1 : (some 3) = some r := by rw [if_neg (show ¬ (false = true) by decide)] at H; exact H
                        clear H
                        have H := H1
                        clear H1
                        obtain rfl := Option.some.inj H
                        have hcz146_0 : wc.cell? ⟨gb181, 0, none⟩ = some (.int .i64 a0_0) := (blk_cell BK181.out 0).trans rfl
                        have hcz146_1 : wc.cell? ⟨gb181, 1, none⟩ = some (.int .i64 a0_1) := (blk_cell BK181.out 1).trans rfl
                        have hcz146_2 : wc.cell? ⟨gb181, 2, none⟩ = some (.int .i64 a0_2) := (blk_cell BK181.out 2).trans rfl
                        have hcz146_3 : wc.cell? ⟨gb181, 3, none⟩ = some (.int .i64 a0_3) := (blk_cell BK181.out 3).trans rfl
                        have hcz146_4 : wc.cell? ⟨gb181, 4, none⟩ = some (.bool a0_4) := (blk_cell BK181.out 4).trans rfl
                        have hcz146_5 : wc.cell? ⟨gb181, 5, none⟩ = some (.bool true) := (blk_cell BK181.out 5).trans rfl
                        have hcz146_6 : wc.cell? ⟨gb181, 6, none⟩ = some (.bool true) := (blk_cell BK181.out 6).trans rfl
                        have hcz146_7 : wc.cell? ⟨gb181, 7, none⟩ = some (.bool true) := (blk_cell BK181.out 7).trans rfl
                        have hcz146_8 : wc.cell? ⟨gb181, 8, none⟩ = some (.bool a0_8) := (blk_cell BK181.out 8).trans rfl
                        have hcz146_9 : wc.cell? ⟨gb181, 9, none⟩ = some (.bool a0_9) := (blk_cell BK181.out 9).trans rfl
                        have hcz146_10 : wc.cell? ⟨gb181, 10, none⟩ = some (.bool false) := (blk_cell BK181.out 10).trans rfl
                        have hcz146_11 : wc.cell? ⟨gb181, 11, none⟩ = some (.bool true) := (blk_cell BK181.out 11).trans rfl
                        have hcz146_12 : wc.cell? ⟨gb181, 12, none⟩ = some (.bool a0_12) := (blk_cell BK181.out 12).trans rfl
                        have hcz146_13 : wc.cell? ⟨gb181, 13, none⟩ = some (.bool a0_13) := (blk_cell BK181.out 13).trans rfl
                        go_wp2
                        go_ret
                        exact ⟨by first | rfl | (simp [errW_none, errW_some] <;> rfl) | (simp [*, errW_none, errW_some] <;> rfl), by repeat (first | (with_reducible first | exact HB.out | apply below_alloc | apply pw_below_drewN | apply below_drew1 | refine below_set ?_ GE181.out) | exact HB.out)⟩
                    · replace c143 := Bool.eq_false_iff.mpr c143
                      subst c143
                      have H1 : (some 0) = some r := by rw [if_neg (show ¬ (false = true) by decide)] at H; exact H
                      clear H
                      have H := H1
                      clear H1
                      obtain rfl := Option.some.inj H
                      have hcz147_0 : wc.cell? ⟨gb181, 0, none⟩ = some (.int .i64 a0_0) := (blk_cell BK181.out 0).trans rfl
                      have hcz147_1 : wc.cell? ⟨gb181, 1, none⟩ = some (.int .i64 a0_1) := (blk_cell BK181.out 1).trans rfl
                      have hcz147_2 : wc.cell? ⟨gb181, 2, none⟩ = some (.int .i64 a0_2) := (blk_cell BK181.out 2).trans rfl
                      have hcz147_3 : wc.cell? ⟨gb181, 3, none⟩ = some (.int .i64 a0_3) := (blk_cell BK181.out 3).trans rfl
                      have hcz147_4 : wc.cell? ⟨gb181, 4, none⟩ = some (.bool a0_4) := (blk_cell BK181.out 4).trans rfl
                      have hcz147_5 : wc.cell? ⟨gb181, 5, none⟩ = some (.bool true) := (blk_cell BK181.out 5).trans rfl
                      have hcz147_6 : wc.cell? ⟨gb181, 6, none⟩ = some (.bool true) := (blk_cell BK181.out 6).trans rfl
                      have hcz147_7 : wc.cell? ⟨gb181, 7, none⟩ = some (.bool true) := (blk_cell BK181.out 7).trans rfl
                      have hcz147_8 : wc.cell? ⟨gb181, 8, none⟩ = some (.bool a0_8) := (blk_cell BK181.out 8).trans rfl
                      have hcz147_9 : wc.cell? ⟨gb181, 9, none⟩ = some (.bool a0_9) := (blk_cell BK181.out 9).trans rfl
                      have hcz147_10 : wc.cell? ⟨gb181, 10, none⟩ = some (.bool a0_10) := (blk_cell BK181.out 10).trans rfl
                      have hcz147_11 : wc.cell? ⟨gb181, 11, none⟩ = some (.bool false) := (blk_cell BK181.out 11).trans rfl
                      have hcz147_12 : wc.cell? ⟨gb181, 12, none⟩ = some (.bool a0_12) := (blk_cell BK181.out 12).trans rfl
                      have hcz147_13 : wc.cell? ⟨gb181, 13, none⟩ = some (.bool a0_13) := (blk_cell BK181.out 13).trans rfl
                      go_wp2
                      go_ret
                      exact ⟨by first | rfl | (simp [errW_none, errW_some] <;> rfl) | (simp [*, errW_none, errW_some] <;> rfl), by repeat (first | (with_reducible first | exact HB.out | apply below_alloc | apply pw_below_drewN | apply below_drew1 | refine below_set ?_ GE181.out) | exact HB.out)⟩
                · replace c140 := Bool.eq_false_iff.mpr c140
                  subst c140
                  have H1 : (if a0_11 = true then (if a0_10 = true then (some 0) else (some 3)) else (some 0)) = some r := by rw [if_neg (show ¬ (false = true) by decide)] at H; exact H
                  clear H
                  have H := H1
                  clear H1
                  by_cases c148 : a0_11 = true
                  · subst c148
                    have H1 : (if a0_10 = true then (some 0) else (some 3)) = some r := by rw [if_pos rfl] at H; exact H
                    clear H
                    have H := H1
                    clear H1
                    by_cases c149 : a0_10 = true
                    · subst c149
                      have H1 : (some 0) = some r := by rw [if_pos rfl] at H; exact H
                      clear H
                      have H := H1
                      clear H1
                      obtain rfl := Option.some.inj H
                      have hcz150_0 : wc.cell? ⟨gb181, 0, none⟩ = some (.int .i64 a0_0) := (blk_cell BK181.out 0).trans rfl
                      have hcz150_1 : wc.cell? ⟨gb181, 1, none⟩ = some (.int .i64 a0_1) := (blk_cell BK181.out 1).trans rfl
                      have hcz150_2 : wc.cell? ⟨gb181, 2, none⟩ = some (.int .i64 a0_2) := (blk_cell BK181.out 2).trans rfl
                      have hcz150_3 : wc.cell? ⟨gb181, 3, none⟩ = some (.int .i64 a0_3) := (blk_cell BK181.out 3).trans rfl
                      have hcz150_4 : wc.cell? ⟨gb181, 4, none⟩ = some (.bool a0_4) := (blk_cell BK181.out 4).trans rfl
                      have hcz150_5 : wc.cell? ⟨gb181, 5, none⟩ = some (.bool true) := (blk_cell BK181.out 5).trans rfl
                      have hcz150_6 : wc.cell? ⟨gb181, 6, none⟩ = some (.bool true) := (blk_cell BK181.out 6).trans rfl
                      have hcz150_7 : wc.cell? ⟨gb181, 7, none⟩ = some (.bool false) := (blk_cell BK181.out 7).trans rfl
                      have hcz150_8 : wc.cell? ⟨gb181, 8, none⟩ = some (.bool a0_8) := (blk_cell BK181.out 8).trans rfl
                      have hcz150_9 : wc.cell? ⟨gb181, 9, none⟩ = some (.bool a0_9) := (blk_cell BK181.out 9).trans rfl
                      have hcz150_10 : wc.cell? ⟨gb181, 10, none⟩ = some (.bool true) := (blk_cell BK181.out 10).trans rfl
                      have hcz150_11 : wc.cell? ⟨gb181, 11, none⟩ = some (.bool true) := (blk_cell BK181.out 11).trans rfl
                      have hcz150_12 : wc.cell? ⟨gb181, 12, none⟩ = some (.bool a0_12) := (blk_cell BK181.out 12).trans rfl
                      have hcz150_13 : wc.cell? ⟨gb181, 13, none⟩ = some (.bool a0_13) := (blk_cell BK181.out 13).trans rfl
                      go_wp2
                      go_ret
                      exact ⟨by first | rfl | (simp [errW_none, errW_some] <;> rfl) | (simp [*, errW_none, errW_some] <;> rfl), by repeat (first | (with_reducible first | exact HB.out | apply below_alloc | apply pw_below_drewN | apply below_drew1 | refine below_set ?_ GE181.out) | exact HB.out)⟩
                    · replace c149 := Bool.eq_false_iff.mpr c149
                      subst c149
                      have H1 : (some 3) = some r := by rw [if_neg (show ¬ (false = true) by decide)] at H; exact H
                      clear H
                      have H := H1
                      clear H1
                      obtain rfl := Option.some.inj H
                      have hcz151_0 : wc.cell? ⟨gb181, 0, none⟩ = some (.int .i64 a0_0) := (blk_cell BK181.out 0).trans rfl
                      have hcz151_1 : wc.cell? ⟨gb181, 1, none⟩ = some (.int .i64 a0_1) := (blk_cell BK181.out 1).trans rfl
                      have hcz151_2 : wc.cell? ⟨gb181, 2, none⟩ = some (.int .i64 a0_2) := (blk_cell BK181.out 2).trans rfl
                      have hcz151_3 : wc.cell? ⟨gb181, 3, none⟩ = some (.int .i64 a0_3) := (blk_cell BK181.out 3).trans rfl
                      have hcz151_4 : wc.cell? ⟨gb181, 4, none⟩ = some (.bool a0_4) := (blk_cell BK181.out 4).trans rfl
                      have hcz151_5 : wc.cell? ⟨gb181, 5, none⟩ = some (.bool true) := (blk_cell BK181.out 5).trans rfl
                      have hcz151_6 : wc.cell? ⟨gb181, 6, none⟩ = some (.bool true) := (blk_cell BK181.out 6).trans rfl
                      have hcz151_7 : wc.cell? ⟨gb181, 7, none⟩ = some (.bool false) := (blk_cell BK181.out 7).trans rfl
                      have hcz151_8 : wc.cell? ⟨gb181, 8, none⟩ = some (.bool a0_8) := (blk_cell BK181.out 8).trans rfl
                      have hcz151_9 : wc.cell? ⟨gb181, 9, none⟩ = some (.bool a0_9) := (blk_cell BK181.out 9).trans rfl
                      have hcz151_10 : wc.cell? ⟨gb181, 10, none⟩ = some (.bool false) := (blk_cell BK181.out 10).trans rfl
                      have hcz151_11 : wc.cell? ⟨gb181, 11, none⟩ = some (.bool true) := (blk_cell BK181.out 11).trans rfl
                      have hcz151_12 : wc.cell? ⟨gb181, 12, none⟩ = some (.bool a0_12) := (blk_cell BK181.out 12).trans rfl
                      have hcz151_13 : wc.cell? ⟨gb181, 13, none⟩ = some (.bool a0_13) := (blk_cell BK181.out 13).trans rfl
                      go_wp2
                      go_ret
                      exact ⟨by first | rfl | (simp [errW_none, errW_some] <;> rfl) | (simp [*, errW_none, errW_some] <;> rfl), by repeat (first | (with_reducible first | exact HB.out | apply below_alloc | apply pw_below_drewN | apply below_drew1 | refine below_set ?_ GE181.out) | exact HB.out)⟩
                  · replace c148 := Bool.eq_false_iff.mpr c148
                    subst c148
                    have H1 : (some 0) = some r := by rw [if_neg (show ¬ (false = true) by decide)] at H; exact H
                    clear H
                    have H := H1
                    clear H1
                    obtain rfl := Option.some.inj H
                    have hcz152_0 : wc.cell? ⟨gb181, 0, none⟩ = some (.int .i64 a0_0) := (blk_cell BK181.out 0).trans rfl
                    have hcz152_1 : wc.cell? ⟨gb181, 1, none⟩ = some (.int .i64 a0_1) := (blk_cell BK181.out 1).trans rfl
                    have hcz152_2 : wc.cell? ⟨gb181, 2, none⟩ = some (.int .i64 a0_2) := (blk_cell BK181.out 2).trans rfl
                    have hcz152_3 : wc.cell? ⟨gb181, 3, none⟩ = some (.int .i64 a0_3) := (blk_cell BK181.out 3).trans rfl
                    have hcz152_4 : wc.cell? ⟨gb181, 4, none⟩ = some (.bool a0_4) := (blk_cell BK181.out 4).trans rfl
                    have hcz152_5 : wc.cell? ⟨gb181, 5, none⟩ = some (.bool true) := (blk_cell BK181.out 5).trans rfl
                    have hcz152_6 : wc.cell? ⟨gb181, 6, none⟩ = some (.bool true) := (blk_cell BK181.out 6).trans rfl
                    have hcz152_7 : wc.cell? ⟨gb181, 7, none⟩ = some (.bool false) := (blk_cell BK181.out 7).trans rfl
                    have hcz152_8 : wc.cell? ⟨gb181, 8, none⟩ = some (.bool a0_8) := (blk_cell BK181.out 8).trans rfl
                    have hcz152_9 : wc.cell? ⟨gb181, 9, none⟩ = some (.bool a0_9) := (blk_cell BK181.out 9).trans rfl
                    have hcz152_10 : wc.cell? ⟨gb181, 10, none⟩ = some (.bool a0_10) := (blk_cell BK181.out 10).trans rfl
                    have hcz152_11 : wc.cell? ⟨gb181, 11, none⟩ = some (.bool false) := (blk_cell BK181.out 11).trans rfl
                    have hcz152_12 : wc.cell? ⟨gb181, 12, none⟩ = some (.bool a0_12) := (blk_cell BK181.out 12).trans rfl
                    have hcz152_13 : wc.cell? ⟨gb181, 13, none⟩ = some (.bool a0_13) := (blk_cell BK181.out 13).trans rfl
                    go_wp2
                    go_ret
                    exact ⟨by first | rfl | (simp [errW_none, errW_some] <;> rfl) | (simp [*, errW_none, errW_some] <;> rfl), by repeat (first | (with_reducible first | exact HB.out | apply below_alloc | apply pw_below_drewN | apply below_drew1 | refine below_set ?_ GE181.out) | exact HB.out)⟩
              · replace c139 := Bool.eq_false_iff.mpr c139
                subst c139
                have H1 : (if a0_7 = true then (if a0_2 = 4 then (some 3) else (if a0_11 = true then (if a0_10 = true then (some 0) else (some 3)) else (some 0))) else (if a0_11 = true then (if a0_10 = true then (some 0) else (some 3)) else (some 0))) = some r := by rw [if_neg (show ¬ (false = true) by decide)] at H; exact H
                clear H
                have H := H1
                clear H1
                by_cases c153 : a0_7 = true
                · subst c153
                  have H1 : (if a0_2 = 4 then (some 3) else (if a0_11 = true then (if a0_10 = true then (some 0) else (some 3)) else (some 0))) = some r := by rw [if_pos rfl] at H; exact H
                  clear H
                  have H := H1
                  clear H1
                  by_cases c154 : a0_2 = 4
                  · rw [if_pos c154] at H
                    have c154b0 : (a0_2 == 4) = true := beq_iff_eq.mpr c154
                    have c154b1 : (a0_2 != 4) = false := bne_eq_false_iff_eq.mpr c154
                    clear c154
                    obtain rfl := Option.some.inj H
                    have hcz155_0 : wc.cell? ⟨gb181, 0, none⟩ = some (.int .i64 a0_0) := (blk_cell BK181.out 0).trans rfl
                    have hcz155_1 : wc.cell? ⟨gb181, 1, none⟩ = some (.int .i64 a0_1) := (blk_cell BK181.out 1).trans rfl
                    have hcz155_2 : wc.cell? ⟨gb181, 2, none⟩ = some (.int .i64 a0_2) := (blk_cell BK181.out 2).trans rfl
                    have hcz155_3 : wc.cell? ⟨gb181, 3, none⟩ = some (.int .i64 a0_3) := (blk_cell BK181.out 3).trans rfl
                    have hcz155_4 : wc.cell? ⟨gb181, 4, none⟩ = some (.bool a0_4) := (blk_cell BK181.out 4).trans rfl
                    have hcz155_5 : wc.cell? ⟨gb181, 5, none⟩ = some (.bool true) := (blk_cell BK181.out 5).trans rfl
                    have hcz155_6 : wc.cell? ⟨gb181, 6, none⟩ = some (.bool false) := (blk_cell BK181.out 6).trans rfl
                    have hcz155_7 : wc.cell? ⟨gb181, 7, none⟩ = some (.bool true) := (blk_cell BK181.out 7).trans rfl
                    have hcz155_8 : wc.cell? ⟨gb181, 8, none⟩ = some (.bool a0_8) := (blk_cell BK181.out 8).trans rfl
                    have hcz155_9 : wc.cell? ⟨gb181, 9, none⟩ = some (.bool a0_9) := (blk_cell BK181.out 9).trans rfl
                    have hcz155_10 : wc.cell? ⟨gb181, 10, none⟩ = some (.bool a0_10) := (blk_cell BK181.out 10).trans rfl
                    have hcz155_11 : wc.cell? ⟨gb181, 11, none⟩ = some (.bool a0_11) := (blk_cell BK181.out 11).trans rfl
                    have hcz155_12 : wc.cell? ⟨gb181, 12, none⟩ = some (.bool a0_12) := (blk_cell BK181.out 12).trans rfl
                    have hcz155_13 : wc.cell? ⟨gb181, 13, none⟩ = some (.bool a0_13) := (blk_cell BK181.out 13).trans rfl
                    go_wp2
                    go_ret
                    exact ⟨by first | rfl | (simp [errW_none, errW_some] <;> rfl) | (simp [*, errW_none, errW_some] <;> rfl), by repeat (first | (with_reducible first | exact HB.out | apply below_alloc | apply pw_below_drewN | apply below_drew1 | refine below_set ?_ GE181.out) | exact HB.out)⟩
                  · rw [if_neg c154] at H
                    have c154b0 : (a0_2 == 4) = false := beq_eq_false_iff_ne.mpr c154
                    have c154b1 : (a0_2 != 4) = true := bne_iff_ne.mpr c154
                    by_cases c156 : a0_11 = true
                    · subst c156
                      have H1 : (if a0_10 = true then (some 0) else (some 3)) = some r := by rw [if_pos rfl] at H; exact H
                      clear H
                      have H := H1
                      clear H1
                      by_cases c157 : a0_10 = true
                      · subst c157
                        have H1 : (some 0) = some r := by rw [if_pos rfl] at H; exact H
                        clear H
                        have H := H1
                        clear H1
                        obtain rfl := Option.some.inj H
                        have hcz158_0 : wc.cell? ⟨gb181, 0, none⟩ = some (.int .i64 a0_0) := (blk_cell BK181.out 0).trans rfl
                        have hcz158_1 : wc.cell? ⟨gb181, 1, none⟩ = some (.int .i64 a0_1) := (blk_cell BK181.out 1).trans rfl
                        have hcz158_2 : wc.cell? ⟨gb181, 2, none⟩ = some (.int .i64 a0_2) := (blk_cell BK181.out 2).trans rfl
                        have hcz158_3 : wc.cell? ⟨gb181, 3, none⟩ = some (.int .i64 a0_3) := (blk_cell BK181.out 3).trans rfl
                        have hcz158_4 : wc.cell? ⟨gb181, 4, none⟩ = some (.bool a0_4) := (blk_cell BK181.out 4).trans rfl
                        have hcz158_5 : wc.cell? ⟨gb181, 5, none⟩ = some (.bool true) := (blk_cell BK181.out 5).trans rfl
                        have hcz158_6 : wc.cell? ⟨gb181, 6, none⟩ = some (.bool false) := (blk_cell BK181.out 6).trans rfl
                        have hcz158_7 : wc.cell? ⟨gb181, 7, none⟩ = some (.bool true) := (blk_cell BK181.out 7).trans rfl
                        have hcz158_8 : wc.cell? ⟨gb181, 8, none⟩ = some (.bool a0_8) := (blk_cell BK181.out 8).trans rfl
                        have hcz158_9 : wc.cell? ⟨gb181, 9, none⟩ = some (.bool a0_9) := (blk_cell BK181.out 9).trans rfl
                        have hcz158_10 : wc.cell? ⟨gb181, 10, none⟩ = some (.bool true) := (blk_cell BK181.out 10).trans rfl
                        have hcz158_11 : wc.cell? ⟨gb181, 11, none⟩ = some (.bool true) := (blk_cell BK181.out 11).trans rfl
                        have hcz158_12 : wc.cell? ⟨gb181, 12, none⟩ = some (.bool a0_12) := (blk_cell BK181.out 12).trans rfl
                        have hcz158_13 : wc.cell? ⟨gb181, 13, none⟩ = some (.bool a0_13) := (blk_cell BK181.out 13).trans rfl
                        go_wp2
                        go_ret
                        exact ⟨by first | rfl | (simp [errW_none, errW_some] <;> rfl) | (simp [*, errW_none, errW_some] <;> rfl), by repeat (first | (with_reducible first | exact HB.out | apply below_alloc | apply pw_below_drewN | apply below_drew1 | refine below_set ?_ GE181.out) | exact HB.out)⟩
                      · replace c157 := Bool.eq_false_iff.mpr c157
                        subst c157
                        have H1 : (some 3) = some r := by rw [if_neg (show ¬ (false = true) by decide)] at H; exact H
                        clear H
                        have H := H1
                        clear H1
                        obtain rfl := Option.some.inj H
                        have hcz159_0 : wc.cell? ⟨gb181, 0, none⟩ = some (.int .i64 a0_0) := (blk_cell BK181.out 0).trans rfl
                        have hcz159_1 : wc.cell? ⟨gb181, 1, none⟩ = some (.int .i64 a0_1) := (blk_cell BK181.out 1).trans rfl
                        have hcz159_2 : wc.cell? ⟨gb181, 2, none⟩ = some (.int .i64 a0_2) := (blk_cell BK181.out 2).trans rfl
                        have hcz159_3 : wc.cell? ⟨gb181, 3, none⟩ = some (.int .i64 a0_3) := (blk_cell BK181.out 3).trans rfl
                        have hcz159_4 : wc.cell? ⟨gb181, 4, none⟩ = some (.bool a0_4) := (blk_cell BK181.out 4).trans rfl
                        have hcz159_5 : wc.cell? ⟨gb181, 5, none⟩ = some (.bool true) := (blk_cell BK181.out 5).trans rfl
                        have hcz159_6 : wc.cell? ⟨gb181, 6, none⟩ = some (.bool false) := (blk_cell BK181.out 6).trans rfl
                        have hcz159_7 : wc.cell? ⟨gb181, 7, none⟩ = some (.bool true) := (blk_cell BK181.out 7).trans rfl
                        have hcz159_8 : wc.cell? ⟨gb181, 8, none⟩ = some (.bool a0_8) := (blk_cell BK181.out 8).trans rfl
                        have hcz159_9 : wc.cell? ⟨gb181, 9, none⟩ = some (.bool a0_9) := (blk_cell BK181.out 9).trans rfl
                        have hcz159_10 : wc.cell? ⟨gb181, 10, none⟩ = some (.bool false) := (blk_cell BK181.out 10).trans rfl
                        have hcz159_11 : wc.cell? ⟨gb181, 11, none⟩ = some (.bool true) := (blk_cell BK181.out 11).trans rfl
                        have hcz159_12 : wc.cell? ⟨gb181, 12, none⟩ = some (.bool a0_12) := (blk_cell BK181.out 12).trans rfl
                        have hcz159_13 : wc.cell? ⟨gb181, 13, none⟩ = some (.bool a0_13) := (blk_cell BK181.out 13).trans rfl
                        go_wp2
                        go_ret
                        exact ⟨by first | rfl | (simp [errW_none, errW_some] <;> rfl) | (simp [*, errW_none, errW_some] <;> rfl), by repeat (first | (with_reducible first | exact HB.out | apply below_alloc | apply pw_below_drewN | apply below_drew1 | refine below_set ?_ GE181.out) | exact HB.out)⟩
                    · replace c156 := Bool.eq_false_iff.mpr c156
                      subst c156
                      have H1 : (some 0) = some r := by rw [if_neg (show ¬ (false = true) by decide)] at H; exact H
                      clear H
                      have H := H1
                      clear H1
                      obtain rfl := Option.some.inj H
                      have hcz160_0 : wc.cell? ⟨gb181, 0, none⟩ = some (.int .i64 a0_0) := (blk_cell BK181.out 0).trans rfl
                      have hcz160_1 : wc.cell? ⟨gb181, 1, none⟩ = some (.int .i64 a0_1) := (blk_cell BK181.out 1).trans rfl
                      have hcz160_2 : wc.cell? ⟨gb181, 2, none⟩ = some (.int .i64 a0_2) := (blk_cell BK181.out 2).trans rfl
                      have hcz160_3 : wc.cell? ⟨gb181, 3, none⟩ = some (.int .i64 a0_3) := (blk_cell BK181.out 3).trans rfl
                      have hcz160_4 : wc.cell? ⟨gb181, 4, none⟩ = some (.bool a0_4) := (blk_cell BK181.out 4).trans rfl
                      have hcz160_5 : wc.cell? ⟨gb181, 5, none⟩ = some (.bool true) := (blk_cell BK181.out 5).trans rfl
                      have hcz160_6 : wc.cell? ⟨gb181, 6, none⟩ = some (.bool false) := (blk_cell BK181.out 6).trans rfl
                      have hcz160_7 : wc.cell? ⟨gb181, 7, none⟩ = some (.bool true) := (blk_cell BK181.out 7).trans rfl
                      have hcz160_8 : wc.cell? ⟨gb181, 8, none⟩ = some (.bool a0_8) := (blk_cell BK181.out 8).trans rfl
                      have hcz160_9 : wc.cell? ⟨gb181, 9, none⟩ = some (.bool a0_9) := (blk_cell BK181.out 9).trans rfl
                      have hcz160_10 : wc.cell? ⟨gb181, 10, none⟩ = some (.bool a0_10) := (blk_cell BK181.out 10).trans rfl
                      have hcz160_11 : wc.cell? ⟨gb181, 11, none⟩ = some (.bool false) := (blk_cell BK181.out 11).trans rfl
                      have hcz160_12 : wc.cell? ⟨gb181, 12, none⟩ = some (.bool a0_12) := (blk_cell BK181.out 12).trans rfl
                      have hcz160_13 : wc.cell? ⟨gb181, 13, none⟩ = some (.bool a0_13) := (blk_cell BK181.out 13).trans rfl
                      go_wp2
                      go_ret
                      exact ⟨by first | rfl | (simp [errW_none, errW_some] <;> rfl) | (simp [*, errW_none, errW_some] <;> rfl), by repeat (first | (with_reducible first | exact HB.out | apply below_alloc | apply pw_below_drewN | apply below_drew1 | refine below_set ?_ GE181.out) | exact HB.out)⟩
                · replace c153 := Bool.eq_false_iff.mpr c153
                  subst c153
                  have H1 : (if a0_11 = true then (if a0_10 = true then (some 0) else (some 3)) else (some 0)) = some r := by rw [if_neg (show ¬ (false = true) by decide)] at H; exact H
                  clear H
                  have H := H1
                  clear H1
                  by_cases c161 : a0_11 = true
                  · subst c161
                    have H1 : (if a0_10 = true then (some 0) else (some 3)) = some r := by rw [if_pos rfl] at H; exact H
                    clear H
                    have H := H1
                    clear H1
                    by_cases c162 : a0_10 = true
                    · subst c162
                      have H1 : (some 0) = some r := by rw [if_pos rfl] at H; exact H
                      clear H
                      have H := H1
                      clear H1
                      obtain rfl := Option.some.inj H
                      have hcz163_0 : wc.cell? ⟨gb181, 0, none⟩ = some (.int .i64 a0_0) := (blk_cell BK181.out 0).trans rfl
                      have hcz163_1 : wc.cell? ⟨gb181, 1, none⟩ = some (.int .i64 a0_1) := (blk_cell BK181.out 1).trans rfl
                      have hcz163_2 : wc.cell? ⟨gb181, 2, none⟩ = some (.int .i64 a0_2) := (blk_cell BK181.out 2).trans rfl
                      have hcz163_3 : wc.cell? ⟨gb181, 3, none⟩ = some (.int .i64 a0_3) := (blk_cell BK181.out 3).trans rfl
                      have hcz163_4 : wc.cell? ⟨gb181, 4, none⟩ = some (.bool a0_4) := (blk_cell BK181.out 4).trans rfl
                      have hcz163_5 : wc.cell? ⟨gb181, 5, none⟩ = some (.bool true) := (blk_cell BK181.out 5).trans rfl
                      have hcz163_6 : wc.cell? ⟨gb181, 6, none⟩ = some (.bool false) := (blk_cell BK181.out 6).trans rfl
                      have hcz163_7 : wc.cell? ⟨gb181, 7, none⟩ = some (.bool false) := (blk_cell BK181.out 7).trans rfl
                      have hcz163_8 : wc.cell? ⟨gb181, 8, none⟩ = some (.bool a0_8) := (blk_cell BK181.out 8).trans rfl
                      have hcz163_9 : wc.cell? ⟨gb181, 9, none⟩ = some (.bool a0_9) := (blk_cell BK181.out 9).trans rfl
                      have hcz163_10 : wc.cell? ⟨gb181, 10, none⟩ = some (.bool true) := (blk_cell BK181.out 10).trans rfl
                      have hcz163_11 : wc.cell? ⟨gb181, 11, none⟩ = some (.bool true) := (blk_cell BK181.out 11).trans rfl
                      have hcz163_12 : wc.cell? ⟨gb181, 12, none⟩ = some (.bool a0_12) := (blk_cell BK181.out 12).trans rfl
                      have hcz163_13 : wc.cell? ⟨gb181, 13, none⟩ = some (.bool a0_13) := (blk_cell BK181.out 13).trans rfl
                      go_wp2
                      go_ret
                      exact ⟨by first | rfl | (simp [errW_none, errW_some] <;> rfl) | (simp [*, errW_none, errW_some] <;> rfl), by repeat (first | (with_reducible first | exact HB.out | apply below_alloc | apply pw_below_drewN | apply below_drew1 | refine below_set ?_ GE181.out) | exact HB.out)⟩
                    · replace c162 := Bool.eq_false_iff.mpr c162
                      subst c162
                      have H1 : (some 3) = some r := by rw [if_neg (show ¬ (false = true) by decide)] at H; exact H
                      clear H
                      have H := H1
                      clear H1
                      obtain rfl := Option.some.inj H
                      have hcz164_0 : wc.cell? ⟨gb181, 0, none⟩ = some (.int .i64 a0_0) := (blk_cell BK181.out 0).trans rfl
                      have hcz164_1 : wc.cell? ⟨gb181, 1, none⟩ = some (.int .i64 a0_1) := (blk_cell BK181.out 1).trans rfl
                      have hcz164_2 : wc.cell? ⟨gb181, 2, none⟩ = some (.int .i64 a0_2) := (blk_cell BK181.out 2).trans rfl
                      have hcz164_3 : wc.cell? ⟨gb181, 3, none⟩ = some (.int .i64 a0_3) := (blk_cell BK181.out 3).trans rfl
                      have hcz164_4 : wc.cell? ⟨gb181, 4, none⟩ = some (.bool a0_4) := (blk_cell BK181.out 4).trans rfl
                      have hcz164_5 : wc.cell? ⟨gb181, 5, none⟩ = some (.bool true) := (blk_cell BK181.out 5).trans rfl
                      have hcz164_6 : wc.cell? ⟨gb181, 6, none⟩ = some (.bool false) := (blk_cell BK181.out 6).trans rfl
                      have hcz164_7 : wc.cell? ⟨gb181, 7, none⟩ = some (.bool false) := (blk_cell BK181.out 7).trans rfl
                      have hcz164_8 : wc.cell? ⟨gb181, 8, none⟩ = some (.bool a0_8) := (blk_cell BK181.out 8).trans rfl
                      have hcz164_9 : wc.cell? ⟨gb181, 9, none⟩ = some (.bool a0_9) := (blk_cell BK181.out 9).trans rfl
                      have hcz164_10 : wc.cell? ⟨gb181, 10, none⟩ = some (.bool false) := (blk_cell BK181.out 10).trans rfl
                      have hcz164_11 : wc.cell? ⟨gb181, 11, none⟩ = some (.bool true) := (blk_cell BK181.out 11).trans rfl
                      have hcz164_12 : wc.cell? ⟨gb181, 12, none⟩ = some (.bool a0_12) := (blk_cell BK181.out 12).trans rfl
                      have hcz164_13 : wc.cell? ⟨gb181, 13, none⟩ = some (.bool a0_13) := (blk_cell BK181.out 13).trans rfl
                      go_wp2
                      go_ret
                      exact ⟨by first | rfl | (simp [errW_none, errW_some] <;> rfl) | (simp [*, errW_none, errW_some] <;> rfl), by repeat (first | (with_reducible first | exact HB.out | apply below_alloc | apply pw_below_drewN | apply below_drew1 | refine below_set ?_ GE181.out) | exact HB.out)⟩
                  · replace c161 := Bool.eq_false_iff.mpr c161
                    subst c161
                    have H1 : (some 0) = some r := by rw [if_neg (show ¬ (false = true) by decide)] at H; exact H
                    clear H
                    have H := H1
                    clear H1
                    obtain rfl := Option.some.inj H
                    have hcz165_0 : wc.cell? ⟨gb181, 0, none⟩ = some (.int .i64 a0_0) := (blk_cell BK181.out 0).trans rfl
                    have hcz165_1 : wc.cell? ⟨gb181, 1, none⟩ = some (.int .i64 a0_1) := (blk_cell BK181.out 1).trans rfl
                    have hcz165_2 : wc.cell? ⟨gb181, 2, none⟩ = some (.int .i64 a0_2) := (blk_cell BK181.out 2).trans rfl
                    have hcz165_3 : wc.cell? ⟨gb181, 3, none⟩ = some (.int .i64 a0_3) := (blk_cell BK181.out 3).trans rfl
                    have hcz165_4 : wc.cell? ⟨gb181, 4, none⟩ = some (.bool a0_4) := (blk_cell BK181.out 4).trans rfl
                    have hcz165_5 : wc.cell? ⟨gb181, 5, none⟩ = some (.bool true) := (blk_cell BK181.out 5).trans rfl
                    have hcz165_6 : wc.cell? ⟨gb181, 6, none⟩ = some (.bool false) := (blk_cell BK181.out 6).trans rfl
                    have hcz165_7 : wc.cell? ⟨gb181, 7, none⟩ = some (.bool false) := (blk_cell BK181.out 7).trans rfl
                    have hcz165_8 : wc.cell? ⟨gb181, 8, none⟩ = some (.bool a0_8) := (blk_cell BK181.out 8).trans rfl
                    have hcz165_9 : wc.cell? ⟨gb181, 9, none⟩ = some (.bool a0_9) := (blk_cell BK181.out 9).trans rfl
                    have hcz165_10 : wc.cell? ⟨gb181, 10, none⟩ = some (.bool a0_10) := (blk_cell BK181.out 10).trans rfl
                    have hcz165_11 : wc.cell? ⟨gb181, 11, none⟩ = some (.bool false) := (blk_cell BK181.out 11).trans rfl
                    have hcz165_12 : wc.cell? ⟨gb181, 12, none⟩ = some (.bool a0_12) := (blk_cell BK181.out 12).trans rfl
                    have hcz165_13 : wc.cell? ⟨gb181, 13, none⟩ = some (.bool a0_13) := (blk_cell BK181.out 13).trans rfl
                    go_wp2
                    go_ret
                    exact ⟨by first | rfl | (simp [errW_none, errW_some] <;> rfl) | (simp [*, errW_none, errW_some] <;> rfl), by repeat (first | (with_reducible first | exact HB.out | apply below_alloc | apply pw_below_drewN | apply below_drew1 | refine below_set ?_ GE181.out) | exact HB.out)⟩
            · replace c138 := Bool.eq_false_iff.mpr c138
              subst c138
              have H1 : (some 3) = some r := by rw [if_neg (show ¬ (false = true) by decide)] at H; exact H
              clear H
              have H := H1
              clear H1
              obtain rfl := Option.some.inj H
              have hcz166_0 : wc.cell? ⟨gb181, 0, none⟩ = some (.int .i64 a0_0) := (blk_cell BK181.out 0).trans rfl
              have hcz166_1 : wc.cell? ⟨gb181, 1, none⟩ = some (.int .i64 a0_1) := (blk_cell BK181.out 1).trans rfl
              have hcz166_2 : wc.cell? ⟨gb181, 2, none⟩ = some (.int .i64 a0_2) := (blk_cell BK181.out 2).trans rfl
              have hcz166_3 : wc.cell? ⟨gb181, 3, none⟩ = some (.int .i64 a0_3) := (blk_cell BK181.out 3).trans rfl
              have hcz166_4 : wc.cell? ⟨gb181, 4, none⟩ = some (.bool a0_4) := (blk_cell BK181.out 4).trans rfl
              have hcz166_5 : wc.cell? ⟨gb181, 5, none⟩ = some (.bool false) := (blk_cell BK181.out 5).trans rfl
              have hcz166_6 : wc.cell? ⟨gb181, 6, none⟩ = some (.bool a0_6) := (blk_cell BK181.out 6).trans rfl
              have hcz166_7 : wc.cell? ⟨gb181, 7, none⟩ = some (.bool a0_7) := (blk_cell BK181.out 7).trans rfl
              have hcz166_8 : wc.cell? ⟨gb181, 8, none⟩ = some (.bool a0_8) := (blk_cell BK181.out 8).trans rfl
              have hcz166_9 : wc.cell? ⟨gb181, 9, none⟩ = some (.bool a0_9) := (blk_cell BK181.out 9).trans rfl
              have hcz166_10 : wc.cell? ⟨gb181, 10, none⟩ = some (.bool a0_10) := (blk_cell BK181.out 10).trans rfl
              have hcz166_11 : wc.cell? ⟨gb181, 11, none⟩ = some (.bool a0_11) := (blk_cell BK181.out 11).trans rfl
              have hcz166_12 : wc.cell? ⟨gb181, 12, none⟩ = some (.bool a0_12) := (blk_cell BK181.out 12).trans rfl
              have hcz166_13 : wc.cell? ⟨gb181, 13, none⟩ = some (.bool a0_13) := (blk_cell BK181.out 13).trans rfl
              go_wp2
              go_ret
              exact ⟨by first | rfl | (simp [errW_none, errW_some] <;> rfl) | (simp [*, errW_none, errW_some] <;> rfl), by repeat (first | (with_reducible first | exact HB.out | apply below_alloc | apply pw_below_drewN | apply below_drew1 | refine below_set ?_ GE181.out) | exact HB.out)⟩
end Go.Proofs.YtknghhlielhleaaDoor.PSpellParses
