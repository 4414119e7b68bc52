import Derived.Test.YtknghhlielhleaaDoorPSpellBackx0
import Derived.Test.YtknghhlielhleaaDoorPSpellBackx1
namespace Go.Proofs.YtknghhlielhleaaDoor.PSpellBack
open Go.RowKit Go.Proofs.YtknghhlielhleaaDoorM Go.Proofs.YtknghhlielhleaaDoorW.PrintWords Go.Proofs.YtknghhlielhleaaDoorW.PrintLast Go.Proofs.YtknghhlielhleaaDoorW.PrintMore
attribute [local go_sem] max2_int min2_int max_two min_two max_three min_three max_four min_four   -- for this text's walks alone
set_option linter.unusedVariables false
set_option linter.unusedSimpArgs false
mutual
def naskhplain_Right.j0 : Nat → Int → Int → Int → Int → Bool → Bool → Bool → Bool → Bool → Bool → Bool → Bool → Bool → Bool → Option (Int × Int × Int × Int × Bool × Bool × Bool × Bool × Bool × Bool × Bool × Bool × Bool × Bool)
  | 0, _, _, _, _, _, _, _, _, _, _, _, _, _, _ => none
  | k + 1, x181000, x181001, x181002, x181003, x181004, x181005, x181006, x181007, x181008, x181009, x181010, x181011, x181012, x181013 => if x181001 = 0 then (naskhplain_Right.j1 k x181000 x181001 x181002 x181003 x181004 x181005 false x181007 x181008 x181009 x181010 x181011 x181012 x181013) else (naskhplain_Right.j1 k x181000 x181001 x181002 x181003 x181004 x181005 x181006 x181007 x181008 x181009 x181010 x181011 x181012 x181013)
def naskhplain_Right.j1 : Nat → Int → Int → Int → Int → Bool → Bool → Bool → Bool → Bool → Bool → Bool → Bool → Bool → Bool → Option (Int × Int × Int × Int × Bool × Bool × Bool × Bool × Bool × Bool × Bool × Bool × Bool × Bool)
  | 0, _, _, _, _, _, _, _, _, _, _, _, _, _, _ => none
  | k + 1, x181000, x181001, x181002, x181003, x181004, x181005, x181006, x181007, x181008, x181009, x181010, x181011, x181012, x181013 => if x181002 = 3 then (naskhplain_Right.j2 k true x181000 x181001 x181002 x181003 x181004 x181005 x181006 x181007 x181008 x181009 x181010 x181011 x181012 x181013) else (naskhplain_Right.j2 k (x181002 == 4) x181000 x181001 x181002 x181003 x181004 x181005 x181006 x181007 x181008 x181009 x181010 x181011 x181012 x181013)
def naskhplain_Right.j2 : Nat → Bool → Int → Int → Int → Int → Bool → Bool → Bool → Bool → Bool → Bool → Bool → Bool → Bool → Bool → Option (Int × Int × Int × Int × Bool × Bool × Bool × Bool × Bool × Bool × Bool × Bool × Bool × Bool)
  | 0, _, _, _, _, _, _, _, _, _, _, _, _, _, _, _ => none
  | k + 1, x38, x181000, x181001, x181002, x181003, x181004, x181005, x181006, x181007, x181008, x181009, x181010, x181011, x181012, x181013 => if x38 = true then (if x181010 = true then (some (x181000, x181001, x181002, x181003, x181004, x181005, x181006, false, x181008, x181009, x181010, x181011, x181012, x181013)) else (some (x181000, x181001, x181002, x181003, x181004, x181005, x181006, false, x181008, x181009, x181010, false, x181012, x181013))) else (if x181010 = true then (some (x181000, x181001, x181002, x181003, x181004, x181005, x181006, x181007, x181008, x181009, x181010, x181011, x181012, x181013)) else (some (x181000, x181001, x181002, x181003, x181004, x181005, x181006, x181007, x181008, x181009, x181010, false, x181012, x181013)))
end
def naskhplain_Right.f (k : Nat) (a0_0 : Int) (a0_1 : Int) (a0_2 : Int) (a0_3 : Int) (a0_4 : Bool) (a0_5 : Bool) (a0_6 : Bool) (a0_7 : Bool) (a0_8 : Bool) (a0_9 : Bool) (a0_10 : Bool) (a0_11 : Bool) (a0_12 : Bool) (a0_13 : Bool) : Option (Int × Int × Int × Int × Bool × Bool × Bool × Bool × Bool × Bool × Bool × Bool × Bool × Bool) := (naskhplain_held.f a0_0 3).bind fun t182 => ((naskhplain_held.f a0_1 4).bind fun t183 => ((naskhplain_held.f a0_2 4).bind fun t184 => ((naskhplain_held.f a0_3 4).bind fun t185 => (if a0_5 = true then (naskhplain_Right.j0 k t182 t183 t184 t185 a0_4 a0_5 a0_6 a0_7 a0_8 a0_9 a0_10 a0_11 a0_12 a0_13) else (naskhplain_Right.j0 k t182 0 0 t185 a0_4 a0_5 a0_6 false false false a0_10 a0_11 a0_12 a0_13)))))
theorem naskhplain_Right.mono_l : ∀ k, (∀ y0 y1 y2 y3 y4 y5 y6 y7 y8 y9 y10 y11 y12 y13, LeO (naskhplain_Right.j0 k y0 y1 y2 y3 y4 y5 y6 y7 y8 y9 y10 y11 y12 y13) (naskhplain_Right.j0 (k + 1) y0 y1 y2 y3 y4 y5 y6 y7 y8 y9 y10 y11 y12 y13)) ∧ (∀ y0 y1 y2 y3 y4 y5 y6 y7 y8 y9 y10 y11 y12 y13, LeO (naskhplain_Right.j1 k y0 y1 y2 y3 y4 y5 y6 y7 y8 y9 y10 y11 y12 y13) (naskhplain_Right.j1 (k + 1) y0 y1 y2 y3 y4 y5 y6 y7 y8 y9 y10 y11 y12 y13)) ∧ (∀ y0 y1 y2 y3 y4 y5 y6 y7 y8 y9 y10 y11 y12 y13 y14, LeO (naskhplain_Right.j2 k y0 y1 y2 y3 y4 y5 y6 y7 y8 y9 y10 y11 y12 y13 y14) (naskhplain_Right.j2 (k + 1) y0 y1 y2 y3 y4 y5 y6 y7 y8 y9 y10 y11 y12 y13 y14))
  | 0 => ⟨fun _ _ _ _ _ _ _ _ _ _ _ _ _ _ r h => by simp [naskhplain_Right.j0] at h, fun _ _ _ _ _ _ _ _ _ _ _ _ _ _ r h => by simp [naskhplain_Right.j1] at h, fun _ _ _ _ _ _ _ _ _ _ _ _ _ _ _ r h => by simp [naskhplain_Right.j2] at h⟩
  | k + 1 => by
    obtain ⟨ih0, ih1, ih2⟩ := naskhplain_Right.mono_l k
    refine ⟨?_, ?_, ?_⟩
    · intro y0 y1 y2 y3 y4 y5 y6 y7 y8 y9 y10 y11 y12 y13
      unfold naskhplain_Right.j0
      repeat' first
      | (with_reducible exact ih0 _ _ _ _ _ _ _ _ _ _ _ _ _ _)
      | (with_reducible exact ih1 _ _ _ _ _ _ _ _ _ _ _ _ _ _)
      | (with_reducible exact ih2 _ _ _ _ _ _ _ _ _ _ _ _ _ _ _)
      | (with_reducible exact LeO.refl _)
      | (with_reducible exact LeO.none _)
      | (with_reducible refine LeO.ite ?_ ?_)
      | (with_reducible refine LeO.bind ?_ (fun _ => ?_))
      | exact ih0 _ _ _ _ _ _ _ _ _ _ _ _ _ _
      | exact ih1 _ _ _ _ _ _ _ _ _ _ _ _ _ _
      | exact ih2 _ _ _ _ _ _ _ _ _ _ _ _ _ _ _
      | exact LeO.none _
      | refine LeO.ite ?_ ?_
      | refine LeO.bind ?_ (fun _ => ?_)
    · intro y0 y1 y2 y3 y4 y5 y6 y7 y8 y9 y10 y11 y12 y13
      unfold naskhplain_Right.j1
      repeat' first
      | (with_reducible exact ih0 _ _ _ _ _ _ _ _ _ _ _ _ _ _)
      | (with_reducible exact ih1 _ _ _ _ _ _ _ _ _ _ _ _ _ _)
      | (with_reducible exact ih2 _ _ _ _ _ _ _ _ _ _ _ _ _ _ _)
      | (with_reducible exact LeO.refl _)
      | (with_reducible exact LeO.none _)
      | (with_reducible refine LeO.ite ?_ ?_)
      | (with_reducible refine LeO.bind ?_ (fun _ => ?_))
      | exact ih0 _ _ _ _ _ _ _ _ _ _ _ _ _ _
      | exact ih1 _ _ _ _ _ _ _ _ _ _ _ _ _ _
      | exact ih2 _ _ _ _ _ _ _ _ _ _ _ _ _ _ _
      | exact LeO.none _
      | refine LeO.ite ?_ ?_
      | refine LeO.bind ?_ (fun _ => ?_)
    · intro y0 y1 y2 y3 y4 y5 y6 y7 y8 y9 y10 y11 y12 y13 y14
      unfold naskhplain_Right.j2
      repeat' first
      | (with_reducible exact ih0 _ _ _ _ _ _ _ _ _ _ _ _ _ _)
      | (with_reducible exact ih1 _ _ _ _ _ _ _ _ _ _ _ _ _ _)
      | (with_reducible exact ih2 _ _ _ _ _ _ _ _ _ _ _ _ _ _ _)
      | (with_reducible exact LeO.refl _)
      | (with_reducible exact LeO.none _)
      | (with_reducible refine LeO.ite ?_ ?_)
      | (with_reducible refine LeO.bind ?_ (fun _ => ?_))
      | exact ih0 _ _ _ _ _ _ _ _ _ _ _ _ _ _
      | exact ih1 _ _ _ _ _ _ _ _ _ _ _ _ _ _
      | exact ih2 _ _ _ _ _ _ _ _ _ _ _ _ _ _ _
      | exact LeO.none _
      | refine LeO.ite ?_ ?_
      | refine LeO.bind ?_ (fun _ => ?_)
theorem naskhplain_Right.mono : ∀ a0 a1 a2 a3 a4 a5 a6 a7 a8 a9 a10 a11 a12 a13 k, LeO (naskhplain_Right.f k a0 a1 a2 a3 a4 a5 a6 a7 a8 a9 a10 a11 a12 a13) (naskhplain_Right.f (k + 1) a0 a1 a2 a3 a4 a5 a6 a7 a8 a9 a10 a11 a12 a13) := by
  intro a0 a1 a2 a3 a4 a5 a6 a7 a8 a9 a10 a11 a12 a13 k
  obtain ⟨ih0, ih1, ih2⟩ := naskhplain_Right.mono_l k
  unfold naskhplain_Right.f
  repeat' first
      | (with_reducible exact ih0 _ _ _ _ _ _ _ _ _ _ _ _ _ _)
      | (with_reducible exact ih1 _ _ _ _ _ _ _ _ _ _ _ _ _ _)
      | (with_reducible exact ih2 _ _ _ _ _ _ _ _ _ _ _ _ _ _ _)
      | (with_reducible exact LeO.refl _)
      | (with_reducible exact LeO.none _)
      | (with_reducible refine LeO.ite ?_ ?_)
      | (with_reducible refine LeO.bind ?_ (fun _ => ?_))
      | exact ih0 _ _ _ _ _ _ _ _ _ _ _ _ _ _
      | exact ih1 _ _ _ _ _ _ _ _ _ _ _ _ _ _
      | exact ih2 _ _ _ _ _ _ _ _ _ _ _ _ _ _ _
      | exact LeO.none _
      | refine LeO.ite ?_ ?_
      | refine LeO.bind ?_ (fun _ => ?_)
def naskhplain_Right.T1 : Bool × List (List Nat × List Nat) := (true, [([], []), ([0], [0]), ([1], [1]), ([], []), ([3], [3]), ([4, 2], [4]), ([], []), ([6], [6]), ([7, 5], [7]), ([], []), ([9], [9]), ([10, 8], [10]), ([0, 1, 2, 3, 4, 6, 7, 9, 10], []), ([12, 2, 11, 0, 1, 2, 3, 4, 6, 7, 9, 10], [2, 12]), ([0, 1, 2, 3, 4, 5, 6, 7, 9, 10, 12, 13], []), ([14, 5, 13, 0, 1, 2, 3, 4, 5, 6, 7, 9, 10, 12, 13], [5, 14]), ([0, 1, 2, 3, 4, 5, 6, 7, 8, 9, 10, 12, 13, 14, 15], []), ([16, 8, 15, 0, 1, 2, 3, 4, 5, 6, 7, 8, 9, 10, 12, 13, 14, 15], [8, 16]), ([0, 1, 2, 3, 4, 5, 6, 7, 8, 9, 10, 11, 12, 13, 14, 15, 16, 17], []), ([18, 11, 17, 0, 1, 2, 3, 4, 5, 6, 7, 8, 9, 10, 11, 12, 13, 14, 15, 16, 17], [11, 18])])
def naskhplain_Right.B1 : List Nat := [0, 1, 3, 0, 8, 31, 0, 64, 255, 0, 512, 2047, 1759, 8191, 16383, 32767, 65535, 131071, 262143, 524287]
theorem naskhplain_Right.tab1 : rtab .any (opsOf Tryd.f12 1) = naskhplain_Right.T1 := by kernel_rfl
theorem naskhplain_Right.bits1 : waitsOk naskhplain_Right.T1.2 naskhplain_Right.B1 = true := by kernel_rfl
set_option maxHeartbeats 8000000 in
set_option maxRecDepth 100000 in
theorem naskhplain_Right.calls (k : Nat) (a0_0 : Int) (a0_1 : Int) (a0_2 : Int) (a0_3 : Int) (a0_4 : Bool) (a0_5 : Bool) (a0_6 : Bool) (a0_7 : Bool) (a0_8 : Bool) (a0_9 : Bool) (a0_10 : Bool) (a0_11 : Bool) (a0_12 : Bool) (a0_13 : Bool) (r1 : Int) (r2 : Int) (r3 : Int) (r4 : Int) (r5 : Bool) (r6 : Bool) (r7 : Bool) (r8 : Bool) (r9 : Bool) (r10 : Bool) (r11 : Bool) (r12 : Bool) (r13 : Bool) (r14 : Bool) (w : World) (h : naskhplain_Right.f k a0_0 a0_1 a0_2 a0_3 a0_4 a0_5 a0_6 a0_7 a0_8 a0_9 a0_10 a0_11 a0_12 a0_13 = some (r1, r2, r3, r4, r5, r6, r7, r8, r9, r10, r11, r12, r13, r14)) :
    Calls Tryd.prog 12 #[.agg #[.int .i64 a0_0, .int .i64 a0_1, .int .i64 a0_2, .int .i64 a0_3, .bool a0_4, .bool a0_5, .bool a0_6, .bool a0_7, .bool a0_8, .bool a0_9, .bool a0_10, .bool a0_11, .bool a0_12, .bool a0_13]] w fun e w' => e = .returned (.agg #[.int .i64 r1, .int .i64 r2, .int .i64 r3, .int .i64 r4, .bool r5, .bool r6, .bool r7, .bool r8, .bool r9, .bool r10, .bool r11, .bool r12, .bool r13, .bool r14]) ∧ Below w.heap.size w w' := by
  have hu24 := Tryd.underlying24
  have HB := Aside0.mk (Below.refl w.heap.size w)
  have H : ((naskhplain_held.f a0_0 3).bind fun t182 => ((naskhplain_held.f a0_1 4).bind fun t183 => ((naskhplain_held.f a0_2 4).bind fun t184 => ((naskhplain_held.f a0_3 4).bind fun t185 => (if a0_5 = true then (naskhplain_Right.j0 k t182 t183 t184 t185 a0_4 a0_5 a0_6 a0_7 a0_8 a0_9 a0_10 a0_11 a0_12 a0_13) else (naskhplain_Right.j0 k t182 0 0 t185 a0_4 a0_5 a0_6 false false false a0_10 a0_11 a0_12 a0_13)))))) = some (r1, r2, r3, r4, r5, r6, r7, r8, r9, r10, r11, r12, r13, r14) := h
  clear h
  replace H := Option.bind_eq_some_iff.mp H
  obtain ⟨t182, A20, H⟩ := H
  replace H : ((naskhplain_held.f a0_1 4).bind fun t183 => ((naskhplain_held.f a0_2 4).bind fun t184 => ((naskhplain_held.f a0_3 4).bind fun t185 => (if a0_5 = true then (naskhplain_Right.j0 k t182 t183 t184 t185 a0_4 a0_5 a0_6 a0_7 a0_8 a0_9 a0_10 a0_11 a0_12 a0_13) else (naskhplain_Right.j0 k t182 0 0 t185 a0_4 a0_5 a0_6 false false false a0_10 a0_11 a0_12 a0_13))))) = some (r1, r2, r3, r4, r5, r6, r7, r8, r9, r10, r11, r12, r13, r14) := H
  have A2 := Aside0.mk A20
  clear A20
  replace H := Option.bind_eq_some_iff.mp H
  obtain ⟨t183, A30, H⟩ := H
  replace H : ((naskhplain_held.f a0_2 4).bind fun t184 => ((naskhplain_held.f a0_3 4).bind fun t185 => (if a0_5 = true then (naskhplain_Right.j0 k t182 t183 t184 t185 a0_4 a0_5 a0_6 a0_7 a0_8 a0_9 a0_10 a0_11 a0_12 a0_13) else (naskhplain_Right.j0 k t182 0 0 t185 a0_4 a0_5 a0_6 false false false a0_10 a0_11 a0_12 a0_13)))) = some (r1, r2, r3, r4, r5, r6, r7, r8, r9, r10, r11, r12, r13, r14) := H
  have A3 := Aside0.mk A30
  clear A30
  replace H := Option.bind_eq_some_iff.mp H
  obtain ⟨t184, A40, H⟩ := H
  replace H : ((naskhplain_held.f a0_3 4).bind fun t185 => (if a0_5 = true then (naskhplain_Right.j0 k t182 t183 t184 t185 a0_4 a0_5 a0_6 a0_7 a0_8 a0_9 a0_10 a0_11 a0_12 a0_13) else (naskhplain_Right.j0 k t182 0 0 t185 a0_4 a0_5 a0_6 false false false a0_10 a0_11 a0_12 a0_13))) = some (r1, r2, r3, r4, r5, r6, r7, r8, r9, r10, r11, r12, r13, r14) := H
  have A4 := Aside0.mk A40
  clear A40
  replace H := Option.bind_eq_some_iff.mp H
  obtain ⟨t185, A50, H⟩ := H
  replace H : (if a0_5 = true then (naskhplain_Right.j0 k t182 t183 t184 t185 a0_4 a0_5 a0_6 a0_7 a0_8 a0_9 a0_10 a0_11 a0_12 a0_13) else (naskhplain_Right.j0 k t182 0 0 t185 a0_4 a0_5 a0_6 false false false a0_10 a0_11 a0_12 a0_13)) = some (r1, r2, r3, r4, r5, r6, r7, r8, r9, r10, r11, r12, r13, r14) := H
  have A5 := Aside0.mk A50
  clear A50
  have HC6 := Aside0.mk H
  clear H
  go_enter Tryd.func12, Tryd.ntmps12
  try go_wp2_with (first | ((with_reducible refine gate_dst (N := 1) rfl ?_); refine box_event ?hg (N := 1) ?hd (cs := #[.int .i64 a0_0, .int .i64 a0_1, .int .i64 a0_2, .int .i64 a0_3, .bool a0_4, .bool a0_5, .bool a0_6, .bool a0_7, .bool a0_8, .bool a0_9, .bool a0_10, .bool a0_11, .bool a0_12, .bool a0_13]) (t := 24) ?hr ?_; (case hd => rfl); (case hg => rfl); (case hr => first | (go_simp; done) | (go_simp; rfl)); intro gb180 hg w7 hbox hb; have n0_ := Aside0.mk (below_step (by repeat (first | (with_reducible first | exact HB.out | apply below_alloc | apply pw_below_drewN | apply below_drew1) | exact HB.out)) hb); have n1_ := Aside0.mk (hbox); have n2_ := Aside0.mk ((by rw [hg]; exact (below_size (by repeat (first | (with_reducible first | exact HB.out | apply below_alloc | apply pw_below_drewN | apply below_drew1) | exact HB.out))) : w.heap.size ≤ gb180)); have n3_ := Aside0.mk ((by rw [hg]; exact (below_size (by repeat (first | (with_reducible first | exact HB.out | apply below_alloc | apply pw_below_drewN | apply below_drew1) | exact HB.out))) : w.heap.size ≤ gb180)); clear HB; have HB := n0_; have BK180 := n1_; have GW180 := n2_; have GE180 := n3_; clear n0_ n1_ n2_ n3_; clear hb hbox hg) | ((with_reducible refine gate_dst (N := 2) rfl ?_); refine box_event ?hg (N := 2) ?hd (cs := #[.int .i64 0, .int .i64 0, .int .i64 0, .int .i64 0, .bool false, .bool false, .bool false, .bool false, .bool false, .bool false, .bool false, .bool false, .bool false, .bool false]) (t := 24) ?hr ?_; (case hd => rfl); (case hg => rfl); (case hr => first | (go_simp; done) | (go_simp; rfl)); intro gb181 hg w8 hbox hb; have n0_ := Aside0.mk (blk_below (g := gb180) (o := .cells #[.int .i64 a0_0, .int .i64 a0_1, .int .i64 a0_2, .int .i64 a0_3, .bool a0_4, .bool a0_5, .bool a0_6, .bool a0_7, .bool a0_8, .bool a0_9, .bool a0_10, .bool a0_11, .bool a0_12, .bool a0_13] 24 (0, 0)) (by (with_reducible repeat (first | refine blk_drewN ?_ _ | refine blk_drew ?_ | refine blk_alloc ?_ _)); exact BK180.out) hb); have n1_ := Aside0.mk (below_step (by repeat (first | (with_reducible first | exact HB.out | apply below_alloc | apply pw_below_drewN | apply below_drew1 | refine below_set ?_ GE180.out) | exact HB.out)) hb); have n2_ := Aside0.mk (hbox); have n3_ := Aside0.mk ((by rw [hg]; exact (below_size (by repeat (first | (with_reducible first | exact HB.out | apply below_alloc | apply pw_below_drewN | apply below_drew1 | refine below_set ?_ GE180.out) | exact HB.out))) : w.heap.size ≤ gb181)); have n4_ := Aside0.mk ((by rw [hg]; exact (below_size (by repeat (first | (with_reducible first | exact HB.out | apply below_alloc | apply pw_below_drewN | apply below_drew1 | refine below_set ?_ GE180.out) | exact HB.out))) : w.heap.size ≤ gb181)); have n5_ := Aside0.mk ((by rw [hg]; exact Nat.ne_of_lt (blk_lt (g := gb180) (o := .cells #[.int .i64 a0_0, .int .i64 a0_1, .int .i64 a0_2, .int .i64 a0_3, .bool a0_4, .bool a0_5, .bool a0_6, .bool a0_7, .bool a0_8, .bool a0_9, .bool a0_10, .bool a0_11, .bool a0_12, .bool a0_13] 24 (0, 0)) (by (with_reducible repeat (first | refine blk_drewN ?_ _ | refine blk_drew ?_ | refine blk_alloc ?_ _)); exact BK180.out)) : gb180 ≠ gb181)); have n6_ := Aside0.mk ((by rw [hg]; exact Nat.ne_of_gt (blk_lt (g := gb180) (o := .cells #[.int .i64 a0_0, .int .i64 a0_1, .int .i64 a0_2, .int .i64 a0_3, .bool a0_4, .bool a0_5, .bool a0_6, .bool a0_7, .bool a0_8, .bool a0_9, .bool a0_10, .bool a0_11, .bool a0_12, .bool a0_13] 24 (0, 0)) (by (with_reducible repeat (first | refine blk_drewN ?_ _ | refine blk_drew ?_ | refine blk_alloc ?_ _)); exact BK180.out)) : gb181 ≠ gb180)); clear BK180; clear HB; have BK180 := n0_; have HB := n1_; have BK181 := n2_; have GW181 := n3_; have GE181 := n4_; have NB180_181 := n5_; have NB181_180 := n6_; clear n0_ n1_ n2_ n3_ n4_ n5_ n6_; clear hb hbox hg))
  have n0_ := Aside0.mk (blk_drew BK180.out)
  have n1_ := Aside0.mk (blk_drew BK181.out)
  have n2_ := Aside0.mk (below_drew1 HB.out)
  clear BK180
  clear BK181
  clear HB
  have BK180 := n0_
  have BK181 := n1_
  have HB := n2_
  clear n0_ n1_ n2_
  refine start_ (n := 20) (S := fun w' => w'.cell? ⟨gb180, 0, none⟩ = some (.int .i64 a0_0) ∧ w'.cell? ⟨gb180, 1, none⟩ = some (.int .i64 a0_1) ∧ w'.cell? ⟨gb180, 2, none⟩ = some (.int .i64 a0_2) ∧ w'.cell? ⟨gb180, 3, none⟩ = some (.int .i64 a0_3) ∧ w'.cell? ⟨gb180, 4, none⟩ = some (.bool a0_4) ∧ w'.cell? ⟨gb180, 5, none⟩ = some (.bool a0_5) ∧ w'.cell? ⟨gb180, 6, none⟩ = some (.bool a0_6) ∧ w'.cell? ⟨gb180, 7, none⟩ = some (.bool a0_7) ∧ w'.cell? ⟨gb180, 8, none⟩ = some (.bool a0_8) ∧ w'.cell? ⟨gb180, 9, none⟩ = some (.bool a0_9) ∧ w'.cell? ⟨gb180, 10, none⟩ = some (.bool a0_10) ∧ w'.cell? ⟨gb180, 11, none⟩ = some (.bool a0_11) ∧ w'.cell? ⟨gb180, 12, none⟩ = some (.bool a0_12) ∧ w'.cell? ⟨gb180, 13, none⟩ = some (.bool a0_13)) (ds := [13, 15, 17, 19]) #[false, false, false, false, false, false, false, false, false, false, false, false, false, false, false, false, false, false, false, false] (by kernel_rfl) rfl rfl ⟨(blk_cell BK180.out 0).trans rfl, (blk_cell BK180.out 1).trans rfl, (blk_cell BK180.out 2).trans rfl, (blk_cell BK180.out 3).trans rfl, (blk_cell BK180.out 4).trans rfl, (blk_cell BK180.out 5).trans rfl, (blk_cell BK180.out 6).trans rfl, (blk_cell BK180.out 7).trans rfl, (blk_cell BK180.out 8).trans rfl, (blk_cell BK180.out 9).trans rfl, (blk_cell BK180.out 10).trans rfl, (blk_cell BK180.out 11).trans rfl, (blk_cell BK180.out 12).trans rfl, (blk_cell BK180.out 13).trans rfl⟩ (fun hHeld => ?_); refine with_tabW naskhplain_Right.tab1 naskhplain_Right.bits1 (fun HT_ HW_ => ?_)
  generalize w8.drew = w9 at BK180 BK181 HB hHeld ⊢
  refine pure_ (i := 0) (N := some 3) (v := ?_) (a' := ?_) #[true, false, false, false, false, false, false, false, false, false, false, false, false, false, false, false, false, false, false, false] rfl rfl (any_of HT_.out (by kernel_rfl)) (fun _ _ _ h => h) (Or.inl ⟨by rfl, ?_⟩) ?_ ?_
  rotate_left
  · intro w'
    go_simp
    with_reducible rfl
  rotate_left
  · simp only [Act.put, List.setIfInBounds_toArray, List.set_cons_zero, List.set_cons_succ, i64_w, i32_w]
    rfl
  refine pure_ (i := 3) (N := some 6) (v := ?_) (a' := ?_) #[true, false, false, true, false, false, false, false, false, false, false, false, false, false, false, false, false, false, false, false] rfl rfl (any_of HT_.out (by kernel_rfl)) (fun _ _ _ h => h) (Or.inl ⟨by rfl, ?_⟩) ?_ ?_
  rotate_left
  · intro w'
    go_simp
    with_reducible rfl
  rotate_left
  · simp only [Act.put, List.setIfInBounds_toArray, List.set_cons_zero, List.set_cons_succ, i64_w, i32_w]
    rfl
  refine pure_ (i := 6) (N := some 9) (v := ?_) (a' := ?_) #[true, false, false, true, false, false, true, false, false, false, false, false, false, false, false, false, false, false, false, false] rfl rfl (any_of HT_.out (by kernel_rfl)) (fun _ _ _ h => h) (Or.inl ⟨by rfl, ?_⟩) ?_ ?_
  rotate_left
  · intro w'
    go_simp
    with_reducible rfl
  rotate_left
  · simp only [Act.put, List.setIfInBounds_toArray, List.set_cons_zero, List.set_cons_succ, i64_w, i32_w]
    rfl
  refine pure_ (i := 9) (N := some 12) (v := ?_) (a' := ?_) #[true, false, false, true, false, false, true, false, false, true, false, false, false, false, false, false, false, false, false, false] rfl rfl (any_of HT_.out (by kernel_rfl)) (fun _ _ _ h => h) (Or.inl ⟨by rfl, ?_⟩) ?_ ?_
  rotate_left
  · intro w'
    go_simp
    with_reducible rfl
  rotate_left
  · simp only [Act.put, List.setIfInBounds_toArray, List.set_cons_zero, List.set_cons_succ, i64_w, i32_w]
    rfl
  refine take_ (i := 1) (N := some 4) (v := ?_) (a' := ?_) #[true, true, false, true, false, false, true, false, false, true, false, false, false, false, false, false, false, false, false, false] rfl rfl (take_ofW HT_.out HW_.out (by kernel_rfl)) (fun _ _ _ h => h) (Or.inl ⟨by rfl, ?_⟩) hHeld ?_ ?_
  rotate_left
  · rintro w' ⟨s0, s1, s2, s3, s4, s5, s6, s7, s8, s9, s10, s11, s12, s13⟩
    go_simp
    with_reducible rfl
  rotate_left
  · simp only [Act.put, List.setIfInBounds_toArray, List.set_cons_zero, List.set_cons_succ, i64_w, i32_w]
    rfl
  refine take_ (i := 4) (N := some 7) (v := ?_) (a' := ?_) #[true, true, false, true, true, false, true, false, false, true, false, false, false, false, false, false, false, false, false, false] rfl rfl (take_ofW HT_.out HW_.out (by kernel_rfl)) (fun _ _ _ h => h) (Or.inl ⟨by rfl, ?_⟩) hHeld ?_ ?_
  rotate_left
  · rintro w' ⟨s0, s1, s2, s3, s4, s5, s6, s7, s8, s9, s10, s11, s12, s13⟩
    go_simp
    with_reducible rfl
  rotate_left
  · simp only [Act.put, List.setIfInBounds_toArray, List.set_cons_zero, List.set_cons_succ, i64_w, i32_w]
    rfl
  refine take_ (i := 7) (N := some 10) (v := ?_) (a' := ?_) #[true, true, false, true, true, false, true, true, false, true, false, false, false, false, false, false, false, false, false, false] rfl rfl (take_ofW HT_.out HW_.out (by kernel_rfl)) (fun _ _ _ h => h) (Or.inl ⟨by rfl, ?_⟩) hHeld ?_ ?_
  rotate_left
  · rintro w' ⟨s0, s1, s2, s3, s4, s5, s6, s7, s8, s9, s10, s11, s12, s13⟩
    go_simp
    with_reducible rfl
  rotate_left
  · simp only [Act.put, List.setIfInBounds_toArray, List.set_cons_zero, List.set_cons_succ, i64_w, i32_w]
    rfl
  refine take_ (i := 10) (N := some 13) (v := ?_) (a' := ?_) #[true, true, false, true, true, false, true, true, false, true, true, false, false, false, false, false, false, false, false, false] rfl rfl (take_ofW HT_.out HW_.out (by kernel_rfl)) (fun _ _ _ h => h) (Or.inl ⟨by rfl, ?_⟩) hHeld ?_ ?_
  rotate_left
  · rintro w' ⟨s0, s1, s2, s3, s4, s5, s6, s7, s8, s9, s10, s11, s12, s13⟩
    go_simp
    with_reducible rfl
  rotate_left
  · simp only [Act.put, List.setIfInBounds_toArray, List.set_cons_zero, List.set_cons_succ, i64_w, i32_w]
    rfl
  refine one_ (i := 2) (N := some 5) #[true, true, true, true, true, false, true, true, false, true, true, false, false, false, false, false, false, false, false, false] rfl rfl (one_of HT_.out (by kernel_rfl)) (by decide) (fun K hK => ?_)
  refine goes_ Tryd.func26 (by kernel_rfl) rfl #[.int .i64 a0_0, .int .i64 3] (by rfl) rfl rfl (by (try simp only [List.map_toArray, List.map_cons, List.map_nil]); first | done | rfl | (simp only [List.length_drop, List.length_take]; rfl)) ?_
  with_reducible refine (naskhplain_held.calls a0_0 3 t182 _ A2.out).mono ?_
  rintro e w' ⟨rfl, ⟨nd, rfl⟩⟩
  refine ⟨_, rfl, ?_⟩
  refine hK.out _ _ ⟨(blk_cell BK180.out 0).trans rfl, (blk_cell BK180.out 1).trans rfl, (blk_cell BK180.out 2).trans rfl, (blk_cell BK180.out 3).trans rfl, (blk_cell BK180.out 4).trans rfl, (blk_cell BK180.out 5).trans rfl, (blk_cell BK180.out 6).trans rfl, (blk_cell BK180.out 7).trans rfl, (blk_cell BK180.out 8).trans rfl, (blk_cell BK180.out 9).trans rfl, (blk_cell BK180.out 10).trans rfl, (blk_cell BK180.out 11).trans rfl, (blk_cell BK180.out 12).trans rfl, (blk_cell BK180.out 13).trans rfl⟩ (fun hHeld => ?_)
  clear hK K
  refine norm_ (a' := ?_) ?_ ?_
  rotate_left
  · show Act.put _ (some 5) _ = _
    simp only [Act.put, List.setIfInBounds_toArray, List.set_cons_zero, List.set_cons_succ, i64_w, i32_w]
    rfl
  refine pure_ (i := 12) (N := some 15) (v := ?_) (a' := ?_) #[true, true, true, true, true, false, true, true, false, true, true, false, true, false, false, false, false, false, false, false] rfl rfl (any_of HT_.out (by kernel_rfl)) (fun _ _ _ h => h) (Or.inl ⟨by rfl, ?_⟩) ?_ ?_
  rotate_left
  · intro w'
    go_simp
    with_reducible rfl
  rotate_left
  · simp only [Act.put, List.setIfInBounds_toArray, List.set_cons_zero, List.set_cons_succ, i64_w, i32_w]
    rfl
  refine one_ (i := 5) (N := some 8) #[true, true, true, true, true, true, true, true, false, true, true, false, true, false, false, false, false, false, false, false] rfl rfl (one_of HT_.out (by kernel_rfl)) (by decide) (fun K hK => ?_)
  refine goes_ Tryd.func26 (by kernel_rfl) rfl #[.int .i64 a0_1, .int .i64 4] (by rfl) rfl rfl (by (try simp only [List.map_toArray, List.map_cons, List.map_nil]); first | done | rfl | (simp only [List.length_drop, List.length_take]; rfl)) ?_
  with_reducible refine (naskhplain_held.calls a0_1 4 t183 _ A3.out).mono ?_
  rintro e w' ⟨rfl, ⟨nd, rfl⟩⟩
  refine ⟨_, rfl, ?_⟩
  refine hK.out _ _ ⟨(blk_cell BK180.out 0).trans rfl, (blk_cell BK180.out 1).trans rfl, (blk_cell BK180.out 2).trans rfl, (blk_cell BK180.out 3).trans rfl, (blk_cell BK180.out 4).trans rfl, (blk_cell BK180.out 5).trans rfl, (blk_cell BK180.out 6).trans rfl, (blk_cell BK180.out 7).trans rfl, (blk_cell BK180.out 8).trans rfl, (blk_cell BK180.out 9).trans rfl, (blk_cell BK180.out 10).trans rfl, (blk_cell BK180.out 11).trans rfl, (blk_cell BK180.out 12).trans rfl, (blk_cell BK180.out 13).trans rfl⟩ (fun hHeld => ?_)
  clear hK K
  refine norm_ (a' := ?_) ?_ ?_
  rotate_left
  · show Act.put _ (some 8) _ = _
    simp only [Act.put, List.setIfInBounds_toArray, List.set_cons_zero, List.set_cons_succ, i64_w, i32_w]
    rfl
  refine one_ (i := 8) (N := some 11) #[true, true, true, true, true, true, true, true, true, true, true, false, true, false, false, false, false, false, false, false] rfl rfl (one_of HT_.out (by kernel_rfl)) (by decide) (fun K hK => ?_)
  refine goes_ Tryd.func26 (by kernel_rfl) rfl #[.int .i64 a0_2, .int .i64 4] (by rfl) rfl rfl (by (try simp only [List.map_toArray, List.map_cons, List.map_nil]); first | done | rfl | (simp only [List.length_drop, List.length_take]; rfl)) ?_
  with_reducible refine (naskhplain_held.calls a0_2 4 t184 _ A4.out).mono ?_
  rintro e w' ⟨rfl, ⟨nd, rfl⟩⟩
  refine ⟨_, rfl, ?_⟩
  refine hK.out _ _ ⟨(blk_cell BK180.out 0).trans rfl, (blk_cell BK180.out 1).trans rfl, (blk_cell BK180.out 2).trans rfl, (blk_cell BK180.out 3).trans rfl, (blk_cell BK180.out 4).trans rfl, (blk_cell BK180.out 5).trans rfl, (blk_cell BK180.out 6).trans rfl, (blk_cell BK180.out 7).trans rfl, (blk_cell BK180.out 8).trans rfl, (blk_cell BK180.out 9).trans rfl, (blk_cell BK180.out 10).trans rfl, (blk_cell BK180.out 11).trans rfl, (blk_cell BK180.out 12).trans rfl, (blk_cell BK180.out 13).trans rfl⟩ (fun hHeld => ?_)
  clear hK K
  refine norm_ (a' := ?_) ?_ ?_
  rotate_left
  · show Act.put _ (some 11) _ = _
    simp only [Act.put, List.setIfInBounds_toArray, List.set_cons_zero, List.set_cons_succ, i64_w, i32_w]
    rfl
  refine one_ (i := 11) (N := some 14) #[true, true, true, true, true, true, true, true, true, true, true, true, true, false, false, false, false, false, false, false] rfl rfl (one_of HT_.out (by kernel_rfl)) (by decide) (fun K hK => ?_)
  refine goes_ Tryd.func26 (by kernel_rfl) rfl #[.int .i64 a0_3, .int .i64 4] (by rfl) rfl rfl (by (try simp only [List.map_toArray, List.map_cons, List.map_nil]); first | done | rfl | (simp only [List.length_drop, List.length_take]; rfl)) ?_
  with_reducible refine (naskhplain_held.calls a0_3 4 t185 _ A5.out).mono ?_
  rintro e w' ⟨rfl, ⟨nd, rfl⟩⟩
  refine ⟨_, rfl, ?_⟩
  refine hK.out _ _ ⟨(blk_cell BK180.out 0).trans rfl, (blk_cell BK180.out 1).trans rfl, (blk_cell BK180.out 2).trans rfl, (blk_cell BK180.out 3).trans rfl, (blk_cell BK180.out 4).trans rfl, (blk_cell BK180.out 5).trans rfl, (blk_cell BK180.out 6).trans rfl, (blk_cell BK180.out 7).trans rfl, (blk_cell BK180.out 8).trans rfl, (blk_cell BK180.out 9).trans rfl, (blk_cell BK180.out 10).trans rfl, (blk_cell BK180.out 11).trans rfl, (blk_cell BK180.out 12).trans rfl, (blk_cell BK180.out 13).trans rfl⟩ (fun hHeld => ?_)
  clear hK K
  refine norm_ (a' := ?_) ?_ ?_
  rotate_left
  · show Act.put _ (some 14) _ = _
    simp only [Act.put, List.setIfInBounds_toArray, List.set_cons_zero, List.set_cons_succ, i64_w, i32_w]
    rfl
  refine last_ (i := 13) (N := none) #[true, true, true, true, true, true, true, true, true, true, true, true, true, true, false, false, false, false, false, false] rfl rfl (one_of HT_.out (by kernel_rfl)) (by decide) (fun K hK => ?_)
  have hs10 : w9.cell? ⟨gb180, 0, none⟩ = some (.int .i64 a0_0) := (blk_cell BK180.out 0).trans rfl
  have hfs10 := blk_frozen BK180.out 0
  have hns10_1 := NB181_180.out
  have hms10_1 := NB180_181.out
  refine skip_ (w1 := ?_) (by rfl) rfl ?_ ?_
  rotate_left
  · go_simp
    rfl
  refine hK.out _ _ ?_
  clear hK K
  refine pure_ (i := 14) (N := some 16) (v := ?_) (a' := ?_) #[true, true, true, true, true, true, true, true, true, true, true, true, true, true, true, false, false, false, false, false] rfl rfl (any_of HT_.out (by kernel_rfl)) (fun _ _ _ h => h) (Or.inl ⟨by rfl, ?_⟩) ?_ ?_
  rotate_left
  · intro w'
    go_simp
    with_reducible rfl
  rotate_left
  · simp only [Act.put, List.setIfInBounds_toArray, List.set_cons_zero, List.set_cons_succ, i64_w, i32_w]
    rfl
  refine last_ (i := 15) (N := none) #[true, true, true, true, true, true, true, true, true, true, true, true, true, true, true, true, false, false, false, false] rfl rfl (one_of HT_.out (by kernel_rfl)) (by decide) (fun K hK => ?_)
  have hs11 : w9.cell? ⟨gb180, 1, none⟩ = some (.int .i64 a0_1) := (blk_cell BK180.out 1).trans rfl
  have hfs11 := blk_frozen BK180.out 1
  have hns11_1 := NB181_180.out
  have hms11_1 := NB180_181.out
  refine skip_ (w1 := ?_) (by rfl) rfl ?_ ?_
  rotate_left
  · go_simp
    rfl
  refine hK.out _ _ ?_
  clear hK K
  refine pure_ (i := 16) (N := some 17) (v := ?_) (a' := ?_) #[true, true, true, true, true, true, true, true, true, true, true, true, true, true, true, true, true, false, false, false] rfl rfl (any_of HT_.out (by kernel_rfl)) (fun _ _ _ h => h) (Or.inl ⟨by rfl, ?_⟩) ?_ ?_
  rotate_left
  · intro w'
    go_simp
    with_reducible rfl
  rotate_left
  · simp only [Act.put, List.setIfInBounds_toArray, List.set_cons_zero, List.set_cons_succ, i64_w, i32_w]
    rfl
  refine last_ (i := 17) (N := none) #[true, true, true, true, true, true, true, true, true, true, true, true, true, true, true, true, true, true, false, false] rfl rfl (one_of HT_.out (by kernel_rfl)) (by decide) (fun K hK => ?_)
  have hs12 : w9.cell? ⟨gb180, 2, none⟩ = some (.int .i64 a0_2) := (blk_cell BK180.out 2).trans rfl
  have hfs12 := blk_frozen BK180.out 2
  have hns12_1 := NB181_180.out
  have hms12_1 := NB180_181.out
  refine skip_ (w1 := ?_) (by rfl) rfl ?_ ?_
  rotate_left
  · go_simp
    rfl
  refine hK.out _ _ ?_
  clear hK K
  refine pure_ (i := 18) (N := some 18) (v := ?_) (a' := ?_) #[true, true, true, true, true, true, true, true, true, true, true, true, true, true, true, true, true, true, true, false] rfl rfl (any_of HT_.out (by kernel_rfl)) (fun _ _ _ h => h) (Or.inl ⟨by rfl, ?_⟩) ?_ ?_
  rotate_left
  · intro w'
    go_simp
    with_reducible rfl
  rotate_left
  · simp only [Act.put, List.setIfInBounds_toArray, List.set_cons_zero, List.set_cons_succ, i64_w, i32_w]
    rfl
  refine last_ (i := 19) (N := none) #[true, true, true, true, true, true, true, true, true, true, true, true, true, true, true, true, true, true, true, true] rfl rfl (one_of HT_.out (by kernel_rfl)) (by decide) (fun K hK => ?_)
  have hs13 : w9.cell? ⟨gb180, 3, none⟩ = some (.int .i64 a0_3) := (blk_cell BK180.out 3).trans rfl
  have hfs13 := blk_frozen BK180.out 3
  have hns13_1 := NB181_180.out
  have hms13_1 := NB180_181.out
  refine skip_ (w1 := ?_) (by rfl) rfl ?_ ?_
  rotate_left
  · go_simp
    rfl
  refine hK.out _ _ ?_
  clear hK K
  refine done_ (done_of HT_.out (by kernel_rfl)) ?_
  have hnb14 := NB180_181.out
  have hnc14 := NB181_180.out
  have hcz15_0 : w9.cell? ⟨gb180, 0, none⟩ = some (.int .i64 a0_0) := (blk_cell BK180.out 0).trans rfl
  have hcz15_1 : w9.cell? ⟨gb180, 1, none⟩ = some (.int .i64 a0_1) := (blk_cell BK180.out 1).trans rfl
  have hcz15_2 : w9.cell? ⟨gb180, 2, none⟩ = some (.int .i64 a0_2) := (blk_cell BK180.out 2).trans rfl
  have hcz15_3 : w9.cell? ⟨gb180, 3, none⟩ = some (.int .i64 a0_3) := (blk_cell BK180.out 3).trans rfl
  have hcz15_4 : w9.cell? ⟨gb180, 4, none⟩ = some (.bool a0_4) := (blk_cell BK180.out 4).trans rfl
  have hcz15_5 : w9.cell? ⟨gb180, 5, none⟩ = some (.bool a0_5) := (blk_cell BK180.out 5).trans rfl
  have hcz15_6 : w9.cell? ⟨gb180, 6, none⟩ = some (.bool a0_6) := (blk_cell BK180.out 6).trans rfl
  have hcz15_7 : w9.cell? ⟨gb180, 7, none⟩ = some (.bool a0_7) := (blk_cell BK180.out 7).trans rfl
  have hcz15_8 : w9.cell? ⟨gb180, 8, none⟩ = some (.bool a0_8) := (blk_cell BK180.out 8).trans rfl
  have hcz15_9 : w9.cell? ⟨gb180, 9, none⟩ = some (.bool a0_9) := (blk_cell BK180.out 9).trans rfl
  have hcz15_10 : w9.cell? ⟨gb180, 10, none⟩ = some (.bool a0_10) := (blk_cell BK180.out 10).trans rfl
  have hcz15_11 : w9.cell? ⟨gb180, 11, none⟩ = some (.bool a0_11) := (blk_cell BK180.out 11).trans rfl
  have hcz15_12 : w9.cell? ⟨gb180, 12, none⟩ = some (.bool a0_12) := (blk_cell BK180.out 12).trans rfl
  have hcz15_13 : w9.cell? ⟨gb180, 13, none⟩ = some (.bool a0_13) := (blk_cell BK180.out 13).trans rfl
  have hfz15_0 := blk_frozen BK180.out 0
  have hfz15_1 := blk_frozen BK180.out 1
  have hfz15_2 := blk_frozen BK180.out 2
  have hfz15_3 := blk_frozen BK180.out 3
  have hfz15_4 := blk_frozen BK180.out 4
  have hfz15_5 := blk_frozen BK180.out 5
  have hfz15_6 := blk_frozen BK180.out 6
  have hfz15_7 := blk_frozen BK180.out 7
  have hfz15_8 := blk_frozen BK180.out 8
  have hfz15_9 := blk_frozen BK180.out 9
  have hfz15_10 := blk_frozen BK180.out 10
  have hfz15_11 := blk_frozen BK180.out 11
  have hfz15_12 := blk_frozen BK180.out 12
  have hfz15_13 := blk_frozen BK180.out 13
  go_upto_if 21 with (fail)
  go_cut [] (fun wc => ∃ (kq : Nat) (x181001_5 : Int) (x181002_5 : Int) (x181007_5 : Bool) (x181008_5 : Bool) (x181009_5 : Bool), Aside0 (naskhplain_Right.j0 kq t182 x181001_5 x181002_5 t185 a0_4 a0_5 a0_6 x181007_5 x181008_5 x181009_5 a0_10 a0_11 a0_12 a0_13 = some (r1, r2, r3, r4, r5, r6, r7, r8, r9, r10, r11, r12, r13, r14)) ∧ Aside0 (kq ≤ k) ∧ Aside0 (wc.heap[gb180]? = some (.cells #[.int .i64 t182, .int .i64 x181001_5, .int .i64 x181002_5, .int .i64 t185, .bool a0_4, .bool a0_5, .bool a0_6, .bool x181007_5, .bool x181008_5, .bool x181009_5, .bool a0_10, .bool a0_11, .bool a0_12, .bool a0_13] 24 (0, 0))) ∧ Aside0 (wc.heap[gb181]? = some (.cells #[.int .i64 0, .int .i64 0, .int .i64 0, .int .i64 0, .bool false, .bool false, .bool false, .bool false, .bool false, .bool false, .bool false, .bool false, .bool false, .bool false] 24 (0, 0))) ∧ Aside0 (Below w.heap.size w wc))
  case first =>
    have H := HC6.out
    clear HC6
    by_cases c16 : a0_5 = true
    · subst c16
      have H1 : (naskhplain_Right.j0 k t182 t183 t184 t185 a0_4 true a0_6 a0_7 a0_8 a0_9 a0_10 a0_11 a0_12 a0_13) = some (r1, r2, r3, r4, r5, r6, r7, r8, r9, r10, r11, r12, r13, r14) := by rw [if_pos rfl] at H; exact H
      clear H
      have H := H1
      clear H1
      have H' := Aside0.mk H
      clear H
      go_wp2
      go_meet
      case rel => exact ⟨_, (t183), (t184), (a0_7), (a0_8), (a0_9), H', ⟨by first | omega | exact Nat.le_refl _⟩, ⟨by (with_reducible repeat (first | refine blk_drewN ?_ _ | refine blk_drew ?_ | refine blk_alloc ?_ _)); refine blk_put (cs := #[.int .i64 t182, .int .i64 t183, .int .i64 t184, .int .i64 a0_3, .bool a0_4, .bool true, .bool a0_6, .bool a0_7, .bool a0_8, .bool a0_9, .bool a0_10, .bool a0_11, .bool a0_12, .bool a0_13]) ?_ 3 _ rfl; (with_reducible repeat (first | refine blk_drewN ?_ _ | refine blk_drew ?_ | refine blk_alloc ?_ _)); refine blk_put (cs := #[.int .i64 t182, .int .i64 t183, .int .i64 a0_2, .int .i64 a0_3, .bool a0_4, .bool true, .bool a0_6, .bool a0_7, .bool a0_8, .bool a0_9, .bool a0_10, .bool a0_11, .bool a0_12, .bool a0_13]) ?_ 2 _ rfl; (with_reducible repeat (first | refine blk_drewN ?_ _ | refine blk_drew ?_ | refine blk_alloc ?_ _)); refine blk_put (cs := #[.int .i64 t182, .int .i64 a0_1, .int .i64 a0_2, .int .i64 a0_3, .bool a0_4, .bool true, .bool a0_6, .bool a0_7, .bool a0_8, .bool a0_9, .bool a0_10, .bool a0_11, .bool a0_12, .bool a0_13]) ?_ 1 _ rfl; (with_reducible repeat (first | refine blk_drewN ?_ _ | refine blk_drew ?_ | refine blk_alloc ?_ _)); refine blk_put (cs := #[.int .i64 a0_0, .int .i64 a0_1, .int .i64 a0_2, .int .i64 a0_3, .bool a0_4, .bool true, .bool a0_6, .bool a0_7, .bool a0_8, .bool a0_9, .bool a0_10, .bool a0_11, .bool a0_12, .bool a0_13]) ?_ 0 _ rfl; (with_reducible repeat (first | refine blk_drewN ?_ _ | refine blk_drew ?_ | refine blk_alloc ?_ _)); exact BK180.out⟩, ⟨by (with_reducible repeat (first | refine blk_drewN ?_ _ | refine blk_drew ?_ | refine blk_alloc ?_ _)); refine blk_far ?_ NB181_180.out _; (with_reducible repeat (first | refine blk_drewN ?_ _ | refine blk_drew ?_ | refine blk_alloc ?_ _)); refine blk_far ?_ NB181_180.out _; (with_reducible repeat (first | refine blk_drewN ?_ _ | refine blk_drew ?_ | refine blk_alloc ?_ _)); refine blk_far ?_ NB181_180.out _; (with_reducible repeat (first | refine blk_drewN ?_ _ | refine blk_drew ?_ | refine blk_alloc ?_ _)); refine blk_far ?_ NB181_180.out _; (with_reducible repeat (first | refine blk_drewN ?_ _ | refine blk_drew ?_ | refine blk_alloc ?_ _)); exact BK181.out⟩, ⟨by repeat (first | (with_reducible first | exact HB.out | apply below_alloc | apply pw_below_drewN | apply below_drew1 | refine below_set ?_ GE180.out | refine below_set ?_ GE181.out) | exact HB.out)⟩⟩
    · replace c16 := Bool.eq_false_iff.mpr c16
      subst c16
      have H1 : (naskhplain_Right.j0 k t182 0 0 t185 a0_4 false a0_6 false false false a0_10 a0_11 a0_12 a0_13) = some (r1, r2, r3, r4, r5, r6, r7, r8, r9, r10, r11, r12, r13, r14) := by rw [if_neg (show ¬ (false = true) by decide)] at H; exact H
      clear H
      have H := H1
      clear H1
      have H' := Aside0.mk H
      clear H
      have hnb17 := NB180_181.out
      have hnc17 := NB181_180.out
      have hcz18_0 : w9.cell? ⟨gb180, 0, none⟩ = some (.int .i64 a0_0) := (blk_cell BK180.out 0).trans rfl
      have hcz18_1 : w9.cell? ⟨gb180, 1, none⟩ = some (.int .i64 a0_1) := (blk_cell BK180.out 1).trans rfl
      have hcz18_2 : w9.cell? ⟨gb180, 2, none⟩ = some (.int .i64 a0_2) := (blk_cell BK180.out 2).trans rfl
      have hcz18_3 : w9.cell? ⟨gb180, 3, none⟩ = some (.int .i64 a0_3) := (blk_cell BK180.out 3).trans rfl
      have hcz18_4 : w9.cell? ⟨gb180, 4, none⟩ = some (.bool a0_4) := (blk_cell BK180.out 4).trans rfl
      have hcz18_5 : w9.cell? ⟨gb180, 5, none⟩ = some (.bool false) := (blk_cell BK180.out 5).trans rfl
      have hcz18_6 : w9.cell? ⟨gb180, 6, none⟩ = some (.bool a0_6) := (blk_cell BK180.out 6).trans rfl
      have hcz18_7 : w9.cell? ⟨gb180, 7, none⟩ = some (.bool a0_7) := (blk_cell BK180.out 7).trans rfl
      have hcz18_8 : w9.cell? ⟨gb180, 8, none⟩ = some (.bool a0_8) := (blk_cell BK180.out 8).trans rfl
      have hcz18_9 : w9.cell? ⟨gb180, 9, none⟩ = some (.bool a0_9) := (blk_cell BK180.out 9).trans rfl
      have hcz18_10 : w9.cell? ⟨gb180, 10, none⟩ = some (.bool a0_10) := (blk_cell BK180.out 10).trans rfl
      have hcz18_11 : w9.cell? ⟨gb180, 11, none⟩ = some (.bool a0_11) := (blk_cell BK180.out 11).trans rfl
      have hcz18_12 : w9.cell? ⟨gb180, 12, none⟩ = some (.bool a0_12) := (blk_cell BK180.out 12).trans rfl
      have hcz18_13 : w9.cell? ⟨gb180, 13, none⟩ = some (.bool a0_13) := (blk_cell BK180.out 13).trans rfl
      have hfz18_0 := blk_frozen BK180.out 0
      have hfz18_1 := blk_frozen BK180.out 1
      have hfz18_2 := blk_frozen BK180.out 2
      have hfz18_3 := blk_frozen BK180.out 3
      have hfz18_4 := blk_frozen BK180.out 4
      have hfz18_5 := blk_frozen BK180.out 5
      have hfz18_6 := blk_frozen BK180.out 6
      have hfz18_7 := blk_frozen BK180.out 7
      have hfz18_8 := blk_frozen BK180.out 8
      have hfz18_9 := blk_frozen BK180.out 9
      have hfz18_10 := blk_frozen BK180.out 10
      have hfz18_11 := blk_frozen BK180.out 11
      have hfz18_12 := blk_frozen BK180.out 12
      have hfz18_13 := blk_frozen BK180.out 13
      go_wp2
      go_meet
      case rel => exact ⟨_, (0), (0), (false), (false), (false), H', ⟨by first | omega | exact Nat.le_refl _⟩, ⟨by (with_reducible repeat (first | refine blk_drewN ?_ _ | refine blk_drew ?_ | refine blk_alloc ?_ _)); refine blk_put (cs := #[.int .i64 t182, .int .i64 0, .int .i64 0, .int .i64 t185, .bool a0_4, .bool false, .bool a0_6, .bool false, .bool false, .bool a0_9, .bool a0_10, .bool a0_11, .bool a0_12, .bool a0_13]) ?_ 9 _ rfl; (with_reducible repeat (first | refine blk_drewN ?_ _ | refine blk_drew ?_ | refine blk_alloc ?_ _)); refine blk_put (cs := #[.int .i64 t182, .int .i64 0, .int .i64 0, .int .i64 t185, .bool a0_4, .bool false, .bool a0_6, .bool false, .bool a0_8, .bool a0_9, .bool a0_10, .bool a0_11, .bool a0_12, .bool a0_13]) ?_ 8 _ rfl; (with_reducible repeat (first | refine blk_drewN ?_ _ | refine blk_drew ?_ | refine blk_alloc ?_ _)); refine blk_put (cs := #[.int .i64 t182, .int .i64 0, .int .i64 0, .int .i64 t185, .bool a0_4, .bool false, .bool a0_6, .bool a0_7, .bool a0_8, .bool a0_9, .bool a0_10, .bool a0_11, .bool a0_12, .bool a0_13]) ?_ 7 _ rfl; (with_reducible repeat (first | refine blk_drewN ?_ _ | refine blk_drew ?_ | refine blk_alloc ?_ _)); refine blk_put (cs := #[.int .i64 t182, .int .i64 0, .int .i64 t184, .int .i64 t185, .bool a0_4, .bool false, .bool a0_6, .bool a0_7, .bool a0_8, .bool a0_9, .bool a0_10, .bool a0_11, .bool a0_12, .bool a0_13]) ?_ 2 _ rfl; (with_reducible repeat (first | refine blk_drewN ?_ _ | refine blk_drew ?_ | refine blk_alloc ?_ _)); refine blk_put (cs := #[.int .i64 t182, .int .i64 t183, .int .i64 t184, .int .i64 t185, .bool a0_4, .bool false, .bool a0_6, .bool a0_7, .bool a0_8, .bool a0_9, .bool a0_10, .bool a0_11, .bool a0_12, .bool a0_13]) ?_ 1 _ rfl; (with_reducible repeat (first | refine blk_drewN ?_ _ | refine blk_drew ?_ | refine blk_alloc ?_ _)); refine blk_put (cs := #[.int .i64 t182, .int .i64 t183, .int .i64 t184, .int .i64 a0_3, .bool a0_4, .bool false, .bool a0_6, .bool a0_7, .bool a0_8, .bool a0_9, .bool a0_10, .bool a0_11, .bool a0_12, .bool a0_13]) ?_ 3 _ rfl; (with_reducible repeat (first | refine blk_drewN ?_ _ | refine blk_drew ?_ | refine blk_alloc ?_ _)); refine blk_put (cs := #[.int .i64 t182, .int .i64 t183, .int .i64 a0_2, .int .i64 a0_3, .bool a0_4, .bool false, .bool a0_6, .bool a0_7, .bool a0_8, .bool a0_9, .bool a0_10, .bool a0_11, .bool a0_12, .bool a0_13]) ?_ 2 _ rfl; (with_reducible repeat (first | refine blk_drewN ?_ _ | refine blk_drew ?_ | refine blk_alloc ?_ _)); refine blk_put (cs := #[.int .i64 t182, .int .i64 a0_1, .int .i64 a0_2, .int .i64 a0_3, .bool a0_4, .bool false, .bool a0_6, .bool a0_7, .bool a0_8, .bool a0_9, .bool a0_10, .bool a0_11, .bool a0_12, .bool a0_13]) ?_ 1 _ rfl; (with_reducible repeat (first | refine blk_drewN ?_ _ | refine blk_drew ?_ | refine blk_alloc ?_ _)); refine blk_put (cs := #[.int .i64 a0_0, .int .i64 a0_1, .int .i64 a0_2, .int .i64 a0_3, .bool a0_4, .bool false, .bool a0_6, .bool a0_7, .bool a0_8, .bool a0_9, .bool a0_10, .bool a0_11, .bool a0_12, .bool a0_13]) ?_ 0 _ rfl; (with_reducible repeat (first | refine blk_drewN ?_ _ | refine blk_drew ?_ | refine blk_alloc ?_ _)); exact BK180.out⟩, ⟨by (with_reducible repeat (first | refine blk_drewN ?_ _ | refine blk_drew ?_ | refine blk_alloc ?_ _)); refine blk_far ?_ NB181_180.out _; (with_reducible repeat (first | refine blk_drewN ?_ _ | refine blk_drew ?_ | refine blk_alloc ?_ _)); refine blk_far ?_ NB181_180.out _; (with_reducible repeat (first | refine blk_drewN ?_ _ | refine blk_drew ?_ | refine blk_alloc ?_ _)); refine blk_far ?_ NB181_180.out _; (with_reducible repeat (first | refine blk_drewN ?_ _ | refine blk_drew ?_ | refine blk_alloc ?_ _)); refine blk_far ?_ NB181_180.out _; (with_reducible repeat (first | refine blk_drewN ?_ _ | refine blk_drew ?_ | refine blk_alloc ?_ _)); refine blk_far ?_ NB181_180.out _; (with_reducible repeat (first | refine blk_drewN ?_ _ | refine blk_drew ?_ | refine blk_alloc ?_ _)); refine blk_far ?_ NB181_180.out _; (with_reducible repeat (first | refine blk_drewN ?_ _ | refine blk_drew ?_ | refine blk_alloc ?_ _)); refine blk_far ?_ NB181_180.out _; (with_reducible repeat (first | refine blk_drewN ?_ _ | refine blk_drew ?_ | refine blk_alloc ?_ _)); refine blk_far ?_ NB181_180.out _; (with_reducible repeat (first | refine blk_drewN ?_ _ | refine blk_drew ?_ | refine blk_alloc ?_ _)); refine blk_far ?_ NB181_180.out _; (with_reducible repeat (first | refine blk_drewN ?_ _ | refine blk_drew ?_ | refine blk_alloc ?_ _)); exact BK181.out⟩, ⟨by repeat (first | (with_reducible first | exact HB.out | apply below_alloc | apply pw_below_drewN | apply below_drew1 | refine below_set ?_ GE180.out | refine below_set ?_ GE181.out) | exact HB.out)⟩⟩
  case rest =>
    clear HC6
    try clear c1
    try clear c2
    try clear p2
    try clear c12
    try clear c14
    try clear c16
    try clear c17
    try clear hcz15_0
    try clear hcz15_1
    try clear hcz15_10
    try clear hcz15_11
    try clear hcz15_12
    try clear hcz15_13
    try clear hcz15_2
    try clear hcz15_3
    try clear hcz15_4
    try clear hcz15_5
    try clear hcz15_6
    try clear hcz15_7
    try clear hcz15_8
    try clear hcz15_9
    try clear hcz18_0
    try clear hcz18_1
    try clear hcz18_10
    try clear hcz18_11
    try clear hcz18_12
    try clear hcz18_13
    try clear hcz18_2
    try clear hcz18_3
    try clear hcz18_4
    try clear hcz18_5
    try clear hcz18_6
    try clear hcz18_7
    try clear hcz18_8
    try clear hcz18_9
    try clear hfz15_0
    try clear hfz15_1
    try clear hfz15_10
    try clear hfz15_11
    try clear hfz15_12
    try clear hfz15_13
    try clear hfz15_2
    try clear hfz15_3
    try clear hfz15_4
    try clear hfz15_5
    try clear hfz15_6
    try clear hfz15_7
    try clear hfz15_8
    try clear hfz15_9
    try clear hfz18_0
    try clear hfz18_1
    try clear hfz18_10
    try clear hfz18_11
    try clear hfz18_12
    try clear hfz18_13
    try clear hfz18_2
    try clear hfz18_3
    try clear hfz18_4
    try clear hfz18_5
    try clear hfz18_6
    try clear hfz18_7
    try clear hfz18_8
    try clear hfz18_9
    obtain ⟨kq, x181001_5, x181002_5, x181007_5, x181008_5, x181009_5, HA, HJ5, BK180, BK181, HB⟩ := hcut
    cases kq with
    | zero => exact absurd HA.out (by simp [naskhplain_Right.j0])
    | succ kj5 =>
      have H := HA.out
      clear HA
      simp only [naskhplain_Right.j0] at H
      have HC19 := Aside0.mk H
      clear H
      have hnb20 := NB180_181.out
      have hnc20 := NB181_180.out
      have hcz21_0 : wc.cell? ⟨gb180, 0, none⟩ = some (.int .i64 t182) := (blk_cell BK180.out 0).trans rfl
      have hcz21_1 : wc.cell? ⟨gb180, 1, none⟩ = some (.int .i64 x181001_5) := (blk_cell BK180.out 1).trans rfl
      have hcz21_2 : wc.cell? ⟨gb180, 2, none⟩ = some (.int .i64 x181002_5) := (blk_cell BK180.out 2).trans rfl
      have hcz21_3 : wc.cell? ⟨gb180, 3, none⟩ = some (.int .i64 t185) := (blk_cell BK180.out 3).trans rfl
      have hcz21_4 : wc.cell? ⟨gb180, 4, none⟩ = some (.bool a0_4) := (blk_cell BK180.out 4).trans rfl
      have hcz21_5 : wc.cell? ⟨gb180, 5, none⟩ = some (.bool a0_5) := (blk_cell BK180.out 5).trans rfl
      have hcz21_6 : wc.cell? ⟨gb180, 6, none⟩ = some (.bool a0_6) := (blk_cell BK180.out 6).trans rfl
      have hcz21_7 : wc.cell? ⟨gb180, 7, none⟩ = some (.bool x181007_5) := (blk_cell BK180.out 7).trans rfl
      have hcz21_8 : wc.cell? ⟨gb180, 8, none⟩ = some (.bool x181008_5) := (blk_cell BK180.out 8).trans rfl
      have hcz21_9 : wc.cell? ⟨gb180, 9, none⟩ = some (.bool x181009_5) := (blk_cell BK180.out 9).trans rfl
      have hcz21_10 : wc.cell? ⟨gb180, 10, none⟩ = some (.bool a0_10) := (blk_cell BK180.out 10).trans rfl
      have hcz21_11 : wc.cell? ⟨gb180, 11, none⟩ = some (.bool a0_11) := (blk_cell BK180.out 11).trans rfl
      have hcz21_12 : wc.cell? ⟨gb180, 12, none⟩ = some (.bool a0_12) := (blk_cell BK180.out 12).trans rfl
      have hcz21_13 : wc.cell? ⟨gb180, 13, none⟩ = some (.bool a0_13) := (blk_cell BK180.out 13).trans rfl
      have hfz21_0 := blk_frozen BK180.out 0
      have hfz21_1 := blk_frozen BK180.out 1
      have hfz21_2 := blk_frozen BK180.out 2
      have hfz21_3 := blk_frozen BK180.out 3
      have hfz21_4 := blk_frozen BK180.out 4
      have hfz21_5 := blk_frozen BK180.out 5
      have hfz21_6 := blk_frozen BK180.out 6
      have hfz21_7 := blk_frozen BK180.out 7
      have hfz21_8 := blk_frozen BK180.out 8
      have hfz21_9 := blk_frozen BK180.out 9
      have hfz21_10 := blk_frozen BK180.out 10
      have hfz21_11 := blk_frozen BK180.out 11
      have hfz21_12 := blk_frozen BK180.out 12
      have hfz21_13 := blk_frozen BK180.out 13
      go_upto_if 29 with (fail)
      go_cut [] (fun wc => ∃ (kq : Nat) (x181006_18 : Bool), Aside0 (naskhplain_Right.j1 kq t182 x181001_5 x181002_5 t185 a0_4 a0_5 x181006_18 x181007_5 x181008_5 x181009_5 a0_10 a0_11 a0_12 a0_13 = some (r1, r2, r3, r4, r5, r6, r7, r8, r9, r10, r11, r12, r13, r14)) ∧ Aside0 (kq ≤ kj5) ∧ Aside0 (wc.heap[gb180]? = some (.cells #[.int .i64 t182, .int .i64 x181001_5, .int .i64 x181002_5, .int .i64 t185, .bool a0_4, .bool a0_5, .bool x181006_18, .bool x181007_5, .bool x181008_5, .bool x181009_5, .bool a0_10, .bool a0_11, .bool a0_12, .bool a0_13] 24 (0, 0))) ∧ Aside0 (wc.heap[gb181]? = some (.cells #[.int .i64 0, .int .i64 0, .int .i64 0, .int .i64 0, .bool false, .bool false, .bool false, .bool false, .bool false, .bool false, .bool false, .bool false, .bool false, .bool false] 24 (0, 0))) ∧ Aside0 (Below w.heap.size w wc))
      case first =>
        have H := HC19.out
        clear HC19
        by_cases c22 : x181001_5 = 0
        · rw [if_pos c22] at H
          have c22b0 : (x181001_5 == 0) = true := beq_iff_eq.mpr c22
          have c22b1 : (x181001_5 != 0) = false := bne_eq_false_iff_eq.mpr c22
          clear c22
          (first | rw [c22b0] | (simp only [i64_w, i32_w]; rw [c22b0]) | skip)
          have H' := Aside0.mk H
          clear H
          have hnb23 := NB180_181.out
          have hnc23 := NB181_180.out
          have hcz24_0 : wc.cell? ⟨gb180, 0, none⟩ = some (.int .i64 t182) := (blk_cell BK180.out 0).trans rfl
          have hcz24_1 : wc.cell? ⟨gb180, 1, none⟩ = some (.int .i64 x181001_5) := (blk_cell BK180.out 1).trans rfl
          have hcz24_2 : wc.cell? ⟨gb180, 2, none⟩ = some (.int .i64 x181002_5) := (blk_cell BK180.out 2).trans rfl
          have hcz24_3 : wc.cell? ⟨gb180, 3, none⟩ = some (.int .i64 t185) := (blk_cell BK180.out 3).trans rfl
          have hcz24_4 : wc.cell? ⟨gb180, 4, none⟩ = some (.bool a0_4) := (blk_cell BK180.out 4).trans rfl
          have hcz24_5 : wc.cell? ⟨gb180, 5, none⟩ = some (.bool a0_5) := (blk_cell BK180.out 5).trans rfl
          have hcz24_6 : wc.cell? ⟨gb180, 6, none⟩ = some (.bool a0_6) := (blk_cell BK180.out 6).trans rfl
          have hcz24_7 : wc.cell? ⟨gb180, 7, none⟩ = some (.bool x181007_5) := (blk_cell BK180.out 7).trans rfl
          have hcz24_8 : wc.cell? ⟨gb180, 8, none⟩ = some (.bool x181008_5) := (blk_cell BK180.out 8).trans rfl
          have hcz24_9 : wc.cell? ⟨gb180, 9, none⟩ = some (.bool x181009_5) := (blk_cell BK180.out 9).trans rfl
          have hcz24_10 : wc.cell? ⟨gb180, 10, none⟩ = some (.bool a0_10) := (blk_cell BK180.out 10).trans rfl
          have hcz24_11 : wc.cell? ⟨gb180, 11, none⟩ = some (.bool a0_11) := (blk_cell BK180.out 11).trans rfl
          have hcz24_12 : wc.cell? ⟨gb180, 12, none⟩ = some (.bool a0_12) := (blk_cell BK180.out 12).trans rfl
          have hcz24_13 : wc.cell? ⟨gb180, 13, none⟩ = some (.bool a0_13) := (blk_cell BK180.out 13).trans rfl
          have hfz24_0 := blk_frozen BK180.out 0
          have hfz24_1 := blk_frozen BK180.out 1
          have hfz24_2 := blk_frozen BK180.out 2
          have hfz24_3 := blk_frozen BK180.out 3
          have hfz24_4 := blk_frozen BK180.out 4
          have hfz24_5 := blk_frozen BK180.out 5
          have hfz24_6 := blk_frozen BK180.out 6
          have hfz24_7 := blk_frozen BK180.out 7
          have hfz24_8 := blk_frozen BK180.out 8
          have hfz24_9 := blk_frozen BK180.out 9
          have hfz24_10 := blk_frozen BK180.out 10
          have hfz24_11 := blk_frozen BK180.out 11
          have hfz24_12 := blk_frozen BK180.out 12
          have hfz24_13 := blk_frozen BK180.out 13
          go_wp2
          go_meet
          case rel => exact ⟨_, (false), H', ⟨by have := HJ5.out; first | omega | exact Nat.le_refl _⟩, ⟨by (with_reducible repeat (first | refine blk_drewN ?_ _ | refine blk_drew ?_ | refine blk_alloc ?_ _)); refine blk_put (cs := #[.int .i64 t182, .int .i64 x181001_5, .int .i64 x181002_5, .int .i64 t185, .bool a0_4, .bool a0_5, .bool a0_6, .bool x181007_5, .bool x181008_5, .bool x181009_5, .bool a0_10, .bool a0_11, .bool a0_12, .bool a0_13]) ?_ 6 _ rfl; (with_reducible repeat (first | refine blk_drewN ?_ _ | refine blk_drew ?_ | refine blk_alloc ?_ _)); exact BK180.out⟩, ⟨by (with_reducible repeat (first | refine blk_drewN ?_ _ | refine blk_drew ?_ | refine blk_alloc ?_ _)); refine blk_far ?_ NB181_180.out _; (with_reducible repeat (first | refine blk_drewN ?_ _ | refine blk_drew ?_ | refine blk_alloc ?_ _)); exact BK181.out⟩, ⟨by repeat (first | (with_reducible first | exact HB.out | apply below_alloc | apply pw_below_drewN | apply below_drew1 | refine below_set ?_ GE180.out | refine below_set ?_ GE181.out) | exact HB.out)⟩⟩
        · rw [if_neg c22] at H
          have c22b0 : (x181001_5 == 0) = false := beq_eq_false_iff_ne.mpr c22
          have c22b1 : (x181001_5 != 0) = true := bne_iff_ne.mpr c22
          (first | rw [c22b0] | (simp only [i64_w, i32_w]; rw [c22b0]) | skip)
          have H' := Aside0.mk H
          clear H
          go_wp2
          go_meet
          case rel => exact ⟨_, (a0_6), H', ⟨by have := HJ5.out; first | omega | exact Nat.le_refl _⟩, ⟨by (with_reducible repeat (first | refine blk_drewN ?_ _ | refine blk_drew ?_ | refine blk_alloc ?_ _)); exact BK180.out⟩, ⟨by (with_reducible repeat (first | refine blk_drewN ?_ _ | refine blk_drew ?_ | refine blk_alloc ?_ _)); exact BK181.out⟩, ⟨by repeat (first | (with_reducible first | exact HB.out | apply below_alloc | apply pw_below_drewN | apply below_drew1 | refine below_set ?_ GE180.out | refine below_set ?_ GE181.out) | exact HB.out)⟩⟩
      case rest =>
        clear HC19
        try clear c1
        try clear c2
        try clear p2
        try clear c12
        try clear c14
        try clear c16
        try clear c17
        try clear c20
        try clear c22
        try clear c22b0
        try clear c22b1
        try clear c23
        try clear hcz15_0
        try clear hcz15_1
        try clear hcz15_10
        try clear hcz15_11
        try clear hcz15_12
        try clear hcz15_13
        try clear hcz15_2
        try clear hcz15_3
        try clear hcz15_4
        try clear hcz15_5
        try clear hcz15_6
        try clear hcz15_7
        try clear hcz15_8
        try clear hcz15_9
        try clear hcz18_0
        try clear hcz18_1
        try clear hcz18_10
        try clear hcz18_11
        try clear hcz18_12
        try clear hcz18_13
        try clear hcz18_2
        try clear hcz18_3
        try clear hcz18_4
        try clear hcz18_5
        try clear hcz18_6
        try clear hcz18_7
        try clear hcz18_8
        try clear hcz18_9
        try clear hcz21_0
        try clear hcz21_1
        try clear hcz21_10
        try clear hcz21_11
        try clear hcz21_12
        try clear hcz21_13
        try clear hcz21_2
        try clear hcz21_3
        try clear hcz21_4
        try clear hcz21_5
        try clear hcz21_6
        try clear hcz21_7
        try clear hcz21_8
        try clear hcz21_9
        try clear hcz24_0
        try clear hcz24_1
        try clear hcz24_10
        try clear hcz24_11
        try clear hcz24_12
        try clear hcz24_13
        try clear hcz24_2
        try clear hcz24_3
        try clear hcz24_4
        try clear hcz24_5
        try clear hcz24_6
        try clear hcz24_7
        try clear hcz24_8
        try clear hcz24_9
        try clear hfz15_0
        try clear hfz15_1
        try clear hfz15_10
        try clear hfz15_11
        try clear hfz15_12
        try clear hfz15_13
        try clear hfz15_2
        try clear hfz15_3
        try clear hfz15_4
        try clear hfz15_5
        try clear hfz15_6
        try clear hfz15_7
        try clear hfz15_8
        try clear hfz15_9
        try clear hfz18_0
        try clear hfz18_1
        try clear hfz18_10
        try clear hfz18_11
        try clear hfz18_12
        try clear hfz18_13
        try clear hfz18_2
        try clear hfz18_3
        try clear hfz18_4
        try clear hfz18_5
        try clear hfz18_6
        try clear hfz18_7
        try clear hfz18_8
        try clear hfz18_9
        try clear hfz21_0
        try clear hfz21_1
        try clear hfz21_10
        try clear hfz21_11
        try clear hfz21_12
        try clear hfz21_13
        try clear hfz21_2
        try clear hfz21_3
        try clear hfz21_4
        try clear hfz21_5
        try clear hfz21_6
        try clear hfz21_7
        try clear hfz21_8
        try clear hfz21_9
        try clear hfz24_0
        try clear hfz24_1
        try clear hfz24_10
        try clear hfz24_11
        try clear hfz24_12
        try clear hfz24_13
        try clear hfz24_2
        try clear hfz24_3
        try clear hfz24_4
        try clear hfz24_5
        try clear hfz24_6
        try clear hfz24_7
        try clear hfz24_8
        try clear hfz24_9
        try clear p2
        obtain ⟨kq, x181006_18, HA, HJ18, BK180, BK181, HB⟩ := hcut
        cases kq with
        | zero => exact absurd HA.out (by simp [naskhplain_Right.j1])
        | succ kj18 =>
          have H := HA.out
          clear HA
          simp only [naskhplain_Right.j1] at H
          have HC25 := Aside0.mk H
          clear H
          go_upto_region 6 with (fail)
          go_cut [38] (fun v38 wc => ∃ (kq : Nat) (x38_24 : Bool), v38 = .bool x38_24 ∧ Aside0 (naskhplain_Right.j2 kq x38_24 t182 x181001_5 x181002_5 t185 a0_4 a0_5 x181006_18 x181007_5 x181008_5 x181009_5 a0_10 a0_11 a0_12 a0_13 = some (r1, r2, r3, r4, r5, r6, r7, r8, r9, r10, r11, r12, r13, r14)) ∧ Aside0 (kq ≤ kj18) ∧ Aside0 (wc.heap[gb180]? = some (.cells #[.int .i64 t182, .int .i64 x181001_5, .int .i64 x181002_5, .int .i64 t185, .bool a0_4, .bool a0_5, .bool x181006_18, .bool x181007_5, .bool x181008_5, .bool x181009_5, .bool a0_10, .bool a0_11, .bool a0_12, .bool a0_13] 24 (0, 0))) ∧ Aside0 (wc.heap[gb181]? = some (.cells #[.int .i64 0, .int .i64 0, .int .i64 0, .int .i64 0, .bool false, .bool false, .bool false, .bool false, .bool false, .bool false, .bool false, .bool false, .bool false, .bool false] 24 (0, 0))) ∧ Aside0 (Below w.heap.size w wc))
          case first =>
            have H := HC25.out
            clear HC25
            by_cases c26 : x181002_5 = 3
            · rw [if_pos c26] at H
              have c26b0 : (x181002_5 == 3) = true := beq_iff_eq.mpr c26
              have c26b1 : (x181002_5 != 3) = false := bne_eq_false_iff_eq.mpr c26
              clear c26
              (first | rw [c26b0] | (simp only [i64_w, i32_w]; rw [c26b0]) | skip)
              have H' := Aside0.mk H
              clear H
              have hnb27 := NB180_181.out
              have hnc27 := NB181_180.out
              have hcz28_0 : wc.cell? ⟨gb180, 0, none⟩ = some (.int .i64 t182) := (blk_cell BK180.out 0).trans rfl
              have hcz28_1 : wc.cell? ⟨gb180, 1, none⟩ = some (.int .i64 x181001_5) := (blk_cell BK180.out 1).trans rfl
              have hcz28_2 : wc.cell? ⟨gb180, 2, none⟩ = some (.int .i64 x181002_5) := (blk_cell BK180.out 2).trans rfl
              have hcz28_3 : wc.cell? ⟨gb180, 3, none⟩ = some (.int .i64 t185) := (blk_cell BK180.out 3).trans rfl
              have hcz28_4 : wc.cell? ⟨gb180, 4, none⟩ = some (.bool a0_4) := (blk_cell BK180.out 4).trans rfl
              have hcz28_5 : wc.cell? ⟨gb180, 5, none⟩ = some (.bool a0_5) := (blk_cell BK180.out 5).trans rfl
              have hcz28_6 : wc.cell? ⟨gb180, 6, none⟩ = some (.bool x181006_18) := (blk_cell BK180.out 6).trans rfl
              have hcz28_7 : wc.cell? ⟨gb180, 7, none⟩ = some (.bool x181007_5) := (blk_cell BK180.out 7).trans rfl
              have hcz28_8 : wc.cell? ⟨gb180, 8, none⟩ = some (.bool x181008_5) := (blk_cell BK180.out 8).trans rfl
              have hcz28_9 : wc.cell? ⟨gb180, 9, none⟩ = some (.bool x181009_5) := (blk_cell BK180.out 9).trans rfl
              have hcz28_10 : wc.cell? ⟨gb180, 10, none⟩ = some (.bool a0_10) := (blk_cell BK180.out 10).trans rfl
              have hcz28_11 : wc.cell? ⟨gb180, 11, none⟩ = some (.bool a0_11) := (blk_cell BK180.out 11).trans rfl
              have hcz28_12 : wc.cell? ⟨gb180, 12, none⟩ = some (.bool a0_12) := (blk_cell BK180.out 12).trans rfl
              have hcz28_13 : wc.cell? ⟨gb180, 13, none⟩ = some (.bool a0_13) := (blk_cell BK180.out 13).trans rfl
              have hfz28_0 := blk_frozen BK180.out 0
              have hfz28_1 := blk_frozen BK180.out 1
              have hfz28_2 := blk_frozen BK180.out 2
              have hfz28_3 := blk_frozen BK180.out 3
              have hfz28_4 := blk_frozen BK180.out 4
              have hfz28_5 := blk_frozen BK180.out 5
              have hfz28_6 := blk_frozen BK180.out 6
              have hfz28_7 := blk_frozen BK180.out 7
              have hfz28_8 := blk_frozen BK180.out 8
              have hfz28_9 := blk_frozen BK180.out 9
              have hfz28_10 := blk_frozen BK180.out 10
              have hfz28_11 := blk_frozen BK180.out 11
              have hfz28_12 := blk_frozen BK180.out 12
              have hfz28_13 := blk_frozen BK180.out 13
              go_wp2
              go_meet
              case rel => exact ⟨_, (true), (by first | rfl | (simp; done) | (simp [*]; done)), H', ⟨by have := HJ5.out; have := HJ18.out; first | omega | exact Nat.le_refl _⟩, ⟨by (with_reducible repeat (first | refine blk_drewN ?_ _ | refine blk_drew ?_ | refine blk_alloc ?_ _)); exact BK180.out⟩, ⟨by (with_reducible repeat (first | refine blk_drewN ?_ _ | refine blk_drew ?_ | refine blk_alloc ?_ _)); exact BK181.out⟩, ⟨by repeat (first | (with_reducible first | exact HB.out | apply below_alloc | apply pw_below_drewN | apply below_drew1 | refine below_set ?_ GE180.out | refine below_set ?_ GE181.out) | exact HB.out)⟩⟩
            · rw [if_neg c26] at H
              have c26b0 : (x181002_5 == 3) = false := beq_eq_false_iff_ne.mpr c26
              have c26b1 : (x181002_5 != 3) = true := bne_iff_ne.mpr c26
              (first | rw [c26b0] | (simp only [i64_w, i32_w]; rw [c26b0]) | skip)
              have H' := Aside0.mk H
              clear H
              have hnb29 := NB180_181.out
              have hnc29 := NB181_180.out
              have hcz30_0 : wc.cell? ⟨gb180, 0, none⟩ = some (.int .i64 t182) := (blk_cell BK180.out 0).trans rfl
              have hcz30_1 : wc.cell? ⟨gb180, 1, none⟩ = some (.int .i64 x181001_5) := (blk_cell BK180.out 1).trans rfl
              have hcz30_2 : wc.cell? ⟨gb180, 2, none⟩ = some (.int .i64 x181002_5) := (blk_cell BK180.out 2).trans rfl
              have hcz30_3 : wc.cell? ⟨gb180, 3, none⟩ = some (.int .i64 t185) := (blk_cell BK180.out 3).trans rfl
              have hcz30_4 : wc.cell? ⟨gb180, 4, none⟩ = some (.bool a0_4) := (blk_cell BK180.out 4).trans rfl
              have hcz30_5 : wc.cell? ⟨gb180, 5, none⟩ = some (.bool a0_5) := (blk_cell BK180.out 5).trans rfl
              have hcz30_6 : wc.cell? ⟨gb180, 6, none⟩ = some (.bool x181006_18) := (blk_cell BK180.out 6).trans rfl
              have hcz30_7 : wc.cell? ⟨gb180, 7, none⟩ = some (.bool x181007_5) := (blk_cell BK180.out 7).trans rfl
              have hcz30_8 : wc.cell? ⟨gb180, 8, none⟩ = some (.bool x181008_5) := (blk_cell BK180.out 8).trans rfl
              have hcz30_9 : wc.cell? ⟨gb180, 9, none⟩ = some (.bool x181009_5) := (blk_cell BK180.out 9).trans rfl
              have hcz30_10 : wc.cell? ⟨gb180, 10, none⟩ = some (.bool a0_10) := (blk_cell BK180.out 10).trans rfl
              have hcz30_11 : wc.cell? ⟨gb180, 11, none⟩ = some (.bool a0_11) := (blk_cell BK180.out 11).trans rfl
              have hcz30_12 : wc.cell? ⟨gb180, 12, none⟩ = some (.bool a0_12) := (blk_cell BK180.out 12).trans rfl
              have hcz30_13 : wc.cell? ⟨gb180, 13, none⟩ = some (.bool a0_13) := (blk_cell BK180.out 13).trans rfl
              have hfz30_0 := blk_frozen BK180.out 0
              have hfz30_1 := blk_frozen BK180.out 1
              have hfz30_2 := blk_frozen BK180.out 2
              have hfz30_3 := blk_frozen BK180.out 3
              have hfz30_4 := blk_frozen BK180.out 4
              have hfz30_5 := blk_frozen BK180.out 5
              have hfz30_6 := blk_frozen BK180.out 6
              have hfz30_7 := blk_frozen BK180.out 7
              have hfz30_8 := blk_frozen BK180.out 8
              have hfz30_9 := blk_frozen BK180.out 9
              have hfz30_10 := blk_frozen BK180.out 10
              have hfz30_11 := blk_frozen BK180.out 11
              have hfz30_12 := blk_frozen BK180.out 12
              have hfz30_13 := blk_frozen BK180.out 13
              go_wp2
              go_meet
              case rel => exact ⟨_, ((x181002_5 == 4)), (by first | rfl | (simp; done) | (simp [*]; done)), H', ⟨by have := HJ5.out; have := HJ18.out; first | omega | exact Nat.le_refl _⟩, ⟨by (with_reducible repeat (first | refine blk_drewN ?_ _ | refine blk_drew ?_ | refine blk_alloc ?_ _)); exact BK180.out⟩, ⟨by (with_reducible repeat (first | refine blk_drewN ?_ _ | refine blk_drew ?_ | refine blk_alloc ?_ _)); exact BK181.out⟩, ⟨by repeat (first | (with_reducible first | exact HB.out | apply below_alloc | apply pw_below_drewN | apply below_drew1 | refine below_set ?_ GE180.out | refine below_set ?_ GE181.out) | exact HB.out)⟩⟩
          case rest =>
            clear HC25
            try clear c1
            try clear c2
            try clear p2
            try clear c12
            try clear c14
            try clear c16
            try clear c17
            try clear c20
            try clear c22
            try clear c22b0
            try clear c22b1
            try clear c23
            try clear c26
            try clear c26b0
            try clear c26b1
            try clear c27
            try clear c29
            try clear hcz15_0
            try clear hcz15_1
            try clear hcz15_10
            try clear hcz15_11
            try clear hcz15_12
            try clear hcz15_13
            try clear hcz15_2
            try clear hcz15_3
            try clear hcz15_4
            try clear hcz15_5
            try clear hcz15_6
            try clear hcz15_7
            try clear hcz15_8
            try clear hcz15_9
            try clear hcz18_0
            try clear hcz18_1
            try clear hcz18_10
            try clear hcz18_11
            try clear hcz18_12
            try clear hcz18_13
            try clear hcz18_2
            try clear hcz18_3
            try clear hcz18_4
            try clear hcz18_5
            try clear hcz18_6
            try clear hcz18_7
            try clear hcz18_8
            try clear hcz18_9
            try clear hcz21_0
            try clear hcz21_1
            try clear hcz21_10
            try clear hcz21_11
            try clear hcz21_12
            try clear hcz21_13
            try clear hcz21_2
            try clear hcz21_3
            try clear hcz21_4
            try clear hcz21_5
            try clear hcz21_6
            try clear hcz21_7
            try clear hcz21_8
            try clear hcz21_9
            try clear hcz24_0
            try clear hcz24_1
            try clear hcz24_10
            try clear hcz24_11
            try clear hcz24_12
            try clear hcz24_13
            try clear hcz24_2
            try clear hcz24_3
            try clear hcz24_4
            try clear hcz24_5
            try clear hcz24_6
            try clear hcz24_7
            try clear hcz24_8
            try clear hcz24_9
            try clear hcz28_0
            try clear hcz28_1
            try clear hcz28_10
            try clear hcz28_11
            try clear hcz28_12
            try clear hcz28_13
            try clear hcz28_2
            try clear hcz28_3
            try clear hcz28_4
            try clear hcz28_5
            try clear hcz28_6
            try clear hcz28_7
            try clear hcz28_8
            try clear hcz28_9
            try clear hcz30_0
            try clear hcz30_1
            try clear hcz30_10
            try clear hcz30_11
            try clear hcz30_12
            try clear hcz30_13
            try clear hcz30_2
            try clear hcz30_3
            try clear hcz30_4
            try clear hcz30_5
            try clear hcz30_6
            try clear hcz30_7
            try clear hcz30_8
            try clear hcz30_9
            try clear hfz15_0
            try clear hfz15_1
            try clear hfz15_10
            try clear hfz15_11
            try clear hfz15_12
            try clear hfz15_13
            try clear hfz15_2
            try clear hfz15_3
            try clear hfz15_4
            try clear hfz15_5
            try clear hfz15_6
            try clear hfz15_7
            try clear hfz15_8
            try clear hfz15_9
            try clear hfz18_0
            try clear hfz18_1
            try clear hfz18_10
            try clear hfz18_11
            try clear hfz18_12
            try clear hfz18_13
            try clear hfz18_2
            try clear hfz18_3
            try clear hfz18_4
            try clear hfz18_5
            try clear hfz18_6
            try clear hfz18_7
            try clear hfz18_8
            try clear hfz18_9
            try clear hfz21_0
            try clear hfz21_1
            try clear hfz21_10
            try clear hfz21_11
            try clear hfz21_12
            try clear hfz21_13
            try clear hfz21_2
            try clear hfz21_3
            try clear hfz21_4
            try clear hfz21_5
            try clear hfz21_6
            try clear hfz21_7
            try clear hfz21_8
            try clear hfz21_9
            try clear hfz24_0
            try clear hfz24_1
            try clear hfz24_10
            try clear hfz24_11
            try clear hfz24_12
            try clear hfz24_13
            try clear hfz24_2
            try clear hfz24_3
            try clear hfz24_4
            try clear hfz24_5
            try clear hfz24_6
            try clear hfz24_7
            try clear hfz24_8
            try clear hfz24_9
            try clear hfz28_0
            try clear hfz28_1
            try clear hfz28_10
            try clear hfz28_11
            try clear hfz28_12
            try clear hfz28_13
            try clear hfz28_2
            try clear hfz28_3
            try clear hfz28_4
            try clear hfz28_5
            try clear hfz28_6
            try clear hfz28_7
            try clear hfz28_8
            try clear hfz28_9
            try clear hfz30_0
            try clear hfz30_1
            try clear hfz30_10
            try clear hfz30_11
            try clear hfz30_12
            try clear hfz30_13
            try clear hfz30_2
            try clear hfz30_3
            try clear hfz30_4
            try clear hfz30_5
            try clear hfz30_6
            try clear hfz30_7
            try clear hfz30_8
            try clear hfz30_9
            try clear p2
            obtain ⟨kq, x38_24, rfl, HA, HJ24, BK180, BK181, HB⟩ := hcut
            cases kq with
            | zero => exact absurd HA.out (by simp [naskhplain_Right.j2])
            | succ kj24 =>
              have H := HA.out
              clear HA
              simp only [naskhplain_Right.j2] at H
              by_cases c31 : x38_24 = true
              · subst c31
                have H1 : (if a0_10 = true then (some (t182, x181001_5, x181002_5, t185, a0_4, a0_5, x181006_18, false, x181008_5, x181009_5, a0_10, a0_11, a0_12, a0_13)) else (some (t182, x181001_5, x181002_5, t185, a0_4, a0_5, x181006_18, false, x181008_5, x181009_5, a0_10, false, a0_12, a0_13))) = some (r1, r2, r3, r4, r5, r6, r7, r8, r9, r10, r11, r12, r13, r14) := by rw [if_pos rfl] at H; exact H
                clear H
                have H := H1
                clear H1
                by_cases c32 : a0_10 = true
                · subst c32
                  have H1 : (some (t182, x181001_5, x181002_5, t185, a0_4, a0_5, x181006_18, false, x181008_5, x181009_5, true, a0_11, a0_12, a0_13)) = some (r1, r2, r3, r4, r5, r6, r7, r8, r9, r10, r11, r12, r13, r14) := by rw [if_pos rfl] at H; exact H
                  clear H
                  have H := H1
                  clear H1
                  simp only [Option.some.injEq, Prod.mk.injEq] at H
                  obtain ⟨rfl, rfl, rfl, rfl, rfl, rfl, rfl, rfl, rfl, rfl, rfl, rfl, rfl, rfl⟩ := H
                  have hnb33 := NB180_181.out
                  have hnc33 := NB181_180.out
                  have hcz34_0 : wc.cell? ⟨gb180, 0, none⟩ = some (.int .i64 t182) := (blk_cell BK180.out 0).trans rfl
                  have hcz34_1 : wc.cell? ⟨gb180, 1, none⟩ = some (.int .i64 x181001_5) := (blk_cell BK180.out 1).trans rfl
                  have hcz34_2 : wc.cell? ⟨gb180, 2, none⟩ = some (.int .i64 x181002_5) := (blk_cell BK180.out 2).trans rfl
                  have hcz34_3 : wc.cell? ⟨gb180, 3, none⟩ = some (.int .i64 t185) := (blk_cell BK180.out 3).trans rfl
                  have hcz34_4 : wc.cell? ⟨gb180, 4, none⟩ = some (.bool a0_4) := (blk_cell BK180.out 4).trans rfl
                  have hcz34_5 : wc.cell? ⟨gb180, 5, none⟩ = some (.bool a0_5) := (blk_cell BK180.out 5).trans rfl
                  have hcz34_6 : wc.cell? ⟨gb180, 6, none⟩ = some (.bool x181006_18) := (blk_cell BK180.out 6).trans rfl
                  have hcz34_7 : wc.cell? ⟨gb180, 7, none⟩ = some (.bool x181007_5) := (blk_cell BK180.out 7).trans rfl
                  have hcz34_8 : wc.cell? ⟨gb180, 8, none⟩ = some (.bool x181008_5) := (blk_cell BK180.out 8).trans rfl
                  have hcz34_9 : wc.cell? ⟨gb180, 9, none⟩ = some (.bool x181009_5) := (blk_cell BK180.out 9).trans rfl
                  have hcz34_10 : wc.cell? ⟨gb180, 10, none⟩ = some (.bool true) := (blk_cell BK180.out 10).trans rfl
                  have hcz34_11 : wc.cell? ⟨gb180, 11, none⟩ = some (.bool a0_11) := (blk_cell BK180.out 11).trans rfl
                  have hcz34_12 : wc.cell? ⟨gb180, 12, none⟩ = some (.bool a0_12) := (blk_cell BK180.out 12).trans rfl
                  have hcz34_13 : wc.cell? ⟨gb180, 13, none⟩ = some (.bool a0_13) := (blk_cell BK180.out 13).trans rfl
                  have hfz34_0 := blk_frozen BK180.out 0
                  have hfz34_1 := blk_frozen BK180.out 1
                  have hfz34_2 := blk_frozen BK180.out 2
                  have hfz34_3 := blk_frozen BK180.out 3
                  have hfz34_4 := blk_frozen BK180.out 4
                  have hfz34_5 := blk_frozen BK180.out 5
                  have hfz34_6 := blk_frozen BK180.out 6
                  have hfz34_7 := blk_frozen BK180.out 7
                  have hfz34_8 := blk_frozen BK180.out 8
                  have hfz34_9 := blk_frozen BK180.out 9
                  have hfz34_10 := blk_frozen BK180.out 10
                  have hfz34_11 := blk_frozen BK180.out 11
                  have hfz34_12 := blk_frozen BK180.out 12
                  have hfz34_13 := blk_frozen BK180.out 13
                  have hcz35_0 : wc.cell? ⟨gb181, 0, none⟩ = some (.int .i64 0) := (blk_cell BK181.out 0).trans rfl
                  have hcz35_1 : wc.cell? ⟨gb181, 1, none⟩ = some (.int .i64 0) := (blk_cell BK181.out 1).trans rfl
                  have hcz35_2 : wc.cell? ⟨gb181, 2, none⟩ = some (.int .i64 0) := (blk_cell BK181.out 2).trans rfl
                  have hcz35_3 : wc.cell? ⟨gb181, 3, none⟩ = some (.int .i64 0) := (blk_cell BK181.out 3).trans rfl
                  have hcz35_4 : wc.cell? ⟨gb181, 4, none⟩ = some (.bool false) := (blk_cell BK181.out 4).trans rfl
                  have hcz35_5 : wc.cell? ⟨gb181, 5, none⟩ = some (.bool false) := (blk_cell BK181.out 5).trans rfl
                  have hcz35_6 : wc.cell? ⟨gb181, 6, none⟩ = some (.bool false) := (blk_cell BK181.out 6).trans rfl
                  have hcz35_7 : wc.cell? ⟨gb181, 7, none⟩ = some (.bool false) := (blk_cell BK181.out 7).trans rfl
                  have hcz35_8 : wc.cell? ⟨gb181, 8, none⟩ = some (.bool false) := (blk_cell BK181.out 8).trans rfl
                  have hcz35_9 : wc.cell? ⟨gb181, 9, none⟩ = some (.bool false) := (blk_cell BK181.out 9).trans rfl
                  have hcz35_10 : wc.cell? ⟨gb181, 10, none⟩ = some (.bool false) := (blk_cell BK181.out 10).trans rfl
                  have hcz35_11 : wc.cell? ⟨gb181, 11, none⟩ = some (.bool false) := (blk_cell BK181.out 11).trans rfl
                  have hcz35_12 : wc.cell? ⟨gb181, 12, none⟩ = some (.bool false) := (blk_cell BK181.out 12).trans rfl
                  have hcz35_13 : wc.cell? ⟨gb181, 13, none⟩ = some (.bool false) := (blk_cell BK181.out 13).trans rfl
                  have hfz35_0 := blk_frozen BK181.out 0
                  have hfz35_1 := blk_frozen BK181.out 1
                  have hfz35_2 := blk_frozen BK181.out 2
                  have hfz35_3 := blk_frozen BK181.out 3
                  have hfz35_4 := blk_frozen BK181.out 4
                  have hfz35_5 := blk_frozen BK181.out 5
                  have hfz35_6 := blk_frozen BK181.out 6
                  have hfz35_7 := blk_frozen BK181.out 7
                  have hfz35_8 := blk_frozen BK181.out 8
                  have hfz35_9 := blk_frozen BK181.out 9
                  have hfz35_10 := blk_frozen BK181.out 10
                  have hfz35_11 := blk_frozen BK181.out 11
                  have hfz35_12 := blk_frozen BK181.out 12
                  have hfz35_13 := blk_frozen BK181.out 13
                  go_wp2
                  refine bodyPost_ret (results_cell_row rfl _ _ gb181 24 #[.int .i64 t182, .int .i64 x181001_5, .int .i64 x181002_5, .int .i64 t185, .bool a0_4, .bool a0_5, .bool x181006_18, .bool false, .bool x181008_5, .bool x181009_5, .bool true, .bool a0_11, .bool a0_12, .bool a0_13] (0, 0) _ rfl (by (with_reducible repeat (first | refine blk_drewN ?_ _ | refine blk_drew ?_ | refine blk_alloc ?_ _)); refine blk_put (cs := #[.int .i64 t182, .int .i64 x181001_5, .int .i64 x181002_5, .int .i64 t185, .bool a0_4, .bool a0_5, .bool x181006_18, .bool false, .bool x181008_5, .bool x181009_5, .bool true, .bool a0_11, .bool a0_12, .bool false]) ?_ 13 _ rfl; (with_reducible repeat (first | refine blk_drewN ?_ _ | refine blk_drew ?_ | refine blk_alloc ?_ _)); refine blk_put (cs := #[.int .i64 t182, .int .i64 x181001_5, .int .i64 x181002_5, .int .i64 t185, .bool a0_4, .bool a0_5, .bool x181006_18, .bool false, .bool x181008_5, .bool x181009_5, .bool true, .bool a0_11, .bool false, .bool false]) ?_ 12 _ rfl; (with_reducible repeat (first | refine blk_drewN ?_ _ | refine blk_drew ?_ | refine blk_alloc ?_ _)); refine blk_put (cs := #[.int .i64 t182, .int .i64 x181001_5, .int .i64 x181002_5, .int .i64 t185, .bool a0_4, .bool a0_5, .bool x181006_18, .bool false, .bool x181008_5, .bool x181009_5, .bool true, .bool false, .bool false, .bool false]) ?_ 11 _ rfl; (with_reducible repeat (first | refine blk_drewN ?_ _ | refine blk_drew ?_ | refine blk_alloc ?_ _)); refine blk_put (cs := #[.int .i64 t182, .int .i64 x181001_5, .int .i64 x181002_5, .int .i64 t185, .bool a0_4, .bool a0_5, .bool x181006_18, .bool false, .bool x181008_5, .bool x181009_5, .bool false, .bool false, .bool false, .bool false]) ?_ 10 _ rfl; (with_reducible repeat (first | refine blk_drewN ?_ _ | refine blk_drew ?_ | refine blk_alloc ?_ _)); refine blk_put (cs := #[.int .i64 t182, .int .i64 x181001_5, .int .i64 x181002_5, .int .i64 t185, .bool a0_4, .bool a0_5, .bool x181006_18, .bool false, .bool x181008_5, .bool false, .bool false, .bool false, .bool false, .bool false]) ?_ 9 _ rfl; (with_reducible repeat (first | refine blk_drewN ?_ _ | refine blk_drew ?_ | refine blk_alloc ?_ _)); refine blk_put (cs := #[.int .i64 t182, .int .i64 x181001_5, .int .i64 x181002_5, .int .i64 t185, .bool a0_4, .bool a0_5, .bool x181006_18, .bool false, .bool false, .bool false, .bool false, .bool false, .bool false, .bool false]) ?_ 8 _ rfl; (with_reducible repeat (first | refine blk_drewN ?_ _ | refine blk_drew ?_ | refine blk_alloc ?_ _)); refine blk_put (cs := #[.int .i64 t182, .int .i64 x181001_5, .int .i64 x181002_5, .int .i64 t185, .bool a0_4, .bool a0_5, .bool x181006_18, .bool false, .bool false, .bool false, .bool false, .bool false, .bool false, .bool false]) ?_ 7 _ rfl; (with_reducible repeat (first | refine blk_drewN ?_ _ | refine blk_drew ?_ | refine blk_alloc ?_ _)); refine blk_put (cs := #[.int .i64 t182, .int .i64 x181001_5, .int .i64 x181002_5, .int .i64 t185, .bool a0_4, .bool a0_5, .bool false, .bool false, .bool false, .bool false, .bool false, .bool false, .bool false, .bool false]) ?_ 6 _ rfl; (with_reducible repeat (first | refine blk_drewN ?_ _ | refine blk_drew ?_ | refine blk_alloc ?_ _)); refine blk_put (cs := #[.int .i64 t182, .int .i64 x181001_5, .int .i64 x181002_5, .int .i64 t185, .bool a0_4, .bool false, .bool false, .bool false, .bool false, .bool false, .bool false, .bool false, .bool false, .bool false]) ?_ 5 _ rfl; (with_reducible repeat (first | refine blk_drewN ?_ _ | refine blk_drew ?_ | refine blk_alloc ?_ _)); refine blk_put (cs := #[.int .i64 t182, .int .i64 x181001_5, .int .i64 x181002_5, .int .i64 t185, .bool false, .bool false, .bool false, .bool false, .bool false, .bool false, .bool false, .bool false, .bool false, .bool false]) ?_ 4 _ rfl; (with_reducible repeat (first | refine blk_drewN ?_ _ | refine blk_drew ?_ | refine blk_alloc ?_ _)); refine blk_put (cs := #[.int .i64 t182, .int .i64 x181001_5, .int .i64 x181002_5, .int .i64 0, .bool false, .bool false, .bool false, .bool false, .bool false, .bool false, .bool false, .bool false, .bool false, .bool false]) ?_ 3 _ rfl; (with_reducible repeat (first | refine blk_drewN ?_ _ | refine blk_drew ?_ | refine blk_alloc ?_ _)); refine blk_put (cs := #[.int .i64 t182, .int .i64 x181001_5, .int .i64 0, .int .i64 0, .bool false, .bool false, .bool false, .bool false, .bool false, .bool false, .bool false, .bool false, .bool false, .bool false]) ?_ 2 _ rfl; (with_reducible repeat (first | refine blk_drewN ?_ _ | refine blk_drew ?_ | refine blk_alloc ?_ _)); refine blk_put (cs := #[.int .i64 t182, .int .i64 0, .int .i64 0, .int .i64 0, .bool false, .bool false, .bool false, .bool false, .bool false, .bool false, .bool false, .bool false, .bool false, .bool false]) ?_ 1 _ rfl; (with_reducible repeat (first | refine blk_drewN ?_ _ | refine blk_drew ?_ | refine blk_alloc ?_ _)); refine blk_put (cs := #[.int .i64 0, .int .i64 0, .int .i64 0, .int .i64 0, .bool false, .bool false, .bool false, .bool false, .bool false, .bool false, .bool false, .bool false, .bool false, .bool false]) ?_ 0 _ rfl; (with_reducible repeat (first | refine blk_drewN ?_ _ | refine blk_drew ?_ | refine blk_alloc ?_ _)); refine blk_far ?_ NB181_180.out _; (with_reducible repeat (first | refine blk_drewN ?_ _ | refine blk_drew ?_ | refine blk_alloc ?_ _)); exact BK181.out) Tryd.underlying24 rfl (by kernel_rfl)) rfl ?_
                  exact ⟨by first | rfl | (simp [errW_none, errW_some] <;> rfl) | (simp [*, errW_none, errW_some] <;> rfl), by repeat (first | (with_reducible first | exact HB.out | apply below_alloc | apply pw_below_drewN | apply below_drew1 | refine below_set ?_ GE180.out | refine below_set ?_ GE181.out) | exact HB.out)⟩
                · replace c32 := Bool.eq_false_iff.mpr c32
                  subst c32
                  have H1 : (some (t182, x181001_5, x181002_5, t185, a0_4, a0_5, x181006_18, false, x181008_5, x181009_5, false, false, a0_12, a0_13)) = some (r1, r2, r3, r4, r5, r6, r7, r8, r9, r10, r11, r12, r13, r14) := by rw [if_neg (show ¬ (false = true) by decide)] at H; exact H
                  clear H
                  have H := H1
                  clear H1
                  simp only [Option.some.injEq, Prod.mk.injEq] at H
                  obtain ⟨rfl, rfl, rfl, rfl, rfl, rfl, rfl, rfl, rfl, rfl, rfl, rfl, rfl, rfl⟩ := H
                  have hnb36 := NB180_181.out
                  have hnc36 := NB181_180.out
                  have hcz37_0 : wc.cell? ⟨gb180, 0, none⟩ = some (.int .i64 t182) := (blk_cell BK180.out 0).trans rfl
                  have hcz37_1 : wc.cell? ⟨gb180, 1, none⟩ = some (.int .i64 x181001_5) := (blk_cell BK180.out 1).trans rfl
                  have hcz37_2 : wc.cell? ⟨gb180, 2, none⟩ = some (.int .i64 x181002_5) := (blk_cell BK180.out 2).trans rfl
                  have hcz37_3 : wc.cell? ⟨gb180, 3, none⟩ = some (.int .i64 t185) := (blk_cell BK180.out 3).trans rfl
                  have hcz37_4 : wc.cell? ⟨gb180, 4, none⟩ = some (.bool a0_4) := (blk_cell BK180.out 4).trans rfl
                  have hcz37_5 : wc.cell? ⟨gb180, 5, none⟩ = some (.bool a0_5) := (blk_cell BK180.out 5).trans rfl
                  have hcz37_6 : wc.cell? ⟨gb180, 6, none⟩ = some (.bool x181006_18) := (blk_cell BK180.out 6).trans rfl
                  have hcz37_7 : wc.cell? ⟨gb180, 7, none⟩ = some (.bool x181007_5) := (blk_cell BK180.out 7).trans rfl
                  have hcz37_8 : wc.cell? ⟨gb180, 8, none⟩ = some (.bool x181008_5) := (blk_cell BK180.out 8).trans rfl
                  have hcz37_9 : wc.cell? ⟨gb180, 9, none⟩ = some (.bool x181009_5) := (blk_cell BK180.out 9).trans rfl
                  have hcz37_10 : wc.cell? ⟨gb180, 10, none⟩ = some (.bool false) := (blk_cell BK180.out 10).trans rfl
                  have hcz37_11 : wc.cell? ⟨gb180, 11, none⟩ = some (.bool a0_11) := (blk_cell BK180.out 11).trans rfl
                  have hcz37_12 : wc.cell? ⟨gb180, 12, none⟩ = some (.bool a0_12) := (blk_cell BK180.out 12).trans rfl
                  have hcz37_13 : wc.cell? ⟨gb180, 13, none⟩ = some (.bool a0_13) := (blk_cell BK180.out 13).trans rfl
                  have hfz37_0 := blk_frozen BK180.out 0
                  have hfz37_1 := blk_frozen BK180.out 1
                  have hfz37_2 := blk_frozen BK180.out 2
                  have hfz37_3 := blk_frozen BK180.out 3
                  have hfz37_4 := blk_frozen BK180.out 4
                  have hfz37_5 := blk_frozen BK180.out 5
                  have hfz37_6 := blk_frozen BK180.out 6
                  have hfz37_7 := blk_frozen BK180.out 7
                  have hfz37_8 := blk_frozen BK180.out 8
                  have hfz37_9 := blk_frozen BK180.out 9
                  have hfz37_10 := blk_frozen BK180.out 10
                  have hfz37_11 := blk_frozen BK180.out 11
                  have hfz37_12 := blk_frozen BK180.out 12
                  have hfz37_13 := blk_frozen BK180.out 13
                  have hcz38_0 : wc.cell? ⟨gb181, 0, none⟩ = some (.int .i64 0) := (blk_cell BK181.out 0).trans rfl
                  have hcz38_1 : wc.cell? ⟨gb181, 1, none⟩ = some (.int .i64 0) := (blk_cell BK181.out 1).trans rfl
                  have hcz38_2 : wc.cell? ⟨gb181, 2, none⟩ = some (.int .i64 0) := (blk_cell BK181.out 2).trans rfl
                  have hcz38_3 : wc.cell? ⟨gb181, 3, none⟩ = some (.int .i64 0) := (blk_cell BK181.out 3).trans rfl
                  have hcz38_4 : wc.cell? ⟨gb181, 4, none⟩ = some (.bool false) := (blk_cell BK181.out 4).trans rfl
                  have hcz38_5 : wc.cell? ⟨gb181, 5, none⟩ = some (.bool false) := (blk_cell BK181.out 5).trans rfl
                  have hcz38_6 : wc.cell? ⟨gb181, 6, none⟩ = some (.bool false) := (blk_cell BK181.out 6).trans rfl
                  have hcz38_7 : wc.cell? ⟨gb181, 7, none⟩ = some (.bool false) := (blk_cell BK181.out 7).trans rfl
                  have hcz38_8 : wc.cell? ⟨gb181, 8, none⟩ = some (.bool false) := (blk_cell BK181.out 8).trans rfl
                  have hcz38_9 : wc.cell? ⟨gb181, 9, none⟩ = some (.bool false) := (blk_cell BK181.out 9).trans rfl
                  have hcz38_10 : wc.cell? ⟨gb181, 10, none⟩ = some (.bool false) := (blk_cell BK181.out 10).trans rfl
                  have hcz38_11 : wc.cell? ⟨gb181, 11, none⟩ = some (.bool false) := (blk_cell BK181.out 11).trans rfl
                  have hcz38_12 : wc.cell? ⟨gb181, 12, none⟩ = some (.bool false) := (blk_cell BK181.out 12).trans rfl
                  have hcz38_13 : wc.cell? ⟨gb181, 13, none⟩ = some (.bool false) := (blk_cell BK181.out 13).trans rfl
                  have hfz38_0 := blk_frozen BK181.out 0
                  have hfz38_1 := blk_frozen BK181.out 1
                  have hfz38_2 := blk_frozen BK181.out 2
                  have hfz38_3 := blk_frozen BK181.out 3
                  have hfz38_4 := blk_frozen BK181.out 4
                  have hfz38_5 := blk_frozen BK181.out 5
                  have hfz38_6 := blk_frozen BK181.out 6
                  have hfz38_7 := blk_frozen BK181.out 7
                  have hfz38_8 := blk_frozen BK181.out 8
                  have hfz38_9 := blk_frozen BK181.out 9
                  have hfz38_10 := blk_frozen BK181.out 10
                  have hfz38_11 := blk_frozen BK181.out 11
                  have hfz38_12 := blk_frozen BK181.out 12
                  have hfz38_13 := blk_frozen BK181.out 13
                  go_wp2
                  refine bodyPost_ret (results_cell_row rfl _ _ gb181 24 #[.int .i64 t182, .int .i64 x181001_5, .int .i64 x181002_5, .int .i64 t185, .bool a0_4, .bool a0_5, .bool x181006_18, .bool false, .bool x181008_5, .bool x181009_5, .bool false, .bool false, .bool a0_12, .bool a0_13] (0, 0) _ rfl (by (with_reducible repeat (first | refine blk_drewN ?_ _ | refine blk_drew ?_ | refine blk_alloc ?_ _)); refine blk_put (cs := #[.int .i64 t182, .int .i64 x181001_5, .int .i64 x181002_5, .int .i64 t185, .bool a0_4, .bool a0_5, .bool x181006_18, .bool false, .bool x181008_5, .bool x181009_5, .bool false, .bool false, .bool a0_12, .bool false]) ?_ 13 _ rfl; (with_reducible repeat (first | refine blk_drewN ?_ _ | refine blk_drew ?_ | refine blk_alloc ?_ _)); refine blk_put (cs := #[.int .i64 t182, .int .i64 x181001_5, .int .i64 x181002_5, .int .i64 t185, .bool a0_4, .bool a0_5, .bool x181006_18, .bool false, .bool x181008_5, .bool x181009_5, .bool false, .bool false, .bool false, .bool false]) ?_ 12 _ rfl; (with_reducible repeat (first | refine blk_drewN ?_ _ | refine blk_drew ?_ | refine blk_alloc ?_ _)); refine blk_put (cs := #[.int .i64 t182, .int .i64 x181001_5, .int .i64 x181002_5, .int .i64 t185, .bool a0_4, .bool a0_5, .bool x181006_18, .bool false, .bool x181008_5, .bool x181009_5, .bool false, .bool false, .bool false, .bool false]) ?_ 11 _ rfl; (with_reducible repeat (first | refine blk_drewN ?_ _ | refine blk_drew ?_ | refine blk_alloc ?_ _)); refine blk_put (cs := #[.int .i64 t182, .int .i64 x181001_5, .int .i64 x181002_5, .int .i64 t185, .bool a0_4, .bool a0_5, .bool x181006_18, .bool false, .bool x181008_5, .bool x181009_5, .bool false, .bool false, .bool false, .bool false]) ?_ 10 _ rfl; (with_reducible repeat (first | refine blk_drewN ?_ _ | refine blk_drew ?_ | refine blk_alloc ?_ _)); refine blk_put (cs := #[.int .i64 t182, .int .i64 x181001_5, .int .i64 x181002_5, .int .i64 t185, .bool a0_4, .bool a0_5, .bool x181006_18, .bool false, .bool x181008_5, .bool false, .bool false, .bool false, .bool false, .bool false]) ?_ 9 _ rfl; (with_reducible repeat (first | refine blk_drewN ?_ _ | refine blk_drew ?_ | refine blk_alloc ?_ _)); refine blk_put (cs := #[.int .i64 t182, .int .i64 x181001_5, .int .i64 x181002_5, .int .i64 t185, .bool a0_4, .bool a0_5, .bool x181006_18, .bool false, .bool false, .bool false, .bool false, .bool false, .bool false, .bool false]) ?_ 8 _ rfl; (with_reducible repeat (first | refine blk_drewN ?_ _ | refine blk_drew ?_ | refine blk_alloc ?_ _)); refine blk_put (cs := #[.int .i64 t182, .int .i64 x181001_5, .int .i64 x181002_5, .int .i64 t185, .bool a0_4, .bool a0_5, .bool x181006_18, .bool false, .bool false, .bool false, .bool false, .bool false, .bool false, .bool false]) ?_ 7 _ rfl; (with_reducible repeat (first | refine blk_drewN ?_ _ | refine blk_drew ?_ | refine blk_alloc ?_ _)); refine blk_put (cs := #[.int .i64 t182, .int .i64 x181001_5, .int .i64 x181002_5, .int .i64 t185, .bool a0_4, .bool a0_5, .bool false, .bool false, .bool false, .bool false, .bool false, .bool false, .bool false, .bool false]) ?_ 6 _ rfl; (with_reducible repeat (first | refine blk_drewN ?_ _ | refine blk_drew ?_ | refine blk_alloc ?_ _)); refine blk_put (cs := #[.int .i64 t182, .int .i64 x181001_5, .int .i64 x181002_5, .int .i64 t185, .bool a0_4, .bool false, .bool false, .bool false, .bool false, .bool false, .bool false, .bool false, .bool false, .bool false]) ?_ 5 _ rfl; (with_reducible repeat (first | refine blk_drewN ?_ _ | refine blk_drew ?_ | refine blk_alloc ?_ _)); refine blk_put (cs := #[.int .i64 t182, .int .i64 x181001_5, .int .i64 x181002_5, .int .i64 t185, .bool false, .bool false, .bool false, .bool false, .bool false, .bool false, .bool false, .bool false, .bool false, .bool false]) ?_ 4 _ rfl; (with_reducible repeat (first | refine blk_drewN ?_ _ | refine blk_drew ?_ | refine blk_alloc ?_ _)); refine blk_put (cs := #[.int .i64 t182, .int .i64 x181001_5, .int .i64 x181002_5, .int .i64 0, .bool false, .bool false, .bool false, .bool false, .bool false, .bool false, .bool false, .bool false, .bool false, .bool false]) ?_ 3 _ rfl; (with_reducible repeat (first | refine blk_drewN ?_ _ | refine blk_drew ?_ | refine blk_alloc ?_ _)); refine blk_put (cs := #[.int .i64 t182, .int .i64 x181001_5, .int .i64 0, .int .i64 0, .bool false, .bool false, .bool false, .bool false, .bool false, .bool false, .bool false, .bool false, .bool false, .bool false]) ?_ 2 _ rfl; (with_reducible repeat (first | refine blk_drewN ?_ _ | refine blk_drew ?_ | refine blk_alloc ?_ _)); refine blk_put (cs := #[.int .i64 t182, .int .i64 0, .int .i64 0, .int .i64 0, .bool false, .bool false, .bool false, .bool false, .bool false, .bool false, .bool false, .bool false, .bool false, .bool false]) ?_ 1 _ rfl; (with_reducible repeat (first | refine blk_drewN ?_ _ | refine blk_drew ?_ | refine blk_alloc ?_ _)); refine blk_put (cs := #[.int .i64 0, .int .i64 0, .int .i64 0, .int .i64 0, .bool false, .bool false, .bool false, .bool false, .bool false, .bool false, .bool false, .bool false, .bool false, .bool false]) ?_ 0 _ rfl; (with_reducible repeat (first | refine blk_drewN ?_ _ | refine blk_drew ?_ | refine blk_alloc ?_ _)); refine blk_far ?_ NB181_180.out _; (with_reducible repeat (first | refine blk_drewN ?_ _ | refine blk_drew ?_ | refine blk_alloc ?_ _)); refine blk_far ?_ NB181_180.out _; (with_reducible repeat (first | refine blk_drewN ?_ _ | refine blk_drew ?_ | refine blk_alloc ?_ _)); exact BK181.out) Tryd.underlying24 rfl (by kernel_rfl)) rfl ?_
                  exact ⟨by first | rfl | (simp [errW_none, errW_some] <;> rfl) | (simp [*, errW_none, errW_some] <;> rfl), by repeat (first | (with_reducible first | exact HB.out | apply below_alloc | apply pw_below_drewN | apply below_drew1 | refine below_set ?_ GE180.out | refine below_set ?_ GE181.out) | exact HB.out)⟩
              · replace c31 := Bool.eq_false_iff.mpr c31
                subst c31
                have H1 : (if a0_10 = true then (some (t182, x181001_5, x181002_5, t185, a0_4, a0_5, x181006_18, x181007_5, x181008_5, x181009_5, a0_10, a0_11, a0_12, a0_13)) else (some (t182, x181001_5, x181002_5, t185, a0_4, a0_5, x181006_18, x181007_5, x181008_5, x181009_5, a0_10, false, a0_12, a0_13))) = some (r1, r2, r3, r4, r5, r6, r7, r8, r9, r10, r11, r12, r13, r14) := by rw [if_neg (show ¬ (false = true) by decide)] at H; exact H
                clear H
                have H := H1
                clear H1
                by_cases c39 : a0_10 = true
                · subst c39
                  have H1 : (some (t182, x181001_5, x181002_5, t185, a0_4, a0_5, x181006_18, x181007_5, x181008_5, x181009_5, true, a0_11, a0_12, a0_13)) = some (r1, r2, r3, r4, r5, r6, r7, r8, r9, r10, r11, r12, r13, r14) := by rw [if_pos rfl] at H; exact H
                  clear H
                  have H := H1
                  clear H1
                  simp only [Option.some.injEq, Prod.mk.injEq] at H
                  obtain ⟨rfl, rfl, rfl, rfl, rfl, rfl, rfl, rfl, rfl, rfl, rfl, rfl, rfl, rfl⟩ := H
                  have hnb40 := NB180_181.out
                  have hnc40 := NB181_180.out
                  have hcz41_0 : wc.cell? ⟨gb180, 0, none⟩ = some (.int .i64 t182) := (blk_cell BK180.out 0).trans rfl
                  have hcz41_1 : wc.cell? ⟨gb180, 1, none⟩ = some (.int .i64 x181001_5) := (blk_cell BK180.out 1).trans rfl
                  have hcz41_2 : wc.cell? ⟨gb180, 2, none⟩ = some (.int .i64 x181002_5) := (blk_cell BK180.out 2).trans rfl
                  have hcz41_3 : wc.cell? ⟨gb180, 3, none⟩ = some (.int .i64 t185) := (blk_cell BK180.out 3).trans rfl
                  have hcz41_4 : wc.cell? ⟨gb180, 4, none⟩ = some (.bool a0_4) := (blk_cell BK180.out 4).trans rfl
                  have hcz41_5 : wc.cell? ⟨gb180, 5, none⟩ = some (.bool a0_5) := (blk_cell BK180.out 5).trans rfl
                  have hcz41_6 : wc.cell? ⟨gb180, 6, none⟩ = some (.bool x181006_18) := (blk_cell BK180.out 6).trans rfl
                  have hcz41_7 : wc.cell? ⟨gb180, 7, none⟩ = some (.bool x181007_5) := (blk_cell BK180.out 7).trans rfl
                  have hcz41_8 : wc.cell? ⟨gb180, 8, none⟩ = some (.bool x181008_5) := (blk_cell BK180.out 8).trans rfl
                  have hcz41_9 : wc.cell? ⟨gb180, 9, none⟩ = some (.bool x181009_5) := (blk_cell BK180.out 9).trans rfl
                  have hcz41_10 : wc.cell? ⟨gb180, 10, none⟩ = some (.bool true) := (blk_cell BK180.out 10).trans rfl
                  have hcz41_11 : wc.cell? ⟨gb180, 11, none⟩ = some (.bool a0_11) := (blk_cell BK180.out 11).trans rfl
                  have hcz41_12 : wc.cell? ⟨gb180, 12, none⟩ = some (.bool a0_12) := (blk_cell BK180.out 12).trans rfl
                  have hcz41_13 : wc.cell? ⟨gb180, 13, none⟩ = some (.bool a0_13) := (blk_cell BK180.out 13).trans rfl
                  have hfz41_0 := blk_frozen BK180.out 0
                  have hfz41_1 := blk_frozen BK180.out 1
                  have hfz41_2 := blk_frozen BK180.out 2
                  have hfz41_3 := blk_frozen BK180.out 3
                  have hfz41_4 := blk_frozen BK180.out 4
                  have hfz41_5 := blk_frozen BK180.out 5
                  have hfz41_6 := blk_frozen BK180.out 6
                  have hfz41_7 := blk_frozen BK180.out 7
                  have hfz41_8 := blk_frozen BK180.out 8
                  have hfz41_9 := blk_frozen BK180.out 9
                  have hfz41_10 := blk_frozen BK180.out 10
                  have hfz41_11 := blk_frozen BK180.out 11
                  have hfz41_12 := blk_frozen BK180.out 12
                  have hfz41_13 := blk_frozen BK180.out 13
                  have hcz42_0 : wc.cell? ⟨gb181, 0, none⟩ = some (.int .i64 0) := (blk_cell BK181.out 0).trans rfl
                  have hcz42_1 : wc.cell? ⟨gb181, 1, none⟩ = some (.int .i64 0) := (blk_cell BK181.out 1).trans rfl
                  have hcz42_2 : wc.cell? ⟨gb181, 2, none⟩ = some (.int .i64 0) := (blk_cell BK181.out 2).trans rfl
                  have hcz42_3 : wc.cell? ⟨gb181, 3, none⟩ = some (.int .i64 0) := (blk_cell BK181.out 3).trans rfl
                  have hcz42_4 : wc.cell? ⟨gb181, 4, none⟩ = some (.bool false) := (blk_cell BK181.out 4).trans rfl
                  have hcz42_5 : wc.cell? ⟨gb181, 5, none⟩ = some (.bool false) := (blk_cell BK181.out 5).trans rfl
                  have hcz42_6 : wc.cell? ⟨gb181, 6, none⟩ = some (.bool false) := (blk_cell BK181.out 6).trans rfl
                  have hcz42_7 : wc.cell? ⟨gb181, 7, none⟩ = some (.bool false) := (blk_cell BK181.out 7).trans rfl
                  have hcz42_8 : wc.cell? ⟨gb181, 8, none⟩ = some (.bool false) := (blk_cell BK181.out 8).trans rfl
                  have hcz42_9 : wc.cell? ⟨gb181, 9, none⟩ = some (.bool false) := (blk_cell BK181.out 9).trans rfl
                  have hcz42_10 : wc.cell? ⟨gb181, 10, none⟩ = some (.bool false) := (blk_cell BK181.out 10).trans rfl
                  have hcz42_11 : wc.cell? ⟨gb181, 11, none⟩ = some (.bool false) := (blk_cell BK181.out 11).trans rfl
                  have hcz42_12 : wc.cell? ⟨gb181, 12, none⟩ = some (.bool false) := (blk_cell BK181.out 12).trans rfl
                  have hcz42_13 : wc.cell? ⟨gb181, 13, none⟩ = some (.bool false) := (blk_cell BK181.out 13).trans rfl
                  have hfz42_0 := blk_frozen BK181.out 0
                  have hfz42_1 := blk_frozen BK181.out 1
                  have hfz42_2 := blk_frozen BK181.out 2
                  have hfz42_3 := blk_frozen BK181.out 3
                  have hfz42_4 := blk_frozen BK181.out 4
                  have hfz42_5 := blk_frozen BK181.out 5
                  have hfz42_6 := blk_frozen BK181.out 6
                  have hfz42_7 := blk_frozen BK181.out 7
                  have hfz42_8 := blk_frozen BK181.out 8
                  have hfz42_9 := blk_frozen BK181.out 9
                  have hfz42_10 := blk_frozen BK181.out 10
                  have hfz42_11 := blk_frozen BK181.out 11
                  have hfz42_12 := blk_frozen BK181.out 12
                  have hfz42_13 := blk_frozen BK181.out 13
                  go_wp2
                  refine bodyPost_ret (results_cell_row rfl _ _ gb181 24 #[.int .i64 t182, .int .i64 x181001_5, .int .i64 x181002_5, .int .i64 t185, .bool a0_4, .bool a0_5, .bool x181006_18, .bool x181007_5, .bool x181008_5, .bool x181009_5, .bool true, .bool a0_11, .bool a0_12, .bool a0_13] (0, 0) _ rfl (by (with_reducible repeat (first | refine blk_drewN ?_ _ | refine blk_drew ?_ | refine blk_alloc ?_ _)); refine blk_put (cs := #[.int .i64 t182, .int .i64 x181001_5, .int .i64 x181002_5, .int .i64 t185, .bool a0_4, .bool a0_5, .bool x181006_18, .bool x181007_5, .bool x181008_5, .bool x181009_5, .bool true, .bool a0_11, .bool a0_12, .bool false]) ?_ 13 _ rfl; (with_reducible repeat (first | refine blk_drewN ?_ _ | refine blk_drew ?_ | refine blk_alloc ?_ _)); refine blk_put (cs := #[.int .i64 t182, .int .i64 x181001_5, .int .i64 x181002_5, .int .i64 t185, .bool a0_4, .bool a0_5, .bool x181006_18, .bool x181007_5, .bool x181008_5, .bool x181009_5, .bool true, .bool a0_11, .bool false, .bool false]) ?_ 12 _ rfl; (with_reducible repeat (first | refine blk_drewN ?_ _ | refine blk_drew ?_ | refine blk_alloc ?_ _)); refine blk_put (cs := #[.int .i64 t182, .int .i64 x181001_5, .int .i64 x181002_5, .int .i64 t185, .bool a0_4, .bool a0_5, .bool x181006_18, .bool x181007_5, .bool x181008_5, .bool x181009_5, .bool true, .bool false, .bool false, .bool false]) ?_ 11 _ rfl; (with_reducible repeat (first | refine blk_drewN ?_ _ | refine blk_drew ?_ | refine blk_alloc ?_ _)); refine blk_put (cs := #[.int .i64 t182, .int .i64 x181001_5, .int .i64 x181002_5, .int .i64 t185, .bool a0_4, .bool a0_5, .bool x181006_18, .bool x181007_5, .bool x181008_5, .bool x181009_5, .bool false, .bool false, .bool false, .bool false]) ?_ 10 _ rfl; (with_reducible repeat (first | refine blk_drewN ?_ _ | refine blk_drew ?_ | refine blk_alloc ?_ _)); refine blk_put (cs := #[.int .i64 t182, .int .i64 x181001_5, .int .i64 x181002_5, .int .i64 t185, .bool a0_4, .bool a0_5, .bool x181006_18, .bool x181007_5, .bool x181008_5, .bool false, .bool false, .bool false, .bool false, .bool false]) ?_ 9 _ rfl; (with_reducible repeat (first | refine blk_drewN ?_ _ | refine blk_drew ?_ | refine blk_alloc ?_ _)); refine blk_put (cs := #[.int .i64 t182, .int .i64 x181001_5, .int .i64 x181002_5, .int .i64 t185, .bool a0_4, .bool a0_5, .bool x181006_18, .bool x181007_5, .bool false, .bool false, .bool false, .bool false, .bool false, .bool false]) ?_ 8 _ rfl; (with_reducible repeat (first | refine blk_drewN ?_ _ | refine blk_drew ?_ | refine blk_alloc ?_ _)); refine blk_put (cs := #[.int .i64 t182, .int .i64 x181001_5, .int .i64 x181002_5, .int .i64 t185, .bool a0_4, .bool a0_5, .bool x181006_18, .bool false, .bool false, .bool false, .bool false, .bool false, .bool false, .bool false]) ?_ 7 _ rfl; (with_reducible repeat (first | refine blk_drewN ?_ _ | refine blk_drew ?_ | refine blk_alloc ?_ _)); refine blk_put (cs := #[.int .i64 t182, .int .i64 x181001_5, .int .i64 x181002_5, .int .i64 t185, .bool a0_4, .bool a0_5, .bool false, .bool false, .bool false, .bool false, .bool false, .bool false, .bool false, .bool false]) ?_ 6 _ rfl; (with_reducible repeat (first | refine blk_drewN ?_ _ | refine blk_drew ?_ | refine blk_alloc ?_ _)); refine blk_put (cs := #[.int .i64 t182, .int .i64 x181001_5, .int .i64 x181002_5, .int .i64 t185, .bool a0_4, .bool false, .bool false, .bool false, .bool false, .bool false, .bool false, .bool false, .bool false, .bool false]) ?_ 5 _ rfl; (with_reducible repeat (first | refine blk_drewN ?_ _ | refine blk_drew ?_ | refine blk_alloc ?_ _)); refine blk_put (cs := #[.int .i64 t182, .int .i64 x181001_5, .int .i64 x181002_5, .int .i64 t185, .bool false, .bool false, .bool false, .bool false, .bool false, .bool false, .bool false, .bool false, .bool false, .bool false]) ?_ 4 _ rfl; (with_reducible repeat (first | refine blk_drewN ?_ _ | refine blk_drew ?_ | refine blk_alloc ?_ _)); refine blk_put (cs := #[.int .i64 t182, .int .i64 x181001_5, .int .i64 x181002_5, .int .i64 0, .bool false, .bool false, .bool false, .bool false, .bool false, .bool false, .bool false, .bool false, .bool false, .bool false]) ?_ 3 _ rfl; (with_reducible repeat (first | refine blk_drewN ?_ _ | refine blk_drew ?_ | refine blk_alloc ?_ _)); refine blk_put (cs := #[.int .i64 t182, .int .i64 x181001_5, .int .i64 0, .int .i64 0, .bool false, .bool false, .bool false, .bool false, .bool false, .bool false, .bool false, .bool false, .bool false, .bool false]) ?_ 2 _ rfl; (with_reducible repeat (first | refine blk_drewN ?_ _ | refine blk_drew ?_ | refine blk_alloc ?_ _)); refine blk_put (cs := #[.int .i64 t182, .int .i64 0, .int .i64 0, .int .i64 0, .bool false, .bool false, .bool false, .bool false, .bool false, .bool false, .bool false, .bool false, .bool false, .bool false]) ?_ 1 _ rfl; (with_reducible repeat (first | refine blk_drewN ?_ _ | refine blk_drew ?_ | refine blk_alloc ?_ _)); refine blk_put (cs := #[.int .i64 0, .int .i64 0, .int .i64 0, .int .i64 0, .bool false, .bool false, .bool false, .bool false, .bool false, .bool false, .bool false, .bool false, .bool false, .bool false]) ?_ 0 _ rfl; (with_reducible repeat (first | refine blk_drewN ?_ _ | refine blk_drew ?_ | refine blk_alloc ?_ _)); exact BK181.out) Tryd.underlying24 rfl (by kernel_rfl)) rfl ?_
                  exact ⟨by first | rfl | (simp [errW_none, errW_some] <;> rfl) | (simp [*, errW_none, errW_some] <;> rfl), by repeat (first | (with_reducible first | exact HB.out | apply below_alloc | apply pw_below_drewN | apply below_drew1 | refine below_set ?_ GE180.out | refine below_set ?_ GE181.out) | exact HB.out)⟩
                · replace c39 := Bool.eq_false_iff.mpr c39
                  subst c39
                  have H1 : (some (t182, x181001_5, x181002_5, t185, a0_4, a0_5, x181006_18, x181007_5, x181008_5, x181009_5, false, false, a0_12, a0_13)) = some (r1, r2, r3, r4, r5, r6, r7, r8, r9, r10, r11, r12, r13, r14) := by rw [if_neg (show ¬ (false = true) by decide)] at H; exact H
                  clear H
                  have H := H1
                  clear H1
                  simp only [Option.some.injEq, Prod.mk.injEq] at H
                  obtain ⟨rfl, rfl, rfl, rfl, rfl, rfl, rfl, rfl, rfl, rfl, rfl, rfl, rfl, rfl⟩ := H
                  have hnb43 := NB180_181.out
                  have hnc43 := NB181_180.out
                  have hcz44_0 : wc.cell? ⟨gb180, 0, none⟩ = some (.int .i64 t182) := (blk_cell BK180.out 0).trans rfl
                  have hcz44_1 : wc.cell? ⟨gb180, 1, none⟩ = some (.int .i64 x181001_5) := (blk_cell BK180.out 1).trans rfl
                  have hcz44_2 : wc.cell? ⟨gb180, 2, none⟩ = some (.int .i64 x181002_5) := (blk_cell BK180.out 2).trans rfl
                  have hcz44_3 : wc.cell? ⟨gb180, 3, none⟩ = some (.int .i64 t185) := (blk_cell BK180.out 3).trans rfl
                  have hcz44_4 : wc.cell? ⟨gb180, 4, none⟩ = some (.bool a0_4) := (blk_cell BK180.out 4).trans rfl
                  have hcz44_5 : wc.cell? ⟨gb180, 5, none⟩ = some (.bool a0_5) := (blk_cell BK180.out 5).trans rfl
                  have hcz44_6 : wc.cell? ⟨gb180, 6, none⟩ = some (.bool x181006_18) := (blk_cell BK180.out 6).trans rfl
                  have hcz44_7 : wc.cell? ⟨gb180, 7, none⟩ = some (.bool x181007_5) := (blk_cell BK180.out 7).trans rfl
                  have hcz44_8 : wc.cell? ⟨gb180, 8, none⟩ = some (.bool x181008_5) := (blk_cell BK180.out 8).trans rfl
                  have hcz44_9 : wc.cell? ⟨gb180, 9, none⟩ = some (.bool x181009_5) := (blk_cell BK180.out 9).trans rfl
                  have hcz44_10 : wc.cell? ⟨gb180, 10, none⟩ = some (.bool false) := (blk_cell BK180.out 10).trans rfl
                  have hcz44_11 : wc.cell? ⟨gb180, 11, none⟩ = some (.bool a0_11) := (blk_cell BK180.out 11).trans rfl
                  have hcz44_12 : wc.cell? ⟨gb180, 12, none⟩ = some (.bool a0_12) := (blk_cell BK180.out 12).trans rfl
                  have hcz44_13 : wc.cell? ⟨gb180, 13, none⟩ = some (.bool a0_13) := (blk_cell BK180.out 13).trans rfl
                  have hfz44_0 := blk_frozen BK180.out 0
                  have hfz44_1 := blk_frozen BK180.out 1
                  have hfz44_2 := blk_frozen BK180.out 2
                  have hfz44_3 := blk_frozen BK180.out 3
                  have hfz44_4 := blk_frozen BK180.out 4
                  have hfz44_5 := blk_frozen BK180.out 5
                  have hfz44_6 := blk_frozen BK180.out 6
                  have hfz44_7 := blk_frozen BK180.out 7
                  have hfz44_8 := blk_frozen BK180.out 8
                  have hfz44_9 := blk_frozen BK180.out 9
                  have hfz44_10 := blk_frozen BK180.out 10
                  have hfz44_11 := blk_frozen BK180.out 11
                  have hfz44_12 := blk_frozen BK180.out 12
                  have hfz44_13 := blk_frozen BK180.out 13
                  have hcz45_0 : wc.cell? ⟨gb181, 0, none⟩ = some (.int .i64 0) := (blk_cell BK181.out 0).trans rfl
                  have hcz45_1 : wc.cell? ⟨gb181, 1, none⟩ = some (.int .i64 0) := (blk_cell BK181.out 1).trans rfl
                  have hcz45_2 : wc.cell? ⟨gb181, 2, none⟩ = some (.int .i64 0) := (blk_cell BK181.out 2).trans rfl
                  have hcz45_3 : wc.cell? ⟨gb181, 3, none⟩ = some (.int .i64 0) := (blk_cell BK181.out 3).trans rfl
                  have hcz45_4 : wc.cell? ⟨gb181, 4, none⟩ = some (.bool false) := (blk_cell BK181.out 4).trans rfl
                  have hcz45_5 : wc.cell? ⟨gb181, 5, none⟩ = some (.bool false) := (blk_cell BK181.out 5).trans rfl
                  have hcz45_6 : wc.cell? ⟨gb181, 6, none⟩ = some (.bool false) := (blk_cell BK181.out 6).trans rfl
                  have hcz45_7 : wc.cell? ⟨gb181, 7, none⟩ = some (.bool false) := (blk_cell BK181.out 7).trans rfl
                  have hcz45_8 : wc.cell? ⟨gb181, 8, none⟩ = some (.bool false) := (blk_cell BK181.out 8).trans rfl
                  have hcz45_9 : wc.cell? ⟨gb181, 9, none⟩ = some (.bool false) := (blk_cell BK181.out 9).trans rfl
                  have hcz45_10 : wc.cell? ⟨gb181, 10, none⟩ = some (.bool false) := (blk_cell BK181.out 10).trans rfl
                  have hcz45_11 : wc.cell? ⟨gb181, 11, none⟩ = some (.bool false) := (blk_cell BK181.out 11).trans rfl
                  have hcz45_12 : wc.cell? ⟨gb181, 12, none⟩ = some (.bool false) := (blk_cell BK181.out 12).trans rfl
                  have hcz45_13 : wc.cell? ⟨gb181, 13, none⟩ = some (.bool false) := (blk_cell BK181.out 13).trans rfl
                  have hfz45_0 := blk_frozen BK181.out 0
                  have hfz45_1 := blk_frozen BK181.out 1
                  have hfz45_2 := blk_frozen BK181.out 2
                  have hfz45_3 := blk_frozen BK181.out 3
                  have hfz45_4 := blk_frozen BK181.out 4
                  have hfz45_5 := blk_frozen BK181.out 5
                  have hfz45_6 := blk_frozen BK181.out 6
                  have hfz45_7 := blk_frozen BK181.out 7
                  have hfz45_8 := blk_frozen BK181.out 8
                  have hfz45_9 := blk_frozen BK181.out 9
                  have hfz45_10 := blk_frozen BK181.out 10
                  have hfz45_11 := blk_frozen BK181.out 11
                  have hfz45_12 := blk_frozen BK181.out 12
                  have hfz45_13 := blk_frozen BK181.out 13
                  go_wp2
                  refine bodyPost_ret (results_cell_row rfl _ _ gb181 24 #[.int .i64 t182, .int .i64 x181001_5, .int .i64 x181002_5, .int .i64 t185, .bool a0_4, .bool a0_5, .bool x181006_18, .bool x181007_5, .bool x181008_5, .bool x181009_5, .bool false, .bool false, .bool a0_12, .bool a0_13] (0, 0) _ rfl (by (with_reducible repeat (first | refine blk_drewN ?_ _ | refine blk_drew ?_ | refine blk_alloc ?_ _)); refine blk_put (cs := #[.int .i64 t182, .int .i64 x181001_5, .int .i64 x181002_5, .int .i64 t185, .bool a0_4, .bool a0_5, .bool x181006_18, .bool x181007_5, .bool x181008_5, .bool x181009_5, .bool false, .bool false, .bool a0_12, .bool false]) ?_ 13 _ rfl; (with_reducible repeat (first | refine blk_drewN ?_ _ | refine blk_drew ?_ | refine blk_alloc ?_ _)); refine blk_put (cs := #[.int .i64 t182, .int .i64 x181001_5, .int .i64 x181002_5, .int .i64 t185, .bool a0_4, .bool a0_5, .bool x181006_18, .bool x181007_5, .bool x181008_5, .bool x181009_5, .bool false, .bool false, .bool false, .bool false]) ?_ 12 _ rfl; (with_reducible repeat (first | refine blk_drewN ?_ _ | refine blk_drew ?_ | refine blk_alloc ?_ _)); refine blk_put (cs := #[.int .i64 t182, .int .i64 x181001_5, .int .i64 x181002_5, .int .i64 t185, .bool a0_4, .bool a0_5, .bool x181006_18, .bool x181007_5, .bool x181008_5, .bool x181009_5, .bool false, .bool false, .bool false, .bool false]) ?_ 11 _ rfl; (with_reducible repeat (first | refine blk_drewN ?_ _ | refine blk_drew ?_ | refine blk_alloc ?_ _)); refine blk_put (cs := #[.int .i64 t182, .int .i64 x181001_5, .int .i64 x181002_5, .int .i64 t185, .bool a0_4, .bool a0_5, .bool x181006_18, .bool x181007_5, .bool x181008_5, .bool x181009_5, .bool false, .bool false, .bool false, .bool false]) ?_ 10 _ rfl; (with_reducible repeat (first | refine blk_drewN ?_ _ | refine blk_drew ?_ | refine blk_alloc ?_ _)); refine blk_put (cs := #[.int .i64 t182, .int .i64 x181001_5, .int .i64 x181002_5, .int .i64 t185, .bool a0_4, .bool a0_5, .bool x181006_18, .bool x181007_5, .bool x181008_5, .bool false, .bool false, .bool false, .bool false, .bool false]) ?_ 9 _ rfl; (with_reducible repeat (first | refine blk_drewN ?_ _ | refine blk_drew ?_ | refine blk_alloc ?_ _)); refine blk_put (cs := #[.int .i64 t182, .int .i64 x181001_5, .int .i64 x181002_5, .int .i64 t185, .bool a0_4, .bool a0_5, .bool x181006_18, .bool x181007_5, .bool false, .bool false, .bool false, .bool false, .bool false, .bool false]) ?_ 8 _ rfl; (with_reducible repeat (first | refine blk_drewN ?_ _ | refine blk_drew ?_ | refine blk_alloc ?_ _)); refine blk_put (cs := #[.int .i64 t182, .int .i64 x181001_5, .int .i64 x181002_5, .int .i64 t185, .bool a0_4, .bool a0_5, .bool x181006_18, .bool false, .bool false, .bool false, .bool false, .bool false, .bool false, .bool false]) ?_ 7 _ rfl; (with_reducible repeat (first | refine blk_drewN ?_ _ | refine blk_drew ?_ | refine blk_alloc ?_ _)); refine blk_put (cs := #[.int .i64 t182, .int .i64 x181001_5, .int .i64 x181002_5, .int .i64 t185, .bool a0_4, .bool a0_5, .bool false, .bool false, .bool false, .bool false, .bool false, .bool false, .bool false, .bool false]) ?_ 6 _ rfl; (with_reducible repeat (first | refine blk_drewN ?_ _ | refine blk_drew ?_ | refine blk_alloc ?_ _)); refine blk_put (cs := #[.int .i64 t182, .int .i64 x181001_5, .int .i64 x181002_5, .int .i64 t185, .bool a0_4, .bool false, .bool false, .bool false, .bool false, .bool false, .bool false, .bool false, .bool false, .bool false]) ?_ 5 _ rfl; (with_reducible repeat (first | refine blk_drewN ?_ _ | refine blk_drew ?_ | refine blk_alloc ?_ _)); refine blk_put (cs := #[.int .i64 t182, .int .i64 x181001_5, .int .i64 x181002_5, .int .i64 t185, .bool false, .bool false, .bool false, .bool false, .bool false, .bool false, .bool false, .bool false, .bool false, .bool false]) ?_ 4 _ rfl; (with_reducible repeat (first | refine blk_drewN ?_ _ | refine blk_drew ?_ | refine blk_alloc ?_ _)); refine blk_put (cs := #[.int .i64 t182, .int .i64 x181001_5, .int .i64 x181002_5, .int .i64 0, .bool false, .bool false, .bool false, .bool false, .bool false, .bool false, .bool false, .bool false, .bool false, .bool false]) ?_ 3 _ rfl; (with_reducible repeat (first | refine blk_drewN ?_ _ | refine blk_drew ?_ | refine blk_alloc ?_ _)); refine blk_put (cs := #[.int .i64 t182, .int .i64 x181001_5, .int .i64 0, .int .i64 0, .bool false, .bool false, .bool false, .bool false, .bool false, .bool false, .bool false, .bool false, .bool false, .bool false]) ?_ 2 _ rfl; (with_reducible repeat (first | refine blk_drewN ?_ _ | refine blk_drew ?_ | refine blk_alloc ?_ _)); refine blk_put (cs := #[.int .i64 t182, .int .i64 0, .int .i64 0, .int .i64 0, .bool false, .bool false, .bool false, .bool false, .bool false, .bool false, .bool false, .bool false, .bool false, .bool false]) ?_ 1 _ rfl; (with_reducible repeat (first | refine blk_drewN ?_ _ | refine blk_drew ?_ | refine blk_alloc ?_ _)); refine blk_put (cs := #[.int .i64 0, .int .i64 0, .int .i64 0, .int .i64 0, .bool false, .bool false, .bool false, .bool false, .bool false, .bool false, .bool false, .bool false, .bool false, .bool false]) ?_ 0 _ rfl; (with_reducible repeat (first | refine blk_drewN ?_ _ | refine blk_drew ?_ | refine blk_alloc ?_ _)); refine blk_far ?_ NB181_180.out _; (with_reducible repeat (first | refine blk_drewN ?_ _ | refine blk_drew ?_ | refine blk_alloc ?_ _)); exact BK181.out) Tryd.underlying24 rfl (by kernel_rfl)) rfl ?_
                  exact ⟨by first | rfl | (simp [errW_none, errW_some] <;> rfl) | (simp [*, errW_none, errW_some] <;> rfl), by repeat (first | (with_reducible first | exact HB.out | apply below_alloc | apply pw_below_drewN | apply below_drew1 | refine below_set ?_ GE180.out | refine below_set ?_ GE181.out) | exact HB.out)⟩
end Go.Proofs.YtknghhlielhleaaDoor.PSpellBack
