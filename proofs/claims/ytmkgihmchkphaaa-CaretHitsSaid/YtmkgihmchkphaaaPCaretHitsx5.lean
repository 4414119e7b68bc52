-- PRINTED by print.py (a twelfth state) out of the translation. Not trusted: Lean checks it.
import Derived.Test.YtmkgihmchkphaaaPCaretHitsx0
import Derived.Test.YtmkgihmchkphaaaPCaretHitsx4
namespace Go.Proofs.Ytmkgihmchkphaaa.PCaretHits
open Go.RowKit Go.Proofs.YtmkgihmchkphaaaM Go.Proofs.YtmkgihmchkphaaaW.PrintWords Go.Proofs.YtmkgihmchkphaaaW.PrintLast Go.Proofs.YtmkgihmchkphaaaW.PrintMore
attribute [local go_sem] max2_int min2_int max_two min_two max_three min_three max_four min_four   -- for this text's walks alone
set_option linter.unusedVariables false
set_option linter.unusedSimpArgs false

/-! ### slices_Reverse_int_int: function 51 -/
def slices_Reverse_int_int.l0 : Nat → List Int → Int → Int → Option (List Int)
  | 0, _, _, _ => none
  | k + 1, x0, x2, x3 => if x2 < x3 then (if 0 ≤ x3 then (if x3 < (x0.length : Int) then (if 0 ≤ x2 then (if x2 < (x0.length : Int) then (slices_Reverse_int_int.l0 k ((x0.set (x2 : Int).toNat (rd x0 x3)).set (x3 : Int).toNat (rd x0 x2)) (wrap64 (x2 + 1)) (wrap64 (x3 - 1))) else (none)) else (none)) else (none)) else (none)) else (some x0)
def slices_Reverse_int_int.f (k : Nat) (l0 : List Int) : Option (List Int) := slices_Reverse_int_int.l0 k l0 0 (wrap64 ((l0.length : Int) - 1))
theorem slices_Reverse_int_int.mono_l : ∀ k, (∀ y0 y1 y2, LeO (slices_Reverse_int_int.l0 k y0 y1 y2) (slices_Reverse_int_int.l0 (k + 1) y0 y1 y2))
  | 0 => fun _ _ _ r h => by simp [slices_Reverse_int_int.l0] at h
  | k + 1 => by
    have ih0 := slices_Reverse_int_int.mono_l k
    · intro y0 y1 y2
      unfold slices_Reverse_int_int.l0
      repeat' first
      | (with_reducible exact ih0 _ _ _)
      | (with_reducible exact LeO.refl _)
      | (with_reducible exact LeO.none _)
      | (with_reducible refine LeO.ite ?_ ?_)
      | (with_reducible refine LeO.bind ?_ (fun _ => ?_))
      | exact ih0 _ _ _
      | exact LeO.none _
      | refine LeO.ite ?_ ?_
      | refine LeO.bind ?_ (fun _ => ?_)
theorem slices_Reverse_int_int.mono : ∀ a0 k, LeO (slices_Reverse_int_int.f k a0) (slices_Reverse_int_int.f (k + 1) a0) := by
  intro a0 k
  have ih0 := slices_Reverse_int_int.mono_l k
  unfold slices_Reverse_int_int.f
  repeat' first
      | (with_reducible exact ih0 _ _ _)
      | (with_reducible exact LeO.refl _)
      | (with_reducible exact LeO.none _)
      | (with_reducible refine LeO.ite ?_ ?_)
      | (with_reducible refine LeO.bind ?_ (fun _ => ?_))
      | exact ih0 _ _ _
      | exact LeO.none _
      | refine LeO.ite ?_ ?_
      | refine LeO.bind ?_ (fun _ => ?_)
def slices_Reverse_int_int.T3 : Bool × List (List Nat × List Nat) := (true, [([], []), ([], []), ([], []), ([], []), ([], []), ([], []), ([4, 5], [4, 5]), ([6], [6]), ([], []), ([], []), ([8, 9], [8, 9]), ([10], [10]), ([0, 1, 0, 1, 4, 5, 6, 7, 11], [0, 1]), ([12, 7, 0, 1, 4, 5, 6, 7, 11], [7, 12]), ([2, 3, 0, 1, 2, 3, 4, 5, 6, 7, 8, 9, 10, 11, 12, 13], [2, 3]), ([14, 11, 13, 0, 1, 2, 3, 4, 5, 6, 7, 8, 9, 10, 11, 12, 13], [11, 14])])
def slices_Reverse_int_int.B3 : List Nat := [0, 0, 0, 0, 0, 0, 48, 112, 0, 0, 768, 1792, 4083, 8179, 16383, 32767]
theorem slices_Reverse_int_int.tab3 : rtab .any (opsOf Try.f51 3) = slices_Reverse_int_int.T3 := by kernel_rfl
theorem slices_Reverse_int_int.bits3 : waitsOk slices_Reverse_int_int.T3.2 slices_Reverse_int_int.B3 = true := by kernel_rfl
set_option maxHeartbeats 8000000 in
set_option maxRecDepth 100000 in
theorem slices_Reverse_int_int.calls (k : Nat) (P0_ : Nat → Prop) (u9000_ : Value) (l0 : List Int) (r : List Int) (w0 w : World) (hB : Below w0.heap.size w0 w) (ho0 : Kd.R (Kd.int .i64) 3 w w0.heap.size P0_ u9000_ l0) (h : slices_Reverse_int_int.f k l0 = some r) :
    Calls Try.prog 51 #[u9000_] w fun e w' => e = .returned (.tuple #[]) ∧ Kd.R (Kd.int .i64) 3 w' w0.heap.size (fun k_ => (P0_ k_ ∨ w.heap.size ≤ k_)) u9000_ r ∧ Below w0.heap.size w0 w' ∧ Kept w w' (fun k_ => P0_ k_) := by
  have HO0 := Aside0.mk (show Kd.R (Kd.int .i64) 3 w w0.heap.size (fun k_ => (P0_ k_ ∨ w.heap.size ≤ k_)) u9000_ l0 from Kd.R_mono ho0 (fun k_ hk => (.inl hk)))
  have HK := Aside0.mk (Kept.refl w (fun k_ => P0_ k_))
  have HW0 := Aside0.mk hB.size
  have HB := Aside0.mk hB
  clear hB
  have H : (slices_Reverse_int_int.l0 k l0 0 (wrap64 ((l0.length : Int) - 1))) = some r := h
  clear h
  have H' := Aside0.mk H
  clear H
  obtain ⟨Ao2, co2, eo2⟩ := Kd.R_slice HO0.out
  subst eo2
  go_enter Try.func51, Try.ntmps51
  go_wp2
  go_loopg [2, 3] k (fun kq v2 v3 w' => ∃ (x0_1 : List Int) (x2_1 : Int) (x3_1 : Int), v2 = .int .i64 x2_1 ∧ v3 = .int .i64 x3_1 ∧ Aside0 (slices_Reverse_int_int.l0 kq x0_1 x2_1 x3_1 = some r) ∧ Aside0 (kq ≤ k) ∧ Aside0 (Kd.R (Kd.int .i64) 3 w' w0.heap.size (fun k_ => (P0_ k_ ∨ w.heap.size ≤ k_)) (.slice Ao2 l0.length co2) x0_1) ∧ Aside0 (Kept w w' (fun k_ => P0_ k_)) ∧ Aside0 (Below w0.heap.size w0 w'))
  case atStart => exact ⟨(l0), (0), (wrap64 ((l0.length : Int) - 1)), (by first | rfl | (simp; done) | (simp [*]; done)), (by first | rfl | (simp; done) | (simp [*]; done)), H', ⟨Nat.le_refl _⟩, ⟨by (with_reducible repeat (first | apply Kd.R_alloc | apply Kd.R_drewN | apply Kd.R_drew)); exact HO0.out⟩, ⟨by repeat (first | (with_reducible first | exact HK.out | apply Kept.alloc | apply Kept.drewN | apply Kept.drew) | exact HK.out)⟩, ⟨by repeat (first | (with_reducible first | exact HB.out | apply below_alloc | apply pw_below_drewN | apply below_drew1) | exact HB.out)⟩⟩
  case round =>
    clear H'
    try clear p2
    obtain ⟨x0_1, x2_1, x3_1, rfl, rfl, HA, HK1, HO_0, HK, HB⟩ := hrel
    have hl0_1 := (Kd.R_reads' HO_0.out).1
    rw [hl0_1] at HO_0
    (try simp only [hl0_1])
    cases gk with
    | zero => exact absurd HA.out (by simp [slices_Reverse_int_int.l0])
    | succ k1 =>
      have H := HA.out
      clear HA
      simp only [slices_Reverse_int_int.l0] at H
      by_cases c3 : x2_1 < x3_1
      · rw [if_pos c3] at H
        have c3b0 : decide (x2_1 < x3_1) = true := decide_eq_true c3
        clear c3
        by_cases c4 : 0 ≤ x3_1
        · rw [if_pos c4] at H
          have c4b0 : decide (0 ≤ x3_1) = true := decide_eq_true c4
          clear c4
          by_cases c5 : x3_1 < (x0_1.length : Int)
          · rw [if_pos c5] at H
            have c5b0 : decide (x3_1 < (x0_1.length : Int)) = true := decide_eq_true c5
            clear c5
            by_cases c6 : 0 ≤ x2_1
            · rw [if_pos c6] at H
              have c6b0 : decide (0 ≤ x2_1) = true := decide_eq_true c6
              clear c6
              by_cases c7 : x2_1 < (x0_1.length : Int)
              · rw [if_pos c7] at H
                have c7b0 : decide (x2_1 < (x0_1.length : Int)) = true := decide_eq_true c7
                clear c7
                obtain ⟨y155, hy155⟩ : ∃ y_ : List Int, y_ = (x0_1.set (x2_1 : Int).toNat (rd x0_1 x3_1)) := ⟨_, rfl⟩
                replace H : (slices_Reverse_int_int.l0 k1 (y155.set (x3_1 : Int).toNat (rd x0_1 x2_1)) (wrap64 (x2_1 + 1)) (wrap64 (x3_1 - 1))) = some r := by first | (rw [hy155]; with_reducible exact H) | (have H2_ := (Option.bind_some _ _).symm.trans H; rw [hy155]; with_reducible exact H2_) | (have H2_ := (Option.bind_some _ _).symm.trans H; with_reducible exact H2_) | with_reducible exact H | (rw [hy155]; exact H) | exact H
                have Ny155 := Aside0.mk hy155
                clear hy155
                obtain ⟨y156, hy156⟩ : ∃ y_ : List Int, y_ = (y155.set (x3_1 : Int).toNat (rd x0_1 x2_1)) := ⟨_, rfl⟩
                replace H : (slices_Reverse_int_int.l0 k1 y156 (wrap64 (x2_1 + 1)) (wrap64 (x3_1 - 1))) = some r := by first | (rw [hy156]; with_reducible exact H) | (have H2_ := (Option.bind_some _ _).symm.trans H; rw [hy156]; with_reducible exact H2_) | (have H2_ := (Option.bind_some _ _).symm.trans H; with_reducible exact H2_) | with_reducible exact H | (rw [hy156]; exact H) | exact H
                have Ny156 := Aside0.mk hy156
                clear hy156
                have H' := Aside0.mk H
                clear H
                try go_wp2
                have n0_ := Aside0.mk (Kd.R_drew HO_0.out)
                have n1_ := Aside0.mk (Kept.drew HK.out)
                have n2_ := Aside0.mk (below_drew1 HB.out)
                clear HO_0
                clear HK
                clear HB
                have HO_0 := n0_
                have HK := n1_
                have HB := n2_
                clear n0_ n1_ n2_
                have p153 : 0 ≤ (x3_1 : Int) := of_decide_eq_true (by first | (with_reducible assumption) | assumption)
                have q153 : x3_1 < (x0_1.length : Int) := of_decide_eq_true (by first | (with_reducible assumption) | assumption)
                obtain ⟨ad153, e153, hx153_0⟩ := Kd.at_int (Kd.R_reads' HO_0.out).2.2 x3_1 p153 q153
                cases e153
                replace p153 := eq_true p153
                replace q153 := eq_true q153
                have p154 : 0 ≤ (x2_1 : Int) := of_decide_eq_true (by first | (with_reducible assumption) | assumption)
                have q154 : x2_1 < (x0_1.length : Int) := of_decide_eq_true (by first | (with_reducible assumption) | assumption)
                obtain ⟨ad154, e154, hx154_0⟩ := Kd.at_int (Kd.R_reads' HO_0.out).2.2 x2_1 p154 q154
                obtain rfl : ad153 = ad154 := (by injection e154)
                replace p154 := eq_true p154
                replace q154 := eq_true q154
                have p8 : 0 ≤ (x2_1 : Int) := of_decide_eq_true (by first | (with_reducible assumption) | assumption)
                have q8 : (x2_1 : Int) < ((x0_1.length : Int) : Int) := of_decide_eq_true (by first | (with_reducible assumption) | assumption)
                obtain ⟨go8, co8, eo8, gb8, gl8, cl8, HG8⟩ := Kd.R_form HO_0.out (by omega)
                (first | cases eo8 | (injection eo8 with ea_ en_ ec_; (first | subst ea_ | (injection ea_ with ea_; subst ea_)); subst ec_; clear en_))
                have GB8 := Aside0.mk gb8
                have GG8 := Aside0.mk HG8
                clear gb8 gl8 HG8
                have HMgo8 := Aside0.mk (show (P0_ go8 ∨ w.heap.size ≤ go8) from (HO_0.out.1 _ rfl))
                (first | simp only [add_plain] at hx153_0 | skip)
                (first | simp only [add_plain] at hx154_0 | skip)
                obtain ⟨hx8_0, hf8_0⟩ := Kd.R_celln 0 HO_0.out (x2_1 : Int) p8 q8
                replace p8 := eq_true p8
                replace q8 := eq_true q8
                have HP11 := Kd.R_putn HO_0.out (x2_1 : Int) (rd x0_1 x3_1)
                rw [← Ny155.out] at HP11
                have HQ11 := Aside0.mk HP11
                clear HP11
                have p9 : 0 ≤ (x3_1 : Int) := of_decide_eq_true (by first | (with_reducible assumption) | assumption)
                have q9 : (x3_1 : Int) < ((x0_1.length : Int) : Int) := of_decide_eq_true (by first | (with_reducible assumption) | assumption)
                obtain ⟨hx9_0, hf9_0⟩ := Kd.R_celln 0 HQ11.out (x3_1 : Int) p9 q9
                replace p9 := eq_true p9
                replace q9 := eq_true q9
                have HP12 := Kd.R_putn HQ11.out (x3_1 : Int) (rd x0_1 x2_1)
                rw [← Ny156.out] at HP12
                have HQ12 := Aside0.mk HP12
                clear HP12
                refine start_ (n := 16) (S := fun w' => w'.cell? ⟨go8, (x3_1).toNat, none⟩ = some (.int .i64 (rd x0_1 x3_1)) ∧ w'.cell? ⟨go8, (x2_1).toNat, none⟩ = some (.int .i64 (rd x0_1 x2_1))) (ds := [13, 15]) #[false, false, false, false, false, false, false, false, false, false, false, false, false, false, false, false] (by kernel_rfl) rfl rfl ⟨hx153_0, hx154_0⟩ (fun hHeld => ?_); refine with_tabW slices_Reverse_int_int.tab3 slices_Reverse_int_int.bits3 (fun HT_ HW_ => ?_)
                generalize wr.drew = w10 at HO_0 HK HB GG8 HQ11 HQ12 hf8_0 hf9_0 hx153_0 hx154_0 hx8_0 hx9_0 hHeld ⊢
                refine pure_ (i := 0) (N := some 14) (v := ?_) (a' := ?_) #[true, false, false, false, false, false, false, false, false, false, false, false, false, false, false, false] rfl rfl (any_of HT_.out (by kernel_rfl)) (fun _ _ _ h => h) (Or.inl ⟨by rfl, ?_⟩) ?_ ?_
                rotate_left
                · intro w'
                  go_simp
                  with_reducible rfl
                rotate_left
                · simp only [Act.put, List.setIfInBounds_toArray, List.set_cons_zero, List.set_cons_succ, i64_w, i32_w]
                  rfl
                refine pure_ (i := 1) (N := some 15) (v := ?_) (a' := ?_) #[true, true, false, false, false, false, false, false, false, false, false, false, false, false, false, false] rfl rfl (any_of HT_.out (by kernel_rfl)) (fun _ _ _ h => h) (Or.inl ⟨by rfl, ?_⟩) ?_ ?_
                rotate_left
                · intro w'
                  go_simp
                  with_reducible rfl
                rotate_left
                · simp only [Act.put, List.setIfInBounds_toArray, List.set_cons_zero, List.set_cons_succ, i64_w, i32_w]
                  rfl
                refine pure_ (i := 2) (N := some 16) (v := ?_) (a' := ?_) #[true, true, true, false, false, false, false, false, false, false, false, false, false, false, false, false] rfl rfl (any_of HT_.out (by kernel_rfl)) (fun _ _ _ h => h) (Or.inl ⟨by rfl, ?_⟩) ?_ ?_
                rotate_left
                · intro w'
                  go_simp
                  with_reducible rfl
                rotate_left
                · simp only [Act.put, List.setIfInBounds_toArray, List.set_cons_zero, List.set_cons_succ, i64_w, i32_w]
                  rfl
                refine pure_ (i := 3) (N := some 17) (v := ?_) (a' := ?_) #[true, true, true, true, false, false, false, false, false, false, false, false, false, false, false, false] rfl rfl (any_of HT_.out (by kernel_rfl)) (fun _ _ _ h => h) (Or.inl ⟨by rfl, ?_⟩) ?_ ?_
                rotate_left
                · intro w'
                  go_simp
                  with_reducible rfl
                rotate_left
                · simp only [Act.put, List.setIfInBounds_toArray, List.set_cons_zero, List.set_cons_succ, i64_w, i32_w]
                  rfl
                refine pure_ (i := 4) (N := some 18) (v := ?_) (a' := ?_) #[true, true, true, true, true, false, false, false, false, false, false, false, false, false, false, false] rfl rfl (any_of HT_.out (by kernel_rfl)) (fun _ _ _ h => h) (Or.inl ⟨by rfl, ?_⟩) ?_ ?_
                rotate_left
                · intro w'
                  go_simp
                  with_reducible rfl
                rotate_left
                · simp only [Act.put, List.setIfInBounds_toArray, List.set_cons_zero, List.set_cons_succ, i64_w, i32_w]
                  rfl
                refine pure_ (i := 5) (N := some 19) (v := ?_) (a' := ?_) #[true, true, true, true, true, true, false, false, false, false, false, false, false, false, false, false] rfl rfl (any_of HT_.out (by kernel_rfl)) (fun _ _ _ h => h) (Or.inl ⟨by rfl, ?_⟩) ?_ ?_
                rotate_left
                · intro w'
                  go_simp
                  with_reducible rfl
                rotate_left
                · simp only [Act.put, List.setIfInBounds_toArray, List.set_cons_zero, List.set_cons_succ, i64_w, i32_w]
                  rfl
                refine pure_ (i := 6) (N := some 20) (v := ?_) (a' := ?_) #[true, true, true, true, true, true, true, false, false, false, false, false, false, false, false, false] rfl rfl (any_of HT_.out (by kernel_rfl)) (fun _ _ _ h => h) (Or.inl ⟨by rfl, ?_⟩) ?_ ?_
                rotate_left
                · intro w'
                  go_simp
                  with_reducible rfl
                rotate_left
                · simp only [Act.put, List.setIfInBounds_toArray, List.set_cons_zero, List.set_cons_succ, i64_w, i32_w]
                  rfl
                refine pure_ (i := 8) (N := some 22) (v := ?_) (a' := ?_) #[true, true, true, true, true, true, true, false, true, false, false, false, false, false, false, false] rfl rfl (any_of HT_.out (by kernel_rfl)) (fun _ _ _ h => h) (Or.inl ⟨by rfl, ?_⟩) ?_ ?_
                rotate_left
                · intro w'
                  go_simp
                  with_reducible rfl
                rotate_left
                · simp only [Act.put, List.setIfInBounds_toArray, List.set_cons_zero, List.set_cons_succ, i64_w, i32_w]
                  rfl
                refine pure_ (i := 9) (N := some 23) (v := ?_) (a' := ?_) #[true, true, true, true, true, true, true, false, true, true, false, false, false, false, false, false] rfl rfl (any_of HT_.out (by kernel_rfl)) (fun _ _ _ h => h) (Or.inl ⟨by rfl, ?_⟩) ?_ ?_
                rotate_left
                · intro w'
                  go_simp
                  with_reducible rfl
                rotate_left
                · simp only [Act.put, List.setIfInBounds_toArray, List.set_cons_zero, List.set_cons_succ, i64_w, i32_w]
                  rfl
                refine pure_ (i := 10) (N := some 24) (v := ?_) (a' := ?_) #[true, true, true, true, true, true, true, false, true, true, true, false, false, false, false, false] rfl rfl (any_of HT_.out (by kernel_rfl)) (fun _ _ _ h => h) (Or.inl ⟨by rfl, ?_⟩) ?_ ?_
                rotate_left
                · intro w'
                  go_simp
                  with_reducible rfl
                rotate_left
                · simp only [Act.put, List.setIfInBounds_toArray, List.set_cons_zero, List.set_cons_succ, i64_w, i32_w]
                  rfl
                refine take_ (i := 7) (N := some 21) (v := ?_) (a' := ?_) #[true, true, true, true, true, true, true, true, true, true, true, false, false, false, false, false] rfl rfl (take_ofW HT_.out HW_.out (by kernel_rfl)) (fun _ _ _ h => h) (Or.inl ⟨by rfl, ?_⟩) hHeld ?_ ?_
                rotate_left
                · rintro w' ⟨s0, s1⟩
                  go_simp
                  with_reducible rfl
                rotate_left
                · simp only [Act.put, List.setIfInBounds_toArray, List.set_cons_zero, List.set_cons_succ, i64_w, i32_w]
                  rfl
                refine take_ (i := 11) (N := some 25) (v := ?_) (a' := ?_) #[true, true, true, true, true, true, true, true, true, true, true, true, false, false, false, false] rfl rfl (take_ofW HT_.out HW_.out (by kernel_rfl)) (fun _ _ _ h => h) (Or.inl ⟨by rfl, ?_⟩) hHeld ?_ ?_
                rotate_left
                · rintro w' ⟨s0, s1⟩
                  go_simp
                  with_reducible rfl
                rotate_left
                · simp only [Act.put, List.setIfInBounds_toArray, List.set_cons_zero, List.set_cons_succ, i64_w, i32_w]
                  rfl
                refine pure_ (i := 12) (N := some 26) (v := ?_) (a' := ?_) #[true, true, true, true, true, true, true, true, true, true, true, true, true, false, false, false] rfl rfl (any_of HT_.out (by kernel_rfl)) (fun _ _ _ h => h) (Or.inl ⟨by rfl, ?_⟩) ?_ ?_
                rotate_left
                · intro w'
                  go_simp
                  with_reducible rfl
                rotate_left
                · simp only [Act.put, List.setIfInBounds_toArray, List.set_cons_zero, List.set_cons_succ, i64_w, i32_w]
                  rfl
                refine last_ (i := 13) (N := none) #[true, true, true, true, true, true, true, true, true, true, true, true, true, true, false, false] rfl rfl (one_of HT_.out (by kernel_rfl)) (by decide) (fun K hK => ?_)
                refine skip_ (w1 := ?_) (by rfl) rfl ?_ ?_
                rotate_left
                · go_simp
                  rfl
                refine hK.out _ _ ?_
                clear hK K
                refine pure_ (i := 14) (N := some 27) (v := ?_) (a' := ?_) #[true, true, true, true, true, true, true, true, true, true, true, true, true, true, true, false] rfl rfl (any_of HT_.out (by kernel_rfl)) (fun _ _ _ h => h) (Or.inl ⟨by rfl, ?_⟩) ?_ ?_
                rotate_left
                · intro w'
                  go_simp
                  with_reducible rfl
                rotate_left
                · simp only [Act.put, List.setIfInBounds_toArray, List.set_cons_zero, List.set_cons_succ, i64_w, i32_w]
                  rfl
                refine last_ (i := 15) (N := none) #[true, true, true, true, true, true, true, true, true, true, true, true, true, true, true, true] rfl rfl (one_of HT_.out (by kernel_rfl)) (by decide) (fun K hK => ?_)
                refine skip_ (w1 := ?_) (by rfl) rfl ?_ ?_
                rotate_left
                · go_simp
                  rfl
                refine hK.out _ _ ?_
                clear hK K
                refine done_ (done_of HT_.out (by kernel_rfl)) ?_
                try go_wp2
                (try simp only [← hl0_1])
                go_roundg k1
                case measure => have := HK1.out; omega
                case rel => exact ⟨(y156), (wrap64 (x2_1 + 1)), (wrap64 (x3_1 - 1)), (by first | rfl | (simp; done) | (simp [*]; done)), (by first | rfl | (simp; done) | (simp [*]; done)), H', ⟨by have := HK1.out; omega⟩, ⟨by (try simp only [hl0_1]); (with_reducible repeat (first | apply Kd.R_alloc | apply Kd.R_drewN | apply Kd.R_drew)); exact HQ12.out⟩, ⟨by repeat (first | (with_reducible first | exact HK.out | apply Kept.alloc | apply Kept.drewN | apply Kept.drew | refine Kept.setCell ?_ HMgo8.out _ | refine Kept.setCell ?_ HMgo8.out _) | exact HK.out)⟩, ⟨by repeat (first | (with_reducible first | exact HB.out | apply below_alloc | apply pw_below_drewN | apply below_drew1 | refine below_set ?_ GB8.out | refine below_set ?_ GB8.out) | exact HB.out)⟩⟩
              · rw [if_neg c7] at H
                exact absurd H (by simp)
            · rw [if_neg c6] at H
              exact absurd H (by simp)
          · rw [if_neg c5] at H
            exact absurd H (by simp)
        · rw [if_neg c4] at H
          exact absurd H (by simp)
      · rw [if_neg c3] at H
        have c3b0 : decide (x2_1 < x3_1) = false := decide_eq_false c3
        clear c3
        obtain rfl := Option.some.inj H
        go_wp2
        first | go_end0 | ((try simp only [Exit.inBlock, Exit.then]); refine bodyPost_ret (results_none rfl _ _ _) rfl ?_)
        exact ⟨by first | rfl | (simp [errW_none, errW_some] <;> rfl) | (simp [*, errW_none, errW_some] <;> rfl), (by first | exact (by (with_reducible repeat (first | apply Kd.R_alloc | apply Kd.R_drewN | apply Kd.R_drew)); exact HO_0.out) | (simp only [hl0_1]; exact (by (with_reducible repeat (first | apply Kd.R_alloc | apply Kd.R_drewN | apply Kd.R_drew)); exact HO_0.out))), by repeat (first | (with_reducible first | exact HB.out | apply below_alloc | apply pw_below_drewN | apply below_drew1) | exact HB.out), by repeat (first | (with_reducible first | exact HK.out | apply Kept.alloc | apply Kept.drewN | apply Kept.drew) | exact HK.out)⟩

-- NOT PRINTED: function 104 (order_line_row)

-- NOT PRINTED: function 90 (order_line_turn)

/-! ### order_Visual: function 67 -/
/-- The reach of a row: the places from lo on whose levels are not below. -/
def order_Visual.run (lv : List Int) (level : Int) (o : List Int) : Nat := (o.takeWhile (fun p => decide (level ≤ rd lv p))).length
theorem order_Visual.run_nil (lv : List Int) (level : Int) : order_Visual.run lv level [] = 0 := rfl
theorem order_Visual.run_yes (lv : List Int) (level : Int) (o : List Int) (h : Nat) (hh : h < o.length) (hl : level ≤ rd lv (o.getD h 0)) : order_Visual.run lv level (o.drop h) = order_Visual.run lv level (o.drop (h + 1)) + 1 := by
  rw [List.drop_eq_getElem_cons hh]
  have : o.getD h 0 = o[h] := by simp [List.getD_eq_getElem?_getD, hh]
  rw [this] at hl
  simp only [order_Visual.run, List.takeWhile_cons, decide_eq_true hl, if_true, List.length_cons]
theorem order_Visual.run_no (lv : List Int) (level : Int) (o : List Int) (h : Nat) (hh : h < o.length) (hl : ¬ level ≤ rd lv (o.getD h 0)) : order_Visual.run lv level (o.drop h) = 0 := by
  rw [List.drop_eq_getElem_cons hh]
  have : o.getD h 0 = o[h] := by simp [List.getD_eq_getElem?_getD, hh]
  rw [this] at hl
  simp only [order_Visual.run, List.takeWhile_cons, decide_eq_false hl, Bool.false_eq_true, if_false, List.length_nil]
set_option maxHeartbeats 4000000 in
set_option maxRecDepth 100000 in
theorem order_Visual.row (g : Nat) (AL : Option Addr) (cl : Nat) (lv : List Int) (b co : Nat) (o : List Int) (lo : Nat) (level : Int) (w : World)
    (hG : w.heap[g]? = some (.cells #[.slice AL lv.length cl, .slice (some ⟨b, 0, none⟩) o.length co] 118 (0, 0))) (hL : Kd.C (Kd.int .i64) w AL lv.length lv) (hO : Kd.C (Kd.int .i64) w (some ⟨b, 0, none⟩) o.length o)
    (hp : ∀ p ∈ o, 0 ≤ p ∧ p < (lv.length : Int)) (hlo : lo ≤ o.length) (hlen : o.length ≤ 35184372088832) :
    Calls Try.prog 104 #[.pointer (some ⟨g, 0, none⟩), .int .i64 (lo : Int), .int .i64 level] w fun e w' => e = .returned (.int .i64 ((lo + order_Visual.run lv level (o.drop lo) : Nat) : Int)) ∧ Drawn0 w w' := by
  have hc0 : w.cell? ⟨g, 0, none⟩ = some (.slice AL lv.length cl) := (blk_cell hG 0).trans rfl
  have hc1 : w.cell? ⟨g, 1, none⟩ = some (.slice (some ⟨b, 0, none⟩) o.length co) := (blk_cell hG 1).trans rfl
  have HL := Aside0.mk hL
  have HO := Aside0.mk hO
  have HP := Aside0.mk hp
  have HN := Aside0.mk hlen
  have HLO := Aside0.mk hlo
  clear hG hL hO hp hlen hlo
  go_enter Try.func104, Try.ntmps104
  go_wp2
  go_loopg [7] (o.length - lo) (fun kq v7 w' => ∃ (h : Nat), v7 = .int .i64 (h : Int) ∧ Aside0 (h ≤ o.length ∧ o.length - h = kq ∧ h + order_Visual.run lv level (o.drop h) = lo + order_Visual.run lv level (o.drop lo)) ∧ Drawn0 w w')
  case atStart => exact ⟨lo, rfl, ⟨HLO.out, rfl, rfl⟩, Drawn0.refl _⟩
  case round =>
    obtain ⟨h, rfl, HH, ⟨m1, rfl⟩⟩ := hrel
    by_cases hh : h < o.length
    · have b0 : decide ((h : Int) < (o.length : Int)) = true := decide_eq_true (by omega)
      have b1 : decide (h < o.length) = true := decide_eq_true hh
      obtain ⟨ad1, e1, hx1⟩ := Kd.at_int HO.out (h : Int) (by omega) (by omega)
      cases e1
      have hmem : rd o (h : Int) ∈ o := by simp [rd, hh]
      obtain ⟨p0, p1⟩ := HP.out _ hmem
      obtain ⟨p, hpp⟩ : ∃ p, rd o (h : Int) = p := ⟨_, rfl⟩
      rw [hpp] at hx1 hmem p0 p1
      have ha1 : (⟨b, 0, none⟩ : Addr).add (h : Int).toNat = ⟨b, h, none⟩ := by simp [Addr.add]; intro h0; exact h0.symm
      rw [ha1] at hx1
      clear ha1
      obtain ⟨ad2, e2, hx2⟩ := Kd.at_int HL.out p p0 p1
      subst e2
      have hg : rd o (h : Int) = o.getD h 0 := by simp [rd]
      have q0 : (0 : Int) ≤ (h : Int) := by omega
      have q1 : (h : Int) < (o.length : Int) := by omega
      replace q0 := eq_true q0
      replace q1 := eq_true q1
      replace p0 := eq_true p0
      replace p1 := eq_true p1
      have hw : wrap64 ((h : Int) + 1) = ((h + 1 : Nat) : Int) := by have := HN.out; unfold wrap64; omega
      clear hmem
      by_cases hl : level ≤ rd lv p
      · have b2 : decide (level ≤ rd lv p) = true := decide_eq_true hl
        have HR := Aside0.mk (order_Visual.run_yes lv level o h hh (by rw [← hg, hpp]; exact hl))
        have HQ := Aside0.mk hh
        clear hh hl hpp hg
        go_wp2
        repeat (go_quiet (fail); try go_wp2)
        go_roundg (o.length - (h + 1))
        case measure => have := HH.out; have := HQ.out; omega
        case rel => exact ⟨h + 1, congrArg (Value.int .i64) hw, ⟨by have := HQ.out; omega, rfl, by have h1 := HH.out.2.2; have h2 := HR.out; omega⟩, by repeat (first | exact Drawn0.refl _ | apply Drawn0.step)⟩
      · have b2 : decide (level ≤ rd lv p) = false := decide_eq_false hl
        have HR := Aside0.mk (order_Visual.run_no lv level o h hh (by rw [← hg, hpp]; exact hl))
        have HE : ((h : Nat) : Int) = ((lo + order_Visual.run lv level (o.drop lo) : Nat) : Int) := by have h1 := HH.out.2.2; have h2 := HR.out; omega
        have HE' := Aside0.mk HE
        clear hh hl hpp hg HE
        go_wp2
        repeat (go_quiet (fail); try go_wp2)
        go_ret
        exact ⟨by rw [HE'.out]; rfl, by repeat (first | exact Drawn0.refl _ | apply Drawn0.step)⟩
    · have b0 : decide ((h : Int) < (o.length : Int)) = false := decide_eq_false (by omega)
      have b1 : decide (h < o.length) = false := decide_eq_false hh
      have HE : ((h : Nat) : Int) = ((lo + order_Visual.run lv level (o.drop lo) : Nat) : Int) := by
        have h1 := HH.out.2.2
        rw [List.drop_eq_nil_of_le (show o.length ≤ h by omega), order_Visual.run_nil] at h1
        omega
      have HE' := Aside0.mk HE
      clear hh HE
      go_wp2
      repeat (go_quiet (fail); try go_wp2)
      go_ret
      exact ⟨by rw [HE'.out]; rfl, by repeat (first | exact Drawn0.refl _ | apply Drawn0.step)⟩
/-- All rows of a level or above turned round, 'acc' being the row that has begun, turned. -/
def order_Visual.turnA (q : Int → Bool) : List Int → List Int → List Int
  | acc, [] => acc
  | acc, p :: rest => if q p then order_Visual.turnA q (p :: acc) rest else acc ++ p :: order_Visual.turnA q [] rest
theorem order_Visual.turnA_run (lv : List Int) (level : Int) : ∀ (rest acc : List Int), order_Visual.turnA (fun p => decide (level ≤ rd lv p)) acc rest = (rest.take (order_Visual.run lv level rest)).reverse ++ (acc ++ order_Visual.turnA (fun p => decide (level ≤ rd lv p)) [] (rest.drop (order_Visual.run lv level rest)))
  | [], acc => by simp [order_Visual.turnA]
  | p :: t, acc => by
    by_cases h : level ≤ rd lv p
    · have e : order_Visual.run lv level (p :: t) = order_Visual.run lv level t + 1 := by simp only [order_Visual.run, List.takeWhile_cons, decide_eq_true h, if_true, List.length_cons]
      rw [e, order_Visual.turnA, if_pos (decide_eq_true h), order_Visual.turnA_run lv level t (p :: acc)]
      simp
    · have e : order_Visual.run lv level (p :: t) = 0 := by simp only [order_Visual.run, List.takeWhile_cons, decide_eq_false h, Bool.false_eq_true, if_false, List.length_nil]
      rw [e, order_Visual.turnA, if_neg (by simp [h])]
      simp [order_Visual.turnA, h]
theorem order_Visual.run_le (lv : List Int) (level : Int) (o : List Int) : order_Visual.run lv level o ≤ o.length := (List.takeWhile_prefix _).length_le
theorem order_Visual.turnA_mem (q : Int → Bool) (p : Int) : ∀ (rest acc : List Int), p ∈ order_Visual.turnA q acc rest ↔ p ∈ acc ∨ p ∈ rest
  | [], acc => by simp [order_Visual.turnA]
  | x :: t, acc => by
    rw [order_Visual.turnA]
    split
    · rw [order_Visual.turnA_mem q p t (x :: acc)]; simp; grind
    · simp only [List.mem_append, List.mem_cons, order_Visual.turnA_mem q p t []]; simp
/-- A round of 'turn': what is turned from lo on. -/
theorem order_Visual.turn_round (lv : List Int) (level : Int) (cur : List Int) (lo : Nat) (h : lo < cur.length) (r : Nat) (hr : order_Visual.run lv level (cur.drop lo) = r) (nx : Nat) (hnx : nx = if lo + r < lo + 1 then lo + 1 else lo + r) (new : List Int)
    (hnew : new = cur.take lo ++ (((cur.drop lo).take r).reverse ++ cur.drop (lo + r))) :
    new.length = cur.length ∧ nx ≤ cur.length ∧ lo < nx ∧ new.take nx ++ order_Visual.turnA (fun p => decide (level ≤ rd lv p)) [] (new.drop nx) = cur.take lo ++ order_Visual.turnA (fun p => decide (level ≤ rd lv p)) [] (cur.drop lo) ∧ (∀ p, p ∈ new → p ∈ cur) := by
  have hle : r ≤ cur.length - lo := by have := order_Visual.run_le lv level (cur.drop lo); rw [hr, List.length_drop] at this; exact this
  have hmem : ∀ p, p ∈ new → p ∈ cur := by
    intro p hp
    rw [hnew] at hp
    simp only [List.mem_append, List.mem_reverse] at hp
    rcases hp with hp | hp | hp
    · exact List.mem_of_mem_take hp
    · exact List.mem_of_mem_drop (List.mem_of_mem_take hp)
    · exact List.mem_of_mem_drop hp
  have hlen : new.length = cur.length := by rw [hnew]; simp; omega
  rw [order_Visual.turnA_run lv level (cur.drop lo) [], hr, List.nil_append, List.drop_drop]
  by_cases h0 : r = 0
  · subst h0
    rw [if_pos (by omega)] at hnx
    subst hnx
    have e : new = cur := by rw [hnew]; simp
    subst e
    refine ⟨rfl, by omega, by omega, ?_, hmem⟩
    simp only [Nat.add_zero, List.take_zero, List.reverse_nil, List.nil_append]
    have hd : List.drop lo new = new[lo] :: List.drop (lo + 1) new := List.drop_eq_getElem_cons h
    have hn : ¬ level ≤ rd lv new[lo] := by
      intro hh
      rw [hd] at hr
      simp only [order_Visual.run, List.takeWhile_cons, decide_eq_true hh, if_true, List.length_cons] at hr
      omega
    have ht : List.take (lo + 1) new = List.take lo new ++ [new[lo]] := by rw [List.take_add_one, List.getElem?_eq_getElem h]; rfl
    rw [hd, order_Visual.turnA, if_neg (by simp only [decide_eq_false hn]; decide), ht]
    simp only [List.append_assoc, List.cons_append, List.nil_append]
  · rw [if_neg (by omega)] at hnx
    subst hnx
    refine ⟨hlen, by omega, by omega, ?_, hmem⟩
    have e1 : new.take (lo + r) = cur.take lo ++ ((cur.drop lo).take r).reverse := by
      rw [hnew, ← List.append_assoc, List.take_append_of_le_length (by simp; omega), List.take_of_length_le (by simp; omega)]
    have e2 : new.drop (lo + r) = cur.drop (lo + r) := by
      rw [hnew, ← List.append_assoc, List.drop_append, List.drop_eq_nil_of_le (by simp; omega), List.nil_append]
      have : lo + r - (List.take lo cur ++ (List.take r (List.drop lo cur)).reverse).length = 0 := by simp; omega
      rw [this, List.drop_zero]
    rw [e1, e2, List.append_assoc]
set_option maxHeartbeats 4000000 in
set_option maxRecDepth 100000 in
theorem order_Visual.turn (g lb b n cl co : Nat) (lv o : List Int) (level : Int) (ok okl : Nat → Prop) (w0 w : World)
    (hG : w.heap[g]? = some (.cells #[.slice (some ⟨lb, 0, none⟩) n cl, .slice (some ⟨b, 0, none⟩) n co] 118 (0, 0))) (hL : Kd.R (Kd.int .i64) 3 w w0.heap.size okl (.slice (some ⟨lb, 0, none⟩) n cl) lv) (hO : Kd.R (Kd.int .i64) 3 w w0.heap.size ok (.slice (some ⟨b, 0, none⟩) n co) o)
    (hgb : g ≠ b) (hlb : lb ≠ b) (hp : ∀ p ∈ o, 0 ≤ p ∧ p < (n : Int)) (hlen : n ≤ 35184372088832) (hB : Below w0.heap.size w0 w) (hb0 : w0.heap.size ≤ b) :
    Calls Try.prog 90 #[.pointer (some ⟨g, 0, none⟩), .int .i64 level] w fun e w' => e = .returned (.tuple #[]) ∧ w'.heap[g]? = some (.cells #[.slice (some ⟨lb, 0, none⟩) n cl, .slice (some ⟨b, 0, none⟩) n co] 118 (0, 0)) ∧
      Kd.R (Kd.int .i64) 3 w' w0.heap.size okl (.slice (some ⟨lb, 0, none⟩) n cl) lv ∧ Kd.R (Kd.int .i64) 3 w' w0.heap.size ok (.slice (some ⟨b, 0, none⟩) n co) (order_Visual.turnA (fun p => decide (level ≤ rd lv p)) [] o) ∧ Below w0.heap.size w0 w' := by
  have hi3 : (Try.prog.info? 3).map (·.size) = some 1 := by kernel_rfl
  have HI3 := Aside0.mk hi3
  have HGB := Aside0.mk hgb
  have HLB := Aside0.mk hlb
  have HN := Aside0.mk hlen
  have HB0 := Aside0.mk hb0
  have hlv := (Kd.R_reads' hL).1
  have hnc := (Kd.R_reads' hO).2.1
  have hno := (Kd.R_reads' hO).1
  have HG := Aside0.mk hG
  have HL := Aside0.mk hL
  have HO := Aside0.mk hO
  have HP := Aside0.mk hp
  have HB := Aside0.mk hB
  have HLV := Aside0.mk hlv
  have HNC := Aside0.mk hnc
  clear hi3 hgb hlb hlen hb0 hlv hnc hG hL hO hp hB hno
  go_enter Try.func90, Try.ntmps90
  go_wp2
  go_loopg [4] n (fun kq v4 w' => ∃ (lo : Nat) (cur : List Int), v4 = .int .i64 (lo : Int) ∧ Aside0 (lo ≤ n ∧ n - lo = kq ∧ (∀ p ∈ cur, 0 ≤ p ∧ p < (n : Int)) ∧ cur.take lo ++ order_Visual.turnA (fun p => decide (level ≤ rd lv p)) [] (cur.drop lo) = order_Visual.turnA (fun p => decide (level ≤ rd lv p)) [] o) ∧
    Aside0 (w'.heap[g]? = some (.cells #[.slice (some ⟨lb, 0, none⟩) n cl, .slice (some ⟨b, 0, none⟩) n co] 118 (0, 0))) ∧ Aside0 (Kd.R (Kd.int .i64) 3 w' w0.heap.size okl (.slice (some ⟨lb, 0, none⟩) n cl) lv) ∧ Aside0 (Kd.R (Kd.int .i64) 3 w' w0.heap.size ok (.slice (some ⟨b, 0, none⟩) n co) cur) ∧ Aside0 (Below w0.heap.size w0 w'))
  case atStart => exact ⟨0, o, rfl, ⟨Nat.zero_le _, rfl, HP.out, by simp⟩, HG, HL, HO, HB⟩
  case round =>
    clear HG HL HO HB HP
    obtain ⟨lo, cur, rfl, HH, HG, HL, HO, HB⟩ := hrel
    have hc0 : wr.cell? ⟨g, 0, none⟩ = some (.slice (some ⟨lb, 0, none⟩) n cl) := (blk_cell HG.out 0).trans rfl
    have hc1 : wr.cell? ⟨g, 1, none⟩ = some (.slice (some ⟨b, 0, none⟩) n co) := (blk_cell HG.out 1).trans rfl
    have hno := (Kd.R_reads' HO.out).1
    by_cases hlt : lo < n
    · have b0 : decide ((lo : Int) < (n : Int)) = true := decide_eq_true (by omega)
      have b1 : decide (lo < n) = true := decide_eq_true hlt
      obtain ⟨r, hr⟩ : ∃ r, order_Visual.run lv level (cur.drop lo) = r := ⟨_, rfl⟩
      obtain ⟨hi, hhi⟩ : ∃ hi, lo + r = hi := ⟨_, rfl⟩
      have hrle : r ≤ n - lo := by have := order_Visual.run_le lv level (cur.drop lo); rw [hr, List.length_drop] at this; omega
      obtain ⟨l1, hl1⟩ : ∃ l1, lo + 1 = l1 := ⟨_, rfl⟩
      have hw1 : wrap64 ((lo : Int) + 1) = (l1 : Int) := by have := HN.out; unfold wrap64; omega
      obtain ⟨nx, hnx⟩ : ∃ nx, (if hi < l1 then l1 else hi) = nx := ⟨_, rfl⟩
      have hmx : (if (hi : Int) < (l1 : Int) then (l1 : Int) else (hi : Int)) = (nx : Int) := by
        rw [← hnx]; by_cases hq : hi < l1
        · rw [if_pos (by omega), if_pos hq]
        · rw [if_neg (by omega), if_neg hq]
      have hmx2 : (if hi < l1 then (l1 : Int) else (hi : Int)) = (nx : Int) := by
        rw [← hnx]; by_cases hq : hi < l1
        · rw [if_pos hq, if_pos hq]
        · rw [if_neg hq, if_neg hq]
      have hCL := (Kd.R_reads' HL.out).2.2
      have hCO := (Kd.R_reads' HO.out).2.2
      have hG1 := HG.out
      have HROW := Aside0.mk (order_Visual.row g (some ⟨lb, 0, none⟩) cl lv b co cur lo level wr (by rw [← HLV.out, ← hno]; exact hG1) hCL hCO (by rw [← HLV.out]; exact HH.out.2.2.1) (by omega) (by have := HN.out; omega))
      rw [hr, hhi] at HROW
      obtain ⟨new, hnew⟩ : ∃ new, cur.take lo ++ (((cur.drop lo).take r).reverse ++ cur.drop (lo + r)) = new := ⟨_, rfl⟩
      have HRND := Aside0.mk (order_Visual.turn_round lv level cur lo (by omega) r hr nx (by rw [hhi, hl1]; exact hnx.symm) new hnew.symm)
      have HNEW := Aside0.mk hnew
      have hcut := cut_own_mid (P := Try.prog) 22 3 .i64 .i64 Try.underlying22 HI3.out b n co lo hi hlt (by omega) (by omega) HNC.out
      have hhr : hi - lo = r := by omega
      rw [hhr] at hcut
      have HX := Aside0.mk (show lo + r = hi ∧ r ≤ n - lo ∧ n = cur.length ∧ lo < n from ⟨hhi, hrle, hno, hlt⟩)
      clear hr hhi hrle hl1 hnx hCL hCO hG1 hnew hhr hno hlt
      have HREV : Aside0 (∀ m1, Calls Try.prog 51 #[.slice (some ⟨b, lo, none⟩) r (co - lo)] (wr.drewN m1) fun e w' => e = .returned (.tuple #[]) ∧ Kd.R (Kd.int .i64) 3 w' w0.heap.size ok (.slice (some ⟨b, 0, none⟩) n co) new ∧ (∀ k, k < wr.heap.size → k ≠ b → w'.heap[k]? = wr.heap[k]?) ∧ Below w0.heap.size w0 w') := ⟨fun m1 => by
        have hx := HX.out
        have hR := Kd.R_drewN HO.out m1
        refine (Any.slices_Reverse_int_cells Try.layRev b lo r (co - lo) (cur.drop lo) (wr.drewN m1) (by rw [List.length_drop]; omega) (by have := HN.out; omega) (fun j hj => ?_) (fun j hj => ?_)).mono ?_
        · rw [List.length_drop] at hj
          have := (Kd.R_celln (0 : Int) hR ((lo + j : Nat) : Int) (by omega) (by omega)).1
          rw [Int.toNat_natCast] at this
          rw [this]
          simp only [rdOf, Int.toNat_natCast, List.getD_eq_getElem?_getD, List.getElem?_drop]
        · have := (Kd.R_celln (0 : Int) hR ((lo + j : Nat) : Int) (by omega) (by omega)).2
          rw [Int.toNat_natCast] at this
          exact this
        · rintro e w' ⟨rfl, q, rfl⟩
          have hR2 := Kd.R_drewN hR q
          have hl : (((cur.drop lo).take r).reverse).length = r := by simp; omega
          refine ⟨rfl, ?_, fun k hk hne => World.heap_setCells_other _ _ _ _ hk hne, below_setCells HB0.out _ _ _ (pw_below_drewN (pw_below_drewN HB.out _) _)⟩
          have h3 := Kd.R_setCells _ lo _ cur hR2 (show lo + (((cur.drop lo).take r).reverse).length ≤ n by rw [hl]; omega)
          rw [hl, HNEW.out] at h3
          exact h3⟩
      clear hc0 hc1
      have hc0 : wr.cell? ⟨g, 0, none⟩ = some (.slice (some ⟨lb, 0, none⟩) n cl) := (blk_cell HG.out 0).trans rfl
      have hc1 : wr.cell? ⟨g, 1, none⟩ = some (.slice (some ⟨b, 0, none⟩) n co) := (blk_cell HG.out 1).trans rfl
      go_wp2_with (first | (go_at_call 104; (with_reducible refine (HROW.out).mono ?_); rintro e w2 ⟨rfl, ⟨m1, rfl⟩⟩) | (go_at_call 51; (with_reducible refine (HREV.out _).mono ?_); rintro e w4 ⟨rfl, ho4, hh4, hb4⟩; have HO4 := Aside0.mk ho4; have HB4 := Aside0.mk hb4; have HH4 := Aside0.mk hh4; clear ho4 hb4 hh4))
      go_roundg (n - nx)
      case measure => have := HRND.out; have := HH.out; have := HX.out; omega
      case rel =>
        have h1 := HRND.out
        have h2 := HX.out
        have hg : g < wr.heap.size := blk_lt HG.out
        have hl : lb < wr.heap.size := by
          obtain ⟨go, co', eo, _, h3, _⟩ := Kd.R_form HL.out (by rw [← HLV.out]; omega)
          injection eo with e1
          injection e1 with e1
          injection e1 with e1
          omega
        exact ⟨nx, new, rfl, ⟨by omega, rfl, fun p hp => HH.out.2.2.1 p (h1.2.2.2.2 p hp), h1.2.2.2.1.trans HH.out.2.2.2⟩, ⟨(HH4.out g hg HGB.out).trans HG.out⟩, ⟨Kd.R_block HL.out (HH4.out lb hl HLB.out)⟩, HO4, HB4⟩
    · have b0 : decide ((lo : Int) < (n : Int)) = false := decide_eq_false (by omega)
      have b1 : decide (lo < n) = false := decide_eq_false hlt
      have HE : cur = order_Visual.turnA (fun p => decide (level ≤ rd lv p)) [] o := by
        have h1 := HH.out.2.2.2
        have h2 := HH.out.1
        rw [List.take_of_length_le (by omega), List.drop_eq_nil_of_le (by omega)] at h1
        simpa [order_Visual.turnA] using h1
      subst HE
      clear hlt hno
      go_wp2
      go_end0
      exact ⟨rfl, HG.out, HL.out, HO.out, HB.out⟩
/-- Down the levels: 'k' of them, from one on. -/
def order_Visual.down (lv : List Int) : Nat → Int → List Int → List Int
  | 0, _, o => o
  | k + 1, level, o => order_Visual.down lv k (level - 1) (order_Visual.turnA (fun p => decide (level ≤ rd lv p)) [] o)
def order_Visual.iota (n : Nat) : List Int := (List.range n).map (fun (i : Nat) => (i : Int))
def order_Visual.f (k : Nat) (l0 : List Int) : Option (List Int) := (order_held.f k l0).bind fun lv => (if lv.length = l0.length ∧ l0.length ≤ 35184372088832 then ((order_bounds.f k lv).bind fun mo => (if mo.1 ≤ 1000000 then some (if 0 < mo.2 then order_Visual.down lv (mo.1 - mo.2 + 1).toNat mo.1 (order_Visual.iota l0.length) else order_Visual.iota l0.length) else none)) else none)
theorem order_Visual.mono : ∀ a0 k, LeO (order_Visual.f k a0) (order_Visual.f (k + 1) a0) := by
  intro a0 k
  unfold order_Visual.f
  refine LeO.bind (order_held.mono _ _) (fun _ => ?_)
  refine LeO.ite ?_ (LeO.none _)
  exact LeO.bind (order_bounds.mono _ _) (fun _ => LeO.refl _)
set_option maxHeartbeats 8000000 in
set_option maxRecDepth 100000 in
theorem order_Visual.calls (k : Nat) (A0 : Option Addr) (c0 : Nat) (l0 : List Int) (r : List Int) (w : World) (hr0 : Kd.C (Kd.int .i64) w A0 l0.length l0) (hc0 : l0.length ≤ c0) (h : order_Visual.f k l0 = some r) :
    Calls Try.prog 67 #[.slice A0 l0.length c0] w fun e w' => ∃ v0_ : Value, e = .returned (v0_) ∧ Kd.R (Kd.int .i64) 3 w' w.heap.size (fun _ => True) v0_ r ∧ Below w.heap.size w w' := by
  unfold order_Visual.f at h
  obtain ⟨lv, hheld, h⟩ := Option.bind_eq_some_iff.mp h
  by_cases hg1 : lv.length = l0.length ∧ l0.length ≤ 35184372088832
  case neg => rw [if_neg hg1] at h; cases h
  rw [if_pos hg1] at h
  obtain ⟨mo, hbnd, h⟩ := Option.bind_eq_some_iff.mp h
  obtain ⟨most, odd⟩ := mo
  by_cases hmost : most ≤ 1000000
  case neg => rw [if_neg hmost] at h; cases h
  rw [if_pos hmost] at h
  obtain ⟨n, hn⟩ : ∃ n, l0.length = n := ⟨_, rfl⟩
  rw [hn] at hg1 h
  have HH := Aside0.mk hheld
  have HBD := Aside0.mk hbnd
  have HN := Aside0.mk hg1.2
  have HLV := Aside0.mk hg1.1
  have HM := Aside0.mk hmost
  have HRES := Aside0.mk (Option.some.inj h)
  have HL0 := Aside0.mk hn
  have HC0 := Aside0.mk hc0
  have HR1 := Aside0.mk (show Kd.C (Kd.int .i64) w.drew A0 l0.length l0 from Kd.C_drew hr0)
  have HB1 := Aside0.mk (below_drew1 (Below.refl w.heap.size w))
  have hi3 : (Try.prog.info? 3).map (·.size) = some 1 := by kernel_rfl
  have HI3 := Aside0.mk hi3
  clear hi3 h hmost hbnd hg1 hheld hr0 hc0 hn
  go_enter Try.func67, Try.ntmps67
  go_wp2
  refine start_ (n := 8) (S := fun _ => True) (ds := [6]) #[false, false, false, false, false, false, false, false] (by kernel_rfl) rfl rfl trivial (fun hHeld => ?_)
  generalize w.drew = w1 at HR1 HB1 hHeld ⊢
  refine pure_ (i := 0) (N := some 8) (v := ?_) (a' := ?_) #[true, false, false, false, false, false, false, false] rfl rfl (by kernel_rfl) (fun _ _ _ h => h) (Or.inl ⟨by rfl, ?_⟩) ?_ ?_
  rotate_left
  · intro w'
    go_simp
    with_reducible rfl
  rotate_left
  · simp only [Act.put, List.setIfInBounds_toArray, List.set_cons_zero, List.set_cons_succ, i64_w, i32_w]
    rfl
  refine pure_ (i := 2) (N := some 10) (v := ?_) (a' := ?_) #[true, false, true, false, false, false, false, false] rfl rfl (by kernel_rfl) (fun _ _ _ h => h) (Or.inl ⟨by rfl, ?_⟩) ?_ ?_
  rotate_left
  · intro w'
    go_simp
    with_reducible rfl
  rotate_left
  · simp only [Act.put, List.setIfInBounds_toArray, List.set_cons_zero, List.set_cons_succ, i64_w, i32_w]
    rfl
  refine pure_ (i := 3) (N := some 11) (v := ?_) (a' := ?_) #[true, false, true, true, false, false, false, false] rfl rfl (by kernel_rfl) (fun _ _ _ h => h) (Or.inl ⟨by rfl, ?_⟩) ?_ ?_
  rotate_left
  · intro w'
    go_simp
    with_reducible rfl
  rotate_left
  · simp only [Act.put, List.setIfInBounds_toArray, List.set_cons_zero, List.set_cons_succ, i64_w, i32_w]
    rfl
  refine join_ (σ := Value × Value) 3 #[true, true, true, true, true, false, false, false] (fun s => [(9, s.1), (12, s.2)]) (fun s w' => Kd.R (Kd.int .i64) 3 w' w.heap.size (fun _ => True) s.1 lv ∧ Kd.R (Kd.int .i64) 3 w' w.heap.size (fun _ => True) s.2 (List.replicate n 0) ∧ (∀ k, s.1.ownBlock = some k → s.2.ownBlock = some k → False) ∧ Below w.heap.size w w') ?_ (fun hc => ?_)
  rotate_left
  · refine two_ (i := 1) (j := 4) (Ni := some 9) (Nj := some 12) #[true, true, true, true, false, false, false, false] #[true, false, true, true, true, false, false, false] rfl rfl rfl rfl (by kernel_rfl) (by decide) (by decide) (fun K hK => ?_) (fun K hK => ?_)
    · refine (goes_ Try.func88 (by kernel_rfl) rfl #[.slice A0 l0.length c0] (by rfl) rfl rfl (by (try simp only [List.map_toArray, List.map_cons, List.map_nil]); first | done | rfl) ?_)
      refine (order_held.calls k A0 c0 l0 lv w1 HR1.out HC0.out HH.out).mono ?_
      rintro e w2 ⟨v9, rfl, ho, hb⟩
      have ho9 := Aside0.mk ho
      have hb9 := Aside0.mk (below_step HB1.out hb)
      clear ho hb
      refine ⟨v9, rfl, ?_⟩
      refine hK.out _ _ trivial (fun _ => ?_)
      clear hK K
      simp only [Act.put, List.setIfInBounds_toArray, List.set_cons_zero, List.set_cons_succ, i64_w, i32_w]
      refine one_ (i := 4) (N := some 12) #[true, true, true, true, true, false, false, false] rfl rfl (by kernel_rfl) (by decide) (fun K hK => ?_)
      refine Kd.R_make_step (Kd.int .i64) (w0 := w2) w2.heap.size 3 (by rfl) (N := 12) rfl 22 _ _ rfl (l0.length : Int) (by rfl) (by rfl) Try.underlying22 (.int .i64 0) 8 info3 rfl (by decide) (by omega) 0 (ok := fun _ => True) (okp := fun _ => True) rfl (fun _ hk => hk) trivial (by omega) (by have := HN.out; have := HL0.out; omega) (Below.refl _ _) (Nat.le_refl _) ?_
      intro v12 w3 ho hb hg_ hnew_
      rw [Int.toNat_natCast, HL0.out] at ho
      refine hK.out _ _ trivial (fun _ => ?_)
      clear hK K
      refine hc (v9, v12) w3 ⟨Kd.R_below (Kd.R_lower ho9.out HB1.out.size) hb, Kd.R_lower ho hb9.out.size, fun k h1 h2 => ?_, below_step hb9.out hb⟩
      have b1 := (Kd.R_bound ho9.out).1 k h1
      have b2 := (Kd.R_bound ho).1 k h2
      omega
    · refine Kd.R_make_step (Kd.int .i64) (w0 := w1) w1.heap.size 3 (by rfl) (N := 12) rfl 22 _ _ rfl (l0.length : Int) (by rfl) (by rfl) Try.underlying22 (.int .i64 0) 8 info3 rfl (by decide) (by omega) 0 (ok := fun _ => True) (okp := fun _ => True) rfl (fun _ hk => hk) trivial (by omega) (by have := HN.out; have := HL0.out; omega) (Below.refl _ _) (Nat.le_refl _) ?_
      intro v12 w2 ho hb hg_ hnew_
      rw [Int.toNat_natCast, HL0.out] at ho
      have ho9 := Aside0.mk ho
      have hb9 := Aside0.mk hb
      clear ho hb hg_ hnew_
      refine hK.out _ _ trivial (fun _ => ?_)
      clear hK K
      simp only [Act.put, List.setIfInBounds_toArray, List.set_cons_zero, List.set_cons_succ, i64_w, i32_w]
      refine one_ (i := 1) (N := some 9) #[true, true, true, true, true, false, false, false] rfl rfl (by kernel_rfl) (by decide) (fun K hK => ?_)
      refine (goes_ Try.func88 (by kernel_rfl) rfl #[.slice A0 l0.length c0] (by rfl) rfl rfl (by (try simp only [List.map_toArray, List.map_cons, List.map_nil]); first | done | rfl) ?_)
      refine (order_held.calls k A0 c0 l0 lv w2 (Kd.C_below HR1.out hb9.out) HC0.out HH.out).mono ?_
      rintro e w3 ⟨v9, rfl, ho, hb⟩
      refine ⟨v9, rfl, ?_⟩
      refine hK.out _ _ trivial (fun _ => ?_)
      clear hK K
      refine hc (v9, v12) w3 ⟨Kd.R_lower ho (Nat.le_trans HB1.out.size hb9.out.size), Kd.R_below (Kd.R_lower ho9.out HB1.out.size) hb, fun k h1 h2 => ?_, below_step (below_step HB1.out hb9.out) hb⟩
      have b1 := (Kd.R_bound ho).1 k h1
      have b2 := (Kd.R_bound ho9.out).1 k h2
      omega
  rintro ⟨v9, v12⟩ w3 ⟨ho9, ho12, hdj, hb3⟩
  obtain ⟨A9, c9, e9⟩ := Kd.R_slice ho9
  obtain ⟨A12, c12, e12⟩ := Kd.R_slice ho12
  rw [HLV.out] at e9
  rw [List.length_replicate] at e12
  dsimp only at e9 e12
  subst e9 e12
  have HO9 := Aside0.mk ho9
  have HO12 := Aside0.mk ho12
  have HDJ := Aside0.mk hdj
  have HB3 := Aside0.mk hb3
  clear ho9 ho12 hdj hb3
  simp only [putAll, Act.put, List.setIfInBounds_toArray, List.set_cons_zero, List.set_cons_succ, i64_w, i32_w]
  refine pure_ (i := 5) (N := some 13) (v := ?_) (a' := ?_) #[true, true, true, true, true, true, false, false] rfl rfl (by kernel_rfl) (fun _ _ _ h => h) (Or.inl ⟨by rfl, ?_⟩) ?_ ?_
  rotate_left
  · intro w'
    go_simp
    with_reducible rfl
  rotate_left
  · simp only [Act.put, List.setIfInBounds_toArray, List.set_cons_zero, List.set_cons_succ, i64_w, i32_w]
    rfl
  refine last_ (i := 6) (N := some 14) #[true, true, true, true, true, true, true, false] rfl rfl (by kernel_rfl) (by decide) (fun K hK => ?_)
  refine value_ (w1 := ?_) (v := ?_) (by rfl) rfl ?_ ?_
  rotate_left 2
  · go_simp
    constructor
    · rfl
    · rfl
  refine hK.out _ _ ?_
  clear hK K
  simp only [Act.put, List.setIfInBounds_toArray, List.set_cons_zero, List.set_cons_succ, i64_w, i32_w]
  have HG4 := Aside0.mk (show (w3.alloc (.cells #[.slice A9 n c9, .slice A12 n c12] 118)).heap[w3.heap.size]? = some (.cells #[.slice A9 n c9, .slice A12 n c12] 118 (0, 0)) from blk_new _ _)
  refine pure_ (i := 7) (N := some 3) (v := ?_) (a' := ?_) #[true, true, true, true, true, true, true, true] rfl rfl (by kernel_rfl) (fun _ _ _ h => h) (Or.inl ⟨by rfl, ?_⟩) ?_ ?_
  rotate_left
  · intro w'
    go_simp
    with_reducible rfl
  rotate_left
  · simp only [Act.put, List.setIfInBounds_toArray, List.set_cons_zero, List.set_cons_succ, i64_w, i32_w]
    rfl
  refine done_ (by kernel_rfl) ?_
  have HO9' := Aside0.mk (Kd.R_alloc HO9.out (.cells #[.slice A9 n c9, .slice A12 n c12] 118))
  have HO12' := Aside0.mk (Kd.R_alloc HO12.out (.cells #[.slice A9 n c9, .slice A12 n c12] 118))
  have HB4 := Aside0.mk (below_alloc HB3.out (.cells #[.slice A9 n c9, .slice A12 n c12] 118))
  clear HO9 HO12 HB3 hHeld
  generalize w3.alloc (.cells #[.slice A9 n c9, .slice A12 n c12] 118) = w4 at HO9' HO12' HB4 HG4 ⊢
  generalize w3.heap.size = g at HG4 ⊢
  have hc1 : w4.cell? ⟨g, 1, none⟩ = some (.slice A12 n c12) := (blk_cell HG4.out 1).trans rfl
  go_wp2
  clear hc1
  go_loopg [20] n (fun kq v20 w' => ∃ (i : Nat), v20 = .int .i64 (i : Int) ∧ Aside0 (i ≤ n ∧ n - i = kq) ∧ Aside0 (w'.heap[g]? = some (.cells #[.slice A9 n c9, .slice A12 n c12] 118 (0, 0))) ∧ Aside0 (Kd.R (Kd.int .i64) 3 w' w.heap.size (fun _ => True) (.slice A9 n c9) lv) ∧ Aside0 (Kd.R (Kd.int .i64) 3 w' w.heap.size (fun _ => True) (.slice A12 n c12) (order_Visual.iota i ++ List.replicate (n - i) 0)) ∧ Aside0 (Below w.heap.size w w'))
  case atStart => exact ⟨0, rfl, ⟨Nat.zero_le _, rfl⟩, HG4, HO9', ⟨by simpa [order_Visual.iota] using HO12'.out⟩, HB4⟩
  case round =>
    clear HG4 HO9' HO12' HB4
    obtain ⟨i, rfl, HI, HG, HL, HO, HB⟩ := hrel
    have hc0 : wr.cell? ⟨g, 0, none⟩ = some (.slice A9 n c9) := (blk_cell HG.out 0).trans rfl
    have hc1 : wr.cell? ⟨g, 1, none⟩ = some (.slice A12 n c12) := (blk_cell HG.out 1).trans rfl
    by_cases hlt : i < n
    · have b0 : decide ((i : Int) < (n : Int)) = true := decide_eq_true (by omega)
      have b1 : decide (i < n) = true := decide_eq_true hlt
      have hlen : (order_Visual.iota i ++ List.replicate (n - i) (0 : Int)).length = n := by simp [order_Visual.iota]; omega
      obtain ⟨b, cap, eb, hbb, hbl, cells, hbc⟩ := Kd.R_form HO.out (by omega)
      rw [hlen] at eb
      injection eb with e1 _ e2
      subst e1 e2
      have hx := (Kd.R_celln (0 : Int) HO.out (i : Int) (by omega) (by omega))
      rw [Int.toNat_natCast] at hx
      obtain ⟨hx1, hx2⟩ := hx
      have HX := Aside0.mk hbb
      have HPUT := Kd.R_putg HO.out (i : Int) (i : Int)
      rw [Int.toNat_natCast] at HPUT
      have hset : (order_Visual.iota i ++ List.replicate (n - i) (0 : Int)).set i (i : Int) = order_Visual.iota (i + 1) ++ List.replicate (n - (i + 1)) 0 := by
        have e3 : (order_Visual.iota i).length = i := by simp [order_Visual.iota]
        have e4 : n - i = (n - (i + 1)) + 1 := by omega
        rw [List.set_append_right _ _ (by omega), e3, Nat.sub_self, e4, List.replicate_succ, List.set_cons_zero]
        simp [order_Visual.iota, List.range_succ]
      rw [hset] at HPUT
      have HP1 := Aside0.mk HPUT.1
      have HNE := Aside0.mk (show g ≠ b from blk_ne HG.out hbc (by decide))
      have HG1 := Aside0.mk (blk_far HG.out (p := ⟨b, i, none⟩) HNE.out (.int .i64 (i : Int)))
      have HB1' := Aside0.mk (below_set HB.out hbb (j := i) (v := .int .i64 (i : Int)))
      have HL1 : Aside0 (Kd.R (Kd.int .i64) 3 (wr.setCell ⟨b, i, none⟩ (.int .i64 (i : Int))) w.heap.size (fun _ => True) (.slice A9 n c9) lv) := ⟨by
        obtain ⟨lb, cap, el, hll, hl2, cells2, hlc⟩ := Kd.R_form HL.out (by rw [HLV.out]; omega)
        rw [HLV.out] at el
        injection el with e1 _ e2
        subst e1 e2
        refine Kd.R_block HL.out ?_
        rw [blk_far hlc (p := ⟨b, i, none⟩) (fun he => HDJ.out lb rfl (by rw [he]; rfl)) _]
        exact hlc.symm⟩
      have hi0 : (0 : Int) ≤ (i : Int) := by omega
      have hi1 : (i : Int) < (n : Int) := by omega
      replace hi0 := eq_true hi0
      replace hi1 := eq_true hi1
      have hw : wrap64 ((i : Int) + 1) = ((i + 1 : Nat) : Int) := by have := HN.out; unfold wrap64; omega
      have HLT := Aside0.mk hlt
      clear HPUT hset hlen hlt hbc hbb hbl HB HO HL
      go_wp2
      go_roundg (n - (i + 1))
      case measure => have := HI.out; have := HLT.out; omega
      case rel => exact ⟨i + 1, rfl, ⟨by have := HLT.out; omega, rfl⟩, HG1, HL1, HP1, HB1'⟩
    · have b0 : decide ((i : Int) < (n : Int)) = false := decide_eq_false (by omega)
      have b1 : decide (i < n) = false := decide_eq_false hlt
      have hin : i = n := by have := HI.out; omega
      rw [hin, Nat.sub_self, List.replicate_zero, List.append_nil] at HO
      have HBC := Aside0.mk (order_bounds.calls k A9 c9 lv most odd wr (Kd.R_reads' HL.out).2.2 (by rw [HLV.out]; exact (Kd.R_reads' HL.out).2.1) HBD.out)
      rw [HLV.out] at HBC
      clear hlt hin HI
      go_wp2_with (go_at_call 89; (with_reducible refine (HBC.out).mono ?_); rintro e w5 ⟨rfl, hb5⟩; have HG5 := Aside0.mk (blk_below HG.out hb5); have HL5 := Aside0.mk (Kd.R_below HL.out hb5); have HO5 := Aside0.mk (Kd.R_below HO.out hb5); have HB5 := Aside0.mk (below_step HB.out hb5); clear hb5 HG HL HO HB)
      go_loopg [7] (most - odd + 1).toNat (fun kq v7 w' => ∃ (level : Int) (cur : List Int), v7 = .int .i64 level ∧ Aside0 (level ≤ 1000000 ∧ (level - odd + 1).toNat = kq ∧ (∀ p ∈ cur, 0 ≤ p ∧ p < (n : Int)) ∧ (if 0 < odd then order_Visual.down lv (level - odd + 1).toNat level cur else cur) = r) ∧ Aside0 (w'.heap[g]? = some (.cells #[.slice A9 n c9, .slice A12 n c12] 118 (0, 0))) ∧ Aside0 (Kd.R (Kd.int .i64) 3 w' w.heap.size (fun _ => True) (.slice A9 n c9) lv) ∧ Aside0 (Kd.R (Kd.int .i64) 3 w' w.heap.size (fun _ => True) (.slice A12 n c12) cur) ∧ Aside0 (Below w.heap.size w w'))
      case atStart => exact ⟨most, order_Visual.iota n, rfl, ⟨HM.out, rfl, fun p hp => by simp only [order_Visual.iota, List.mem_map, List.mem_range] at hp; obtain ⟨i, hi, rfl⟩ := hp; omega, HRES.out⟩, HG5, HL5, HO5, HB5⟩
      case round =>
        clear HG5 HL5 HO5 HB5
        obtain ⟨level, cur, rfl, HI, HG, HL, HO, HB⟩ := hrel
        have hc1 : wr.cell? ⟨g, 1, none⟩ = some (.slice A12 n c12) := (blk_cell HG.out 1).trans rfl
        by_cases ho : 0 < odd
        · have b0 : decide (0 < odd) = true := decide_eq_true ho
          by_cases hl : odd ≤ level
          · have b1 : decide (odd ≤ level) = true := decide_eq_true hl
            have hw : wrap64 (level - 1) = level - 1 := by have := HI.out; unfold wrap64; omega
            have hn0 : 0 < n := by
              rcases Nat.eq_zero_or_pos n with hz | hz
              · exfalso
                have h1 := HLV.out
                rw [hz] at h1
                have h2 := HBD.out
                rw [List.eq_nil_of_length_eq_zero h1] at h2
                have h3 : (most, odd) = (0, 0) := by
                  cases k with
                  | zero => simp [order_bounds.f, order_bounds.l0] at h2
                  | succ k => simp [order_bounds.f, order_bounds.l0] at h2; exact (Prod.ext h2.1 h2.2).symm
                injection h3 with _ h4
                omega
              · exact hz
            have hcl := (Kd.R_reads' HO.out).1
            obtain ⟨b, cap, eb, hbb, hbl, cells, hbc⟩ := Kd.R_form HO.out (by omega)
            rw [← hcl] at eb
            injection eb with e1 _ e2
            subst e1 e2
            obtain ⟨lb, cap, el, hll, hl2, cells2, hlc⟩ := Kd.R_form HL.out (by rw [HLV.out]; omega)
            rw [HLV.out] at el
            injection el with e1 _ e2
            subst e1 e2
            have HTURN := Aside0.mk (order_Visual.turn g lb b n c9 c12 lv cur level (fun _ => True) (fun _ => True) w wr HG.out HL.out HO.out (blk_ne HG.out hbc (by decide)) (fun he => HDJ.out lb rfl (by rw [he]; rfl)) HI.out.2.2.1 HN.out HB.out hbb)
            have HOL := Aside0.mk (show 0 < odd ∧ odd ≤ level from ⟨ho, hl⟩)
            clear ho hl hn0 hcl hbb hbl hbc hll hl2 hlc
            go_wp2_with (go_at_call 90; (with_reducible refine (HTURN.out).mono ?_); rintro e w6 ⟨rfl, hg6, hl6, ho6, hb6⟩; have HG6 := Aside0.mk hg6; have HL6 := Aside0.mk hl6; have HO6 := Aside0.mk ho6; have HB6 := Aside0.mk hb6; clear hg6 hl6 ho6 hb6 HG HL HO HB)
            go_roundg (level - 1 - odd + 1).toNat
            case measure => have := HI.out; have := HOL.out; omega
            case rel =>
              have h1 := HI.out
              have h2 := HOL.out
              refine ⟨level - 1, order_Visual.turnA (fun p => decide (level ≤ rd lv p)) [] cur, by first | rfl | exact congrArg (Value.int .i64) hw, ⟨by omega, rfl, fun p hp => ?_, ?_⟩, HG6, HL6, HO6, HB6⟩
              · rw [order_Visual.turnA_mem] at hp
                rcases hp with hp | hp
                · cases hp
                · exact h1.2.2.1 p hp
              · rw [if_pos h2.1] at h1 ⊢
                have e1 : (level - odd + 1).toNat = (level - 1 - odd + 1).toNat + 1 := by omega
                rw [e1, order_Visual.down] at h1
                exact h1.2.2.2
          · have b1 : decide (odd ≤ level) = false := decide_eq_false hl
            have HRS := Aside0.mk (show cur = r from by
              have h1 := HI.out.2.2.2
              rw [if_pos ho] at h1
              have e1 : (level - odd + 1).toNat = 0 := by omega
              rw [e1] at h1
              exact h1)
            clear ho hl
            go_wp2
            go_ret
            exact ⟨_, rfl, by rw [← HRS.out]; exact HO.out, HB.out⟩
        · have b0 : decide (0 < odd) = false := decide_eq_false ho
          have HRS := Aside0.mk (show cur = r from by
            have h1 := HI.out.2.2.2
            rwa [if_neg ho] at h1)
          clear ho
          go_wp2
          go_ret
          exact ⟨_, rfl, by rw [← HRS.out]; exact HO.out, HB.out⟩


-- NOT PRINTED: function 62 (caret_newLine)

end Go.Proofs.Ytmkgihmchkphaaa.PCaretHits
