/- The trie: the law TrieGets. -/
import Derived.Test.YtljcohjafcjgdaaTrG1
namespace Go.Proofs.Ytljcohjafcjgdaa.Stk
open Go.RowKit Go.Proofs.YtljcohjafcjgdaaW.PrintWords Go.Proofs.YtljcohjafcjgdaaW.PrintLast Go.Proofs.YtljcohjafcjgdaaW.PrintMore
attribute [local go_sem] max2_int min2_int max_two min_two max_three min_three max_four min_four   -- for this text's walks alone
set_option linter.unusedVariables false
set_option linter.unusedSimpArgs false
set_option maxHeartbeats 8000000 in
set_option maxRecDepth 100000 in
theorem p_gets (A : Option Addr) (c : Nat) (l : List Rg) (a1 : Int) (A2 : Option Addr) (c2 : Nat) (l2 : List Int) (w : World) (hC : Kd.C kR w A l.length l) (hc : l.length ≤ c) (hln : l.length < 5864062014805) (hC2 : Kd.C (Kd.int .i64) w A2 l2.length l2) (hc2 : l2.length ≤ c2) :
    Calls Try.prog 6 #[.slice A l.length c, .int .i64 a1, .slice A2 l2.length c2] w fun e w' => e = .returned (.bool true) ∧ Below w.heap.size w w' := by
  have HC := Aside0.mk hC
  have HCC := Aside0.mk hc
  have HLN := Aside0.mk hln
  have HD := Aside0.mk hC2
  have HB0 := Aside0.mk (Below.refl w.heap.size w)
  have HL2 := Aside0.mk hC2.2.1
  clear hC hc hln hC2 hc2
  by_cases h1 : 300 < l.length
  · have p0 : decide ((l.length : Int) > 300) = true := decide_eq_true (by omega)
    have p1 : decide (300 < (l.length : Int)) = true := decide_eq_true (by omega)
    have p2 : decide (300 < l.length) = true := decide_eq_true h1
    by_cases h2 : l.length ≤ 4096
    · have q0 : decide ((l.length : Int) ≤ 4096) = true := decide_eq_true (by omega)
      have q1 : decide (l.length ≤ 4096) = true := decide_eq_true h2
      clear h1 h2
      go_enter Try.func6, Try.ntmps6
      go_wp2_with (first | (go_at_call 12; (with_reducible refine (p_awake _).mono ?_); rintro e wA ⟨rfl, hb⟩; have HBA := Aside0.mk (below_step HB0.out hb); clear hb))
      go_ret
      exact ⟨by first | rfl | (simp; done), HBA.out⟩
    · have q0 : decide ((l.length : Int) ≤ 4096) = false := decide_eq_false (by omega)
      have q1 : decide (l.length ≤ 4096) = false := decide_eq_false h2
      by_cases h3 : 500 < l2.length
      · have r0 : decide ((l2.length : Int) > 500) = true := decide_eq_true (by omega)
        have r1 : decide (500 < (l2.length : Int)) = true := decide_eq_true (by omega)
        have r2 : decide (500 < l2.length) = true := decide_eq_true h3
        clear h1 h2 h3
        go_enter Try.func6, Try.ntmps6
        go_wp2_with (first | (go_at_call 12; (with_reducible refine (p_awake _).mono ?_); rintro e wA ⟨rfl, hb⟩; have HBA := Aside0.mk (below_step HB0.out hb); clear hb))
        go_ret
        exact ⟨by first | rfl | (simp; done), HBA.out⟩
      · have r0 : decide ((l2.length : Int) > 500) = false := decide_eq_false (by omega)
        have r1 : decide (500 < (l2.length : Int)) = false := decide_eq_false (by omega)
        have r2 : decide (500 < l2.length) = false := decide_eq_false h3
        obtain ⟨x, hx, hne⟩ : ∃ x, chk l = x ∧ x ≠ 0 := ⟨6, by unfold chk; rw [if_pos (by omega)], by decide⟩
        clear h1 h2 h3
        go_enter Try.func6, Try.ntmps6
        have HX := Aside0.mk hx
        have HCHK := Aside0.mk (show chk l ≠ 0 by rw [hx]; exact hne)
        have e0 : (x != 0) = true := by simp [hne]
        have e1 : decide (x = 0) = false := decide_eq_false hne
        clear hx hne
        go_wp2_with (first | (go_at_call 26; (with_reducible refine (p_clone HC.out HCC.out HLN.out).mono ?_); rintro e w1 ⟨A1, c1, rfl, h1, h2, hb⟩; have HC1 := Aside0.mk h1; have HCC1 := Aside0.mk h2; have HB1 := Aside0.mk hb; clear h1 h2 hb) | (go_at_call 13; (with_reducible refine (p_build_no (Kd.C_below HC.out HB1.out) HCHK.out a1).mono ?_); rw [HX.out]; rintro e w2 ⟨rfl, hb⟩; have HB2 := Aside0.mk (below_step HB1.out hb); have HC2 := Aside0.mk (Kd.C_below HC1.out hb); clear hb) | (go_at_call 14; (with_reducible refine (p_rcheck (Kd.C_below HC.out HB2.out) HCC.out).mono ?_); rw [HX.out]; rintro e w3 ⟨rfl, hb⟩; have HB3 := Aside0.mk (below_step HB2.out hb); have HC3 := Aside0.mk (Kd.C_below HC2.out hb); clear hb) | (go_at_call 27; (with_reducible refine (p_req (Kd.C_below HC.out HB3.out) HCC.out HC3.out HCC1.out).mono ?_); rintro e w4 ⟨rfl, hb⟩; have HB4 := Aside0.mk (below_step HB3.out hb); clear hb) | (go_at_call 12; (with_reducible refine (p_awake _).mono ?_); rintro e wA ⟨rfl, hb⟩; have HBA := Aside0.mk (below_step HB4.out hb); clear hb))
        go_ret
        exact ⟨by first | rfl | (simp; done), HBA.out⟩
  · have p0 : decide ((l.length : Int) > 300) = false := decide_eq_false (by omega)
    have p1 : decide (300 < (l.length : Int)) = false := decide_eq_false (by omega)
    have p2 : decide (300 < l.length) = false := decide_eq_false h1
    by_cases h3 : 500 < l2.length
    · have r0 : decide ((l2.length : Int) > 500) = true := decide_eq_true (by omega)
      have r1 : decide (500 < (l2.length : Int)) = true := decide_eq_true (by omega)
      have r2 : decide (500 < l2.length) = true := decide_eq_true h3
      clear h1 h3
      go_enter Try.func6, Try.ntmps6
      go_wp2_with (first | (go_at_call 12; (with_reducible refine (p_awake _).mono ?_); rintro e wA ⟨rfl, hb⟩; have HBA := Aside0.mk (below_step HB0.out hb); clear hb))
      go_ret
      exact ⟨by first | rfl | (simp; done), HBA.out⟩
    · have r0 : decide ((l2.length : Int) > 500) = false := decide_eq_false (by omega)
      have r1 : decide (500 < (l2.length : Int)) = false := decide_eq_false (by omega)
      have r2 : decide (500 < l2.length) = false := decide_eq_false h3
      by_cases hx0 : chk l = 0
      · have HX := Aside0.mk hx0
        have HO := Aside0.mk (chk_ok hx0).2
        have HL := Aside0.mk (show l.length ≤ 300 by omega)
        clear h1 h3 hx0
        go_enter Try.func6, Try.ntmps6
        go_wp2_with (first | (go_at_call 26; (with_reducible refine (p_clone HC.out HCC.out HLN.out).mono ?_); rintro e w1 ⟨A1, c1, rfl, h1, h2, hb⟩; have HC1 := Aside0.mk h1; have HCC1 := Aside0.mk h2; have HB1 := Aside0.mk hb; clear h1 h2 hb) | (go_at_call 13; (with_reducible refine (p_build (Kd.C_below HC.out HB1.out) HX.out a1).mono ?_); rintro e w2 ⟨g, fs, bs, rfl, hb, hT, _, hBt⟩; have HB2 := Aside0.mk (below_step HB1.out hb); have HC2 := Aside0.mk (Kd.C_below HC1.out hb); have HT2 := Aside0.mk hT; have HBT := Aside0.mk hBt; have HBO := Aside0.mk hBt.1; clear hb hT hBt) | (go_at_call 14; (with_reducible refine (p_rcheck (Kd.C_below HC.out HB2.out) HCC.out).mono ?_); rw [HX.out]; rintro e w3 ⟨rfl, hb⟩; have HB3 := Aside0.mk (below_step HB2.out hb); have HC3 := Aside0.mk (Kd.C_below HC2.out hb); have HT3 := Aside0.mk (tab_below HT2.out hb); clear hb) | (go_at_call 27; (with_reducible refine (p_req (Kd.C_below HC.out HB3.out) HCC.out HC3.out HCC1.out).mono ?_); rintro e w4 ⟨rfl, hb⟩; have HB4 := Aside0.mk (below_step HB3.out hb); have HT4 := Aside0.mk (tab_below HT3.out hb); clear hb))
        go_loopg [58] (l2.length + 1) (fun kq v58 w' => ∃ (i : Nat), v58 = .int .i64 (i : Int) ∧ Aside0 (l2.length + 1 - i ≤ kq) ∧ Aside0 (TabR w' g fs bs a1 true) ∧ Aside0 (Below w.heap.size w w'))
        case atStart => exact ⟨0, rfl, ⟨Nat.sub_le _ _⟩, HT4, HB4⟩
        case round =>
          clear HT4 HB4 HT3 HT2 HC1 HC2 HC3 HB1 HB2 HB3 HCC1
          obtain ⟨i, rfl, HQ, HT, HB⟩ := hrel
          by_cases hlt : i < l2.length
          · have q0 := decide_eq_true (show (i : Int) < (l2.length : Int) by omega)
            have q1 := decide_eq_true hlt
            have r0 := eq_true (show (i : Int) < (l2.length : Int) by omega)
            have r1 := eq_true hlt
            have r2 := eq_true (show (0 : Int) ≤ (i : Int) by omega)
            obtain ⟨ad, e, x0_⟩ := Kd.at_int (Kd.C_below HD.out HB.out) (i : Int) (by omega) (by omega)
            cases e
            rw [Int.toNat_natCast] at x0_
            generalize rd l2 (i : Int) = x at x0_
            obtain ⟨y, hy⟩ : ∃ y, valR l a1 x = y := ⟨_, rfl⟩
            have HY := Aside0.mk hy
            have ey : (y != y) = false := by simp
            have HLT := Aside0.mk hlt
            have hwi : IntKind.i64.wrap ((i : Int) + 1) = ((i + 1 : Nat) : Int) := (i64_w _).trans (up1 hlt HL2.out)
            clear hlt hy
            go_wp2_with (first | (go_at_call 28; (with_reducible refine (p_got HT.out HBT.out HO.out x y HY.out).mono ?_); rintro e w5 ⟨rfl, hb⟩; have HT5 := Aside0.mk (tab_below HT.out hb); have HB5 := Aside0.mk (below_step HB.out hb); clear hb) | (go_at_call 29; (with_reducible refine (p_rget (Kd.C_below HC.out HB5.out) HCC.out HO.out a1 x).mono ?_); rw [HY.out]; rintro e w6 ⟨rfl, hb⟩; have HT6 := Aside0.mk (tab_below HT5.out hb); have HB6 := Aside0.mk (below_step HB5.out hb); clear hb))
            go_roundg (l2.length + 1 - (i + 1))
            case measure => have h1_ := HQ.out; have h2_ := HLT.out; omega
            case rel => exact ⟨i + 1, by first | rfl | go_num | rw [hwi], ⟨Nat.le_refl _⟩, HT6, HB6⟩
          · have q0 := decide_eq_false (show ¬ (i : Int) < (l2.length : Int) by omega)
            have q1 := decide_eq_false hlt
            clear hlt
            go_wp2
            go_loopg [73] (l.length + 1) (fun kq v73 w' => ∃ (i : Nat), v73 = .int .i64 (i : Int) ∧ Aside0 (l.length + 1 - i ≤ kq) ∧ Aside0 (TabR w' g fs bs a1 true) ∧ Aside0 (Below w.heap.size w w'))
            case atStart => exact ⟨0, rfl, ⟨Nat.sub_le _ _⟩, HT, HB⟩
            case round =>
              clear HT HB
              obtain ⟨i, rfl, HQ, HT, HB⟩ := hrel
              by_cases hlt : i < l.length
              · have q0 := decide_eq_true (show (i : Int) < (l.length : Int) by omega)
                have q1 := decide_eq_true hlt
                have r0 := eq_true (show (i : Int) < (l.length : Int) by omega)
                have r1 := eq_true hlt
                have r2 := eq_true (show (0 : Int) ≤ (i : Int) by omega)
                obtain ⟨ad, e, x0_, x1_, x2_⟩ := at_Rg (Kd.C_below HC.out HB.out) i hlt
                cases e
                have HOM := HO.out.1 i hlt
                have HV0 := Aside0.mk (valR_in (z := a1) HO.out hlt (Int.le_refl _) HOM.2.1)
                have HV1 := Aside0.mk (valR_in (z := a1) HO.out hlt HOM.2.1 (Int.le_refl _))
                generalize (rgAt l i).lo = x0 at x0_ HV0
                generalize (rgAt l i).hi = x1 at x1_ HV1
                generalize (rgAt l i).va = x2 at x2_ HV0 HV1
                have HLT := Aside0.mk hlt
                have hwi : IntKind.i64.wrap ((i : Int) + 1) = ((i + 1 : Nat) : Int) := (i64_w _).trans (up1 hlt HC.out.2.1)
                clear hlt HOM
                go_wp2_with (first | ((with_reducible refine gate_dst (N := 13) rfl ?_); refine wp_alloc_cells rfl 39 rfl _ zero_rng ?_; intro g13 hg w5 hb hB; have H5 := Aside0.mk hb; have HB5_ := Aside0.mk hB; have HB5 := Aside0.mk (below_step HB.out hB); have HG5 := Aside0.mk (Nat.le_of_eq hg.symm); have HG5w := Aside0.mk (show w.heap.size ≤ g13 by have := HB.out.size; omega); have c0 := (blk_cell H5.out 0).trans rfl; have c1_ := (blk_cell H5.out 1).trans rfl; have c2_ := (blk_cell H5.out 2).trans rfl; have f0 := blk_frozen H5.out 0; have f1 := blk_frozen H5.out 1; have f2 := blk_frozen H5.out 2; clear hg hb hB))
                have HW6 := Aside0.mk (((Wrote.set w5 g13 0 (.int .i64 x0)).trans (Wrote.set _ g13 1 (.int .i64 x1))).trans (Wrote.set _ g13 2 (.int .i64 x2)))
                have H6 := Aside0.mk (show (((w5.setCell ⟨g13, 0, none⟩ (.int .i64 x0)).setCell ⟨g13, 1, none⟩ (.int .i64 x1)).setCell ⟨g13, 2, none⟩ (.int .i64 x2)).heap[g13]? = some (.cells #[.int .i64 x0, .int .i64 x1, .int .i64 x2] 39 (0, 0)) from (blk_set (blk_set (blk_set H5.out 0 _) 1 _) 2 _).trans rfl)
                have HT6 := Aside0.mk (tab_below HT.out (HW6.out.below HB5_.out HG5.out))
                have HB6 := Aside0.mk (HW6.out.below HB5.out HG5w.out)
                clear c0 c1_ c2_ f0 f1 f2 HW6
                generalize (((w5.setCell ⟨g13, 0, none⟩ (.int .i64 x0)).setCell ⟨g13, 1, none⟩ (.int .i64 x1)).setCell ⟨g13, 2, none⟩ (.int .i64 x2)) = w6 at H6 HT6 HB6 ⊢
                have H7 := Aside0.mk (blk_drew H6.out)
                have HT7 := Aside0.mk (tab_below HT6.out (below_drew (Below.refl _ _)))
                have HB7 := Aside0.mk HB6.out.drew
                refine start_ (n := 16) (S := fun w' => w'.cell? ⟨g13, 0, none⟩ = some (.int .i64 x0) ∧ w'.cell? ⟨g13, 1, none⟩ = some (.int .i64 x1) ∧ w'.cell? ⟨g13, 2, none⟩ = some (.int .i64 x2)) (ds := []) #[false, false, false, false, false, false, false, false, false, false, false, false, false, false, false, false] (by kernel_rfl) rfl rfl ⟨(blk_cell H7.out 0).trans rfl, (blk_cell H7.out 1).trans rfl, (blk_cell H7.out 2).trans rfl⟩ (fun hHeld => ?_)
                generalize w6.drew = w7 at H7 HT7 HB7 hHeld ⊢
                refine pure_ (i := 0) (N := some 77) (v := ?_) (a' := ?_) #[true, false, false, false, false, false, false, false, false, false, false, false, false, false, false, false] rfl rfl (by kernel_rfl) (fun _ _ _ h => h) (Or.inl ⟨by rfl, ?_⟩) ?_ ?_
                rotate_left
                · intro w'
                  go_simp
                  with_reducible rfl
                rotate_left
                · simp only [Act.put, List.setIfInBounds_toArray, List.set_cons_zero, List.set_cons_succ, i64_w, i32_w]
                  rfl
                refine pure_ (i := 1) (N := some 78) (v := ?_) (a' := ?_) #[true, true, false, false, false, false, false, false, false, false, false, false, false, false, false, false] rfl rfl (by kernel_rfl) (fun _ _ _ h => h) (Or.inl ⟨by rfl, ?_⟩) ?_ ?_
                rotate_left
                · intro w'
                  go_simp
                  with_reducible rfl
                rotate_left
                · simp only [Act.put, List.setIfInBounds_toArray, List.set_cons_zero, List.set_cons_succ, i64_w, i32_w]
                  rfl
                refine take_ (i := 2) (N := some 79) (v := ?_) (a' := ?_) #[true, true, true, false, false, false, false, false, false, false, false, false, false, false, false, false] rfl rfl (by kernel_rfl) (fun _ _ _ h => h) (Or.inl ⟨by rfl, ?_⟩) hHeld ?_ ?_
                rotate_left
                · rintro w' ⟨s0, s1, s2⟩
                  go_simp
                  with_reducible rfl
                rotate_left
                · simp only [Act.put, List.setIfInBounds_toArray, List.set_cons_zero, List.set_cons_succ, i64_w, i32_w]
                  rfl
                refine pure_ (i := 4) (N := some 81) (v := ?_) (a' := ?_) #[true, true, true, false, true, false, false, false, false, false, false, false, false, false, false, false] rfl rfl (by kernel_rfl) (fun _ _ _ h => h) (Or.inl ⟨by rfl, ?_⟩) ?_ ?_
                rotate_left
                · intro w'
                  go_simp
                  with_reducible rfl
                rotate_left
                · simp only [Act.put, List.setIfInBounds_toArray, List.set_cons_zero, List.set_cons_succ, i64_w, i32_w]
                  rfl
                refine take_ (i := 5) (N := some 82) (v := ?_) (a' := ?_) #[true, true, true, false, true, true, false, false, false, false, false, false, false, false, false, false] rfl rfl (by kernel_rfl) (fun _ _ _ h => h) (Or.inl ⟨by rfl, ?_⟩) hHeld ?_ ?_
                rotate_left
                · rintro w' ⟨s0, s1, s2⟩
                  go_simp
                  with_reducible rfl
                rotate_left
                · simp only [Act.put, List.setIfInBounds_toArray, List.set_cons_zero, List.set_cons_succ, i64_w, i32_w]
                  rfl
                refine one_ (i := 3) (N := some 80) #[true, true, true, true, true, true, false, false, false, false, false, false, false, false, false, false] rfl rfl (by kernel_rfl) (by decide) (fun K hK => ?_)
                refine (goes_ Try.func28 (by kernel_rfl) rfl #[.pointer (some ⟨g, 0, none⟩), .int .i64 x0] (by rfl) rfl rfl (by (try simp only [List.map_toArray, List.map_cons, List.map_nil]); first | done | rfl) ?_)
                (with_reducible refine (p_got HT7.out HBT.out HO.out x0 x2 HV0.out).mono ?_)
                rintro e w8 ⟨rfl, hb⟩
                refine ⟨_, rfl, ?_⟩
                have H8 := Aside0.mk (blk_below H7.out hb)
                have HT8 := Aside0.mk (tab_below HT7.out hb)
                have HB8 := Aside0.mk (below_step HB7.out hb)
                clear hb
                refine hK.out _ _ ⟨(blk_cell H8.out 0).trans rfl, (blk_cell H8.out 1).trans rfl, (blk_cell H8.out 2).trans rfl⟩ (fun hHeld => ?_)
                clear hK K
                refine norm_ (a' := ?_) ?_ ?_
                rotate_left
                · show Act.put _ (some 80) _ = _
                  simp only [Act.put, List.setIfInBounds_toArray, List.set_cons_zero, List.set_cons_succ, i64_w, i32_w]
                  rfl
                refine pure_ (i := 6) (N := some 83) (v := .bool false) (a' := ?_) #[true, true, true, true, true, true, true, false, false, false, false, false, false, false, false, false] rfl rfl (by kernel_rfl) (fun _ _ _ h => h) (Or.inl ⟨by rfl, ?_⟩) ?_ ?_
                · intro w'
                  go_simp
                  all_goals with_reducible rfl
                rotate_left
                · simp only [Act.put, List.setIfInBounds_toArray, List.set_cons_zero, List.set_cons_succ, i64_w, i32_w]
                  rfl
                refine pure_ (i := 7) (N := some 84) (v := ?_) (a' := ?_) #[true, true, true, true, true, true, true, true, false, false, false, false, false, false, false, false] rfl rfl (by kernel_rfl) (fun _ _ _ h => h) (Or.inl ⟨by rfl, ?_⟩) ?_ ?_
                rotate_left
                · intro w'
                  go_simp
                  with_reducible rfl
                rotate_left
                · simp only [Act.put, List.setIfInBounds_toArray, List.set_cons_zero, List.set_cons_succ, i64_w, i32_w]
                  rfl
                refine pure_ (i := 8) (N := some 85) (v := ?_) (a' := ?_) #[true, true, true, true, true, true, true, true, true, false, false, false, false, false, false, false] rfl rfl (by kernel_rfl) (fun _ _ _ h => h) (Or.inl ⟨by rfl, ?_⟩) ?_ ?_
                rotate_left
                · intro w'
                  go_simp
                  with_reducible rfl
                rotate_left
                · simp only [Act.put, List.setIfInBounds_toArray, List.set_cons_zero, List.set_cons_succ, i64_w, i32_w]
                  rfl
                refine pure_ (i := 9) (N := some 86) (v := ?_) (a' := ?_) #[true, true, true, true, true, true, true, true, true, true, false, false, false, false, false, false] rfl rfl (by kernel_rfl) (fun _ _ _ h => h) (Or.inl ⟨by rfl, ?_⟩) ?_ ?_
                rotate_left
                · intro w'
                  go_simp
                  with_reducible rfl
                rotate_left
                · simp only [Act.put, List.setIfInBounds_toArray, List.set_cons_zero, List.set_cons_succ, i64_w, i32_w]
                  rfl
                refine take_ (i := 10) (N := some 87) (v := ?_) (a' := ?_) #[true, true, true, true, true, true, true, true, true, true, true, false, false, false, false, false] rfl rfl (by kernel_rfl) (fun _ _ _ h => h) (Or.inl ⟨by rfl, ?_⟩) hHeld ?_ ?_
                rotate_left
                · rintro w' ⟨s0, s1, s2⟩
                  go_simp
                  with_reducible rfl
                rotate_left
                · simp only [Act.put, List.setIfInBounds_toArray, List.set_cons_zero, List.set_cons_succ, i64_w, i32_w]
                  rfl
                refine pure_ (i := 12) (N := some 89) (v := ?_) (a' := ?_) #[true, true, true, true, true, true, true, true, true, true, true, false, true, false, false, false] rfl rfl (by kernel_rfl) (fun _ _ _ h => h) (Or.inl ⟨by rfl, ?_⟩) ?_ ?_
                rotate_left
                · intro w'
                  go_simp
                  with_reducible rfl
                rotate_left
                · simp only [Act.put, List.setIfInBounds_toArray, List.set_cons_zero, List.set_cons_succ, i64_w, i32_w]
                  rfl
                refine take_ (i := 13) (N := some 90) (v := ?_) (a' := ?_) #[true, true, true, true, true, true, true, true, true, true, true, false, true, true, false, false] rfl rfl (by kernel_rfl) (fun _ _ _ h => h) (Or.inl ⟨by rfl, ?_⟩) hHeld ?_ ?_
                rotate_left
                · rintro w' ⟨s0, s1, s2⟩
                  go_simp
                  with_reducible rfl
                rotate_left
                · simp only [Act.put, List.setIfInBounds_toArray, List.set_cons_zero, List.set_cons_succ, i64_w, i32_w]
                  rfl
                refine one_ (i := 11) (N := some 88) #[true, true, true, true, true, true, true, true, true, true, true, true, true, true, false, false] rfl rfl (by kernel_rfl) (by decide) (fun K hK => ?_)
                refine (goes_ Try.func28 (by kernel_rfl) rfl #[.pointer (some ⟨g, 0, none⟩), .int .i64 x1] (by rfl) rfl rfl (by (try simp only [List.map_toArray, List.map_cons, List.map_nil]); first | done | rfl) ?_)
                (with_reducible refine (p_got HT8.out HBT.out HO.out x1 x2 HV1.out).mono ?_)
                rintro e w9 ⟨rfl, hb⟩
                refine ⟨_, rfl, ?_⟩
                have H9 := Aside0.mk (blk_below H8.out hb)
                have HT9 := Aside0.mk (tab_below HT8.out hb)
                have HB9 := Aside0.mk (below_step HB8.out hb)
                clear hb
                refine hK.out _ _ ⟨(blk_cell H9.out 0).trans rfl, (blk_cell H9.out 1).trans rfl, (blk_cell H9.out 2).trans rfl⟩ (fun hHeld => ?_)
                clear hK K
                refine norm_ (a' := ?_) ?_ ?_
                rotate_left
                · show Act.put _ (some 88) _ = _
                  simp only [Act.put, List.setIfInBounds_toArray, List.set_cons_zero, List.set_cons_succ, i64_w, i32_w]
                  rfl
                refine pure_ (i := 14) (N := some 91) (v := .bool false) (a' := ?_) #[true, true, true, true, true, true, true, true, true, true, true, true, true, true, true, false] rfl rfl (by kernel_rfl) (fun _ _ _ h => h) (Or.inl ⟨by rfl, ?_⟩) ?_ ?_
                · intro w'
                  go_simp
                  all_goals with_reducible rfl
                rotate_left
                · simp only [Act.put, List.setIfInBounds_toArray, List.set_cons_zero, List.set_cons_succ, i64_w, i32_w]
                  rfl
                refine pure_ (i := 15) (N := some 92) (v := ?_) (a' := ?_) #[true, true, true, true, true, true, true, true, true, true, true, true, true, true, true, true] rfl rfl (by kernel_rfl) (fun _ _ _ h => h) (Or.inl ⟨by rfl, ?_⟩) ?_ ?_
                rotate_left
                · intro w'
                  go_simp
                  with_reducible rfl
                rotate_left
                · simp only [Act.put, List.setIfInBounds_toArray, List.set_cons_zero, List.set_cons_succ, i64_w, i32_w]
                  rfl
                refine done_ (by kernel_rfl) ?_
                go_wp2
                go_roundg (l.length + 1 - (i + 1))
                case measure => have h1_ := HQ.out; have h2_ := HLT.out; omega
                case rel => exact ⟨i + 1, by first | rfl | go_num | rw [hwi], ⟨Nat.le_refl _⟩, HT9, HB9⟩
              · have q0 := decide_eq_false (show ¬ (i : Int) < (l.length : Int) by omega)
                have q1 := decide_eq_false hlt
                clear hlt
                go_wp2_with (first | (go_at_call 12; (with_reducible refine (p_awake _).mono ?_); rintro e wA ⟨rfl, hb⟩; have HBA := Aside0.mk (below_step HB.out hb); clear hb))
                go_ret
                exact ⟨by first | rfl | (simp; done), HBA.out⟩
      · obtain ⟨x, hx, hne⟩ : ∃ x, chk l = x ∧ x ≠ 0 := ⟨_, rfl, hx0⟩
        clear h1 h3 hx0
        go_enter Try.func6, Try.ntmps6
        have HX := Aside0.mk hx
        have HCHK := Aside0.mk (show chk l ≠ 0 by rw [hx]; exact hne)
        have e0 : (x != 0) = true := by simp [hne]
        have e1 : decide (x = 0) = false := decide_eq_false hne
        clear hx hne
        go_wp2_with (first | (go_at_call 26; (with_reducible refine (p_clone HC.out HCC.out HLN.out).mono ?_); rintro e w1 ⟨A1, c1, rfl, h1, h2, hb⟩; have HC1 := Aside0.mk h1; have HCC1 := Aside0.mk h2; have HB1 := Aside0.mk hb; clear h1 h2 hb) | (go_at_call 13; (with_reducible refine (p_build_no (Kd.C_below HC.out HB1.out) HCHK.out a1).mono ?_); rw [HX.out]; rintro e w2 ⟨rfl, hb⟩; have HB2 := Aside0.mk (below_step HB1.out hb); have HC2 := Aside0.mk (Kd.C_below HC1.out hb); clear hb) | (go_at_call 14; (with_reducible refine (p_rcheck (Kd.C_below HC.out HB2.out) HCC.out).mono ?_); rw [HX.out]; rintro e w3 ⟨rfl, hb⟩; have HB3 := Aside0.mk (below_step HB2.out hb); have HC3 := Aside0.mk (Kd.C_below HC2.out hb); clear hb) | (go_at_call 27; (with_reducible refine (p_req (Kd.C_below HC.out HB3.out) HCC.out HC3.out HCC1.out).mono ?_); rintro e w4 ⟨rfl, hb⟩; have HB4 := Aside0.mk (below_step HB3.out hb); clear hb) | (go_at_call 12; (with_reducible refine (p_awake _).mono ?_); rintro e wA ⟨rfl, hb⟩; have HBA := Aside0.mk (below_step HB4.out hb); clear hb))
        go_ret
        exact ⟨by first | rfl | (simp; done), HBA.out⟩
end Go.Proofs.Ytljcohjafcjgdaa.Stk
