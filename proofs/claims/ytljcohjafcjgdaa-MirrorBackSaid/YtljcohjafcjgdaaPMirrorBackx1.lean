-- PRINTED by print.py (a twelfth state) out of the translation. Not trusted: Lean checks it.
import Derived.Test.YtljcohjafcjgdaaPMirrorBackx0
namespace Go.Proofs.Ytljcohjafcjgdaa.PMirrorBack
open Go.RowKit Go.Proofs.YtljcohjafcjgdaaM Go.Proofs.YtljcohjafcjgdaaW.PrintWords Go.Proofs.YtljcohjafcjgdaaW.PrintLast Go.Proofs.YtljcohjafcjgdaaW.PrintMore
attribute [local go_sem] max2_int min2_int max_two min_two max_three min_three max_four min_four   -- for this text's walks alone
set_option linter.unusedVariables false
set_option linter.unusedSimpArgs false

/-! ### slices_Equal_int_int: function 32 -/
def slices_Equal_int_int.l0 : Nat → List Int → List Int → Int → Int → Option (Bool)
  | 0, _, _, _, _ => none
  | k + 1, x0, x1, x12, x13 => if x13 < x12 then (if 0 ≤ x13 then (if x13 < (x0.length : Int) then (if x13 < (x1.length : Int) then (if (rd x0 x13) = (rd x1 x13) then (slices_Equal_int_int.l0 k x0 x1 x12 (wrap64 (x13 + 1))) else (some false)) else (none)) else (none)) else (none)) else (some true)
def slices_Equal_int_int.f (k : Nat) (l0 : List Int) (l1 : List Int) : Option (Bool) := if (l0.length : Int) = (l1.length : Int) then (slices_Equal_int_int.l0 k l0 l1 (l0.length : Int) 0) else (some false)
theorem slices_Equal_int_int.mono_l : ∀ k, (∀ y0 y1 y2 y3, LeO (slices_Equal_int_int.l0 k y0 y1 y2 y3) (slices_Equal_int_int.l0 (k + 1) y0 y1 y2 y3))
  | 0 => fun _ _ _ _ r h => by simp [slices_Equal_int_int.l0] at h
  | k + 1 => by
    have ih0 := slices_Equal_int_int.mono_l k
    · intro y0 y1 y2 y3
      unfold slices_Equal_int_int.l0
      repeat' first
      | (with_reducible exact ih0 _ _ _ _)
      | (with_reducible exact LeO.refl _)
      | (with_reducible exact LeO.none _)
      | (with_reducible refine LeO.ite ?_ ?_)
      | (with_reducible refine LeO.bind ?_ (fun _ => ?_))
      | exact ih0 _ _ _ _
      | exact LeO.none _
      | refine LeO.ite ?_ ?_
      | refine LeO.bind ?_ (fun _ => ?_)
theorem slices_Equal_int_int.mono : ∀ a0 a1 k, LeO (slices_Equal_int_int.f k a0 a1) (slices_Equal_int_int.f (k + 1) a0 a1) := by
  intro a0 a1 k
  have ih0 := slices_Equal_int_int.mono_l k
  unfold slices_Equal_int_int.f
  repeat' first
      | (with_reducible exact ih0 _ _ _ _)
      | (with_reducible exact LeO.refl _)
      | (with_reducible exact LeO.none _)
      | (with_reducible refine LeO.ite ?_ ?_)
      | (with_reducible refine LeO.bind ?_ (fun _ => ?_))
      | exact ih0 _ _ _ _
      | exact LeO.none _
      | refine LeO.ite ?_ ?_
      | refine LeO.bind ?_ (fun _ => ?_)
set_option maxHeartbeats 8000000 in
set_option maxRecDepth 100000 in
theorem slices_Equal_int_int.calls (k : Nat) (A0 : Option Addr) (c0 : Nat) (l0 : List Int) (A1 : Option Addr) (c1 : Nat) (l1 : List Int) (r : Bool) (w : World) (hr0 : Kd.C (Kd.int .i64) w A0 l0.length l0) (hc0 : l0.length ≤ c0) (hr1 : Kd.C (Kd.int .i64) w A1 l1.length l1) (hc1 : l1.length ≤ c1) (h : slices_Equal_int_int.f k l0 l1 = some r) :
    Calls Try.prog 32 #[.slice A0 l0.length c0, .slice A1 l1.length c1] w fun e w' => e = .returned (.bool r) ∧ Drawn0 w w' := by
  have HR0 := Aside0.mk hr0
  have HC0 := Aside0.mk hc0
  clear hr0 hc0
  have HR1 := Aside0.mk hr1
  have HC1 := Aside0.mk hc1
  clear hr1 hc1
  have H : (if (l0.length : Int) = (l1.length : Int) then (slices_Equal_int_int.l0 k l0 l1 (l0.length : Int) 0) else (some false)) = some r := h
  clear h
  by_cases c3 : (l0.length : Int) = (l1.length : Int)
  · rw [if_pos c3] at H
    have c3b0 : ((l0.length : Int) == (l1.length : Int)) = true := beq_iff_eq.mpr c3
    have c3b1 : ((l0.length : Int) != (l1.length : Int)) = false := bne_eq_false_iff_eq.mpr c3
    have c3b2 : (l0.length == l1.length) = true := by first | simpa using c3 | (simp at c3 ⊢; omega)
    clear c3
    have H' := Aside0.mk H
    clear H
    go_enter Try.func32, Try.ntmps32
    go_wp2
    repeat (go_quiet (fail); try go_wp2)
    go_loopg [13] k (fun kq v13 w' => ∃ (x13_1 : Int), v13 = .int .i64 x13_1 ∧ Aside0 (slices_Equal_int_int.l0 kq l0 l1 (l0.length : Int) x13_1 = some r) ∧ Aside0 (kq ≤ k) ∧ Drawn0 w w')
    case atStart => exact ⟨(0), (by first | rfl | (simp; done) | (simp [*]; done)), H', ⟨Nat.le_refl _⟩, by repeat (first | exact Drawn0.refl _ | apply Drawn0.step)⟩
    case round =>
      clear H'
      try clear c1
      try clear p2
      try clear c3
      try clear c3b0
      try clear c3b1
      try clear c3b2
      obtain ⟨x13_1, rfl, HA, HK1, ⟨m1, rfl⟩⟩ := hrel
      cases gk with
      | zero => exact absurd HA.out (by simp [slices_Equal_int_int.l0])
      | succ k1 =>
        have H := HA.out
        clear HA
        simp only [slices_Equal_int_int.l0] at H
        by_cases c4 : x13_1 < (l0.length : Int)
        · rw [if_pos c4] at H
          have c4b0 : decide (x13_1 < (l0.length : Int)) = true := decide_eq_true c4
          clear c4
          by_cases c5 : 0 ≤ x13_1
          · rw [if_pos c5] at H
            have c5b0 : decide (0 ≤ x13_1) = true := decide_eq_true c5
            clear c5
            by_cases c6 : x13_1 < (l0.length : Int)
            · rw [if_pos c6] at H
              have c6b0 : decide (x13_1 < (l0.length : Int)) = true := decide_eq_true c6
              clear c6
              by_cases c7 : x13_1 < (l1.length : Int)
              · rw [if_pos c7] at H
                have c7b0 : decide (x13_1 < (l1.length : Int)) = true := decide_eq_true c7
                clear c7
                by_cases c8 : (rd l0 x13_1) = (rd l1 x13_1)
                · rw [if_pos c8] at H
                  have c8b0 : ((rd l0 x13_1) == (rd l1 x13_1)) = true := beq_iff_eq.mpr c8
                  have c8b1 : ((rd l0 x13_1) != (rd l1 x13_1)) = false := bne_eq_false_iff_eq.mpr c8
                  clear c8
                  have H' := Aside0.mk H
                  clear H
                  have p101 : 0 ≤ (x13_1 : Int) := of_decide_eq_true (by first | (with_reducible assumption) | assumption)
                  have q101 : x13_1 < (l0.length : Int) := of_decide_eq_true (by first | (with_reducible assumption) | assumption)
                  obtain ⟨ad101, e101, hx101_0⟩ := Kd.at_int HR0.out x13_1 p101 q101
                  cases e101
                  replace p101 := eq_true p101
                  replace q101 := eq_true q101
                  have p102 : 0 ≤ (x13_1 : Int) := of_decide_eq_true (by first | (with_reducible assumption) | assumption)
                  have q102 : x13_1 < (l1.length : Int) := of_decide_eq_true (by first | (with_reducible assumption) | assumption)
                  obtain ⟨ad102, e102, hx102_0⟩ := Kd.at_int HR1.out x13_1 p102 q102
                  cases e102
                  replace p102 := eq_true p102
                  replace q102 := eq_true q102
                  go_wp2
                  repeat (go_quiet (fail); try go_wp2)
                  go_roundg k1
                  case measure => have := HK1.out; omega
                  case rel => exact ⟨(wrap64 (x13_1 + 1)), (by first | rfl | (simp; done) | (simp [*]; done)), H', ⟨by have := HK1.out; omega⟩, by repeat (first | exact Drawn0.refl _ | apply Drawn0.step)⟩
                · rw [if_neg c8] at H
                  have c8b0 : ((rd l0 x13_1) == (rd l1 x13_1)) = false := beq_eq_false_iff_ne.mpr c8
                  have c8b1 : ((rd l0 x13_1) != (rd l1 x13_1)) = true := bne_iff_ne.mpr c8
                  obtain rfl := Option.some.inj H
                  have p101 : 0 ≤ (x13_1 : Int) := of_decide_eq_true (by first | (with_reducible assumption) | assumption)
                  have q101 : x13_1 < (l0.length : Int) := of_decide_eq_true (by first | (with_reducible assumption) | assumption)
                  obtain ⟨ad101, e101, hx101_0⟩ := Kd.at_int HR0.out x13_1 p101 q101
                  cases e101
                  replace p101 := eq_true p101
                  replace q101 := eq_true q101
                  have p102 : 0 ≤ (x13_1 : Int) := of_decide_eq_true (by first | (with_reducible assumption) | assumption)
                  have q102 : x13_1 < (l1.length : Int) := of_decide_eq_true (by first | (with_reducible assumption) | assumption)
                  obtain ⟨ad102, e102, hx102_0⟩ := Kd.at_int HR1.out x13_1 p102 q102
                  cases e102
                  replace p102 := eq_true p102
                  replace q102 := eq_true q102
                  go_wp2
                  repeat (go_quiet (fail); try go_wp2)
                  go_ret
                  exact ⟨by first | rfl | (simp; done) | (simp [*]; done), by repeat (first | exact Drawn0.refl _ | apply Drawn0.step)⟩
              · rw [if_neg c7] at H
                exact absurd H (by simp)
            · rw [if_neg c6] at H
              exact absurd H (by simp)
          · rw [if_neg c5] at H
            exact absurd H (by simp)
        · rw [if_neg c4] at H
          have c4b0 : decide (x13_1 < (l0.length : Int)) = false := decide_eq_false c4
          clear c4
          obtain rfl := Option.some.inj H
          go_wp2
          repeat (go_quiet (fail); try go_wp2)
          go_ret
          exact ⟨by first | rfl | (simp; done) | (simp [*]; done), by repeat (first | exact Drawn0.refl _ | apply Drawn0.step)⟩
  · rw [if_neg c3] at H
    have c3b0 : ((l0.length : Int) == (l1.length : Int)) = false := beq_eq_false_iff_ne.mpr c3
    have c3b1 : ((l0.length : Int) != (l1.length : Int)) = true := bne_iff_ne.mpr c3
    have c3b2 : (l0.length == l1.length) = false := by first | simpa using c3 | (simp at c3 ⊢; omega)
    obtain rfl := Option.some.inj H
    go_enter Try.func32, Try.ntmps32
    go_wp2
    repeat (go_quiet (fail); try go_wp2)
    go_ret
    exact ⟨by first | rfl | (simp; done) | (simp [*]; done), by repeat (first | exact Drawn0.refl _ | apply Drawn0.step)⟩

-- NOT PRINTED: function 54 (mirror_Codes_1)

/-! ### slices_Clone_int_int: function 31 -/
def slices_Clone_int_int.f (l0 : List Int) : Option (List Int) := (some (([] : List Int) : List Int)).bind fun y103 => (if y103.length + l0.length < 17592186044416 then (some (y103 ++ l0)) else (none))
set_option maxHeartbeats 8000000 in
set_option maxRecDepth 100000 in
theorem slices_Clone_int_int.calls (A0 : Option Addr) (c0 : Nat) (l0 : List Int) (r : List Int) (w : World) (hr0 : Kd.C (Kd.int .i64) w A0 l0.length l0) (hc0 : l0.length ≤ c0) (h : slices_Clone_int_int.f l0 = some r) :
    Calls Try.prog 31 #[.slice A0 l0.length c0] w fun e w' => ∃ v0_ : Value, e = .returned (v0_) ∧ Kd.R (Kd.int .i64) 3 w' w.heap.size (fun _ => True) v0_ r ∧ Below w.heap.size w w' := by
  have HR0 := Aside0.mk hr0
  have HC0 := Aside0.mk hc0
  clear hr0 hc0
  have HB := Aside0.mk (Below.refl w.heap.size w)
  have H : ((some (([] : List Int) : List Int)).bind fun y103 => (if y103.length + l0.length < 17592186044416 then (some (y103 ++ l0)) else (none))) = some r := h
  clear h
  obtain ⟨y103, hy103⟩ : ∃ y_ : List Int, y_ = (([] : List Int)) := ⟨_, rfl⟩
  replace H : (if y103.length + l0.length < 17592186044416 then (some (y103 ++ l0)) else (none)) = some r := by first | (rw [hy103]; with_reducible exact H) | (have H2_ := (Option.bind_some _ _).symm.trans H; rw [hy103]; with_reducible exact H2_) | (have H2_ := (Option.bind_some _ _).symm.trans H; with_reducible exact H2_) | with_reducible exact H | (rw [hy103]; exact H) | exact H
  have Ny103 := Aside0.mk hy103
  clear hy103
  by_cases c2 : y103.length + l0.length < 17592186044416
  · rw [if_pos c2] at H
    have LMc2 := Aside0.mk c2
    clear c2
    obtain ⟨y106, hy106⟩ : ∃ y_ : List Int, y_ = (y103 ++ l0) := ⟨_, rfl⟩
    replace H : (some y106) = some r := by first | (rw [hy106]; with_reducible exact H) | (have H2_ := (Option.bind_some _ _).symm.trans H; rw [hy106]; with_reducible exact H2_) | (have H2_ := (Option.bind_some _ _).symm.trans H; with_reducible exact H2_) | with_reducible exact H | (rw [hy106]; exact H) | exact H
    have Ny106 := Aside0.mk hy106
    clear hy106
    obtain rfl := Option.some.inj H
    have hns : ∀ (W : World) (a : Option Addr) (n c n' c' : Nat), (binOp .eql 36 (.slice a n c) (.slice none n' c')).run Try.prog W = .ok (.bool a.isNone) W := fun W a n c n' c' => Lib.run_eql_slice_nil W _ _ a n c n' c' Try.underlying36
    cases hA : A0.isNone with
    | true =>
      have hl0 : l0 = [] := by
        have h1 := Option.isNone_iff_eq_none.mp hA
        rcases Nat.eq_zero_or_pos l0.length with h | h
        · exact List.eq_nil_of_length_eq_zero h
        · obtain ⟨ad, e, _⟩ := HR0.out.2.2 h
          rw [h1] at e
          cases e
      have hy : y106 = [] := by rw [Ny106.out, Ny103.out, hl0]; rfl
      have Hy := Aside0.mk hy
      clear hy hl0
      go_enter Try.func31, Try.ntmps31
      go_wp2
      go_ret
      exact ⟨_, rfl, by rw [Hy.out]; exact Kd.R_nil _ _ _ _ _, HB.out⟩
    | false =>
        go_enter Try.func31, Try.ntmps31
        go_wp2_with (first | ((with_reducible refine gate_dst (N := 5) rfl ?_); refine Kd.R_lit (Kd.int .i64) _ 3 ?hg (N := 5) ?hd (xs := ([] : List Int)) (inner := []) (ok := fun _ => True) (okp := fun _ => True) ?hr ?hp (fun _ hk => hk) trivial (Below.refl _ _) (Nat.le_refl _) (by simp) ?_; (case hd => rfl); (case hg => rfl); (case hr => first | (go_simp; done) | (go_simp; rfl)); (case hp => exact (Reps.none _ _)); intro v104 w3 ho4 hb hg_ hnew_; clear hg_ hnew_; (first | rw [← Ny103.out] at ho4 | (simp only [Int.reduceToNat] at ho4; rw [← Ny103.out] at ho4)); have n0_ := Aside0.mk (Kd.R_lower ho4 (below_size (by repeat (first | (with_reducible first | exact HB.out | apply below_alloc | apply pw_below_drewN | apply below_drew1) | exact HB.out)))); have n1_ := Aside0.mk (below_step (by repeat (first | (with_reducible first | exact HB.out | apply below_alloc | apply pw_below_drewN | apply below_drew1) | exact HB.out)) hb); clear HB; have HO105 := n0_; have HB := n1_; clear n0_ n1_; clear hb ho4) | ((with_reducible refine gate_builtin (b := .append) (xs := #[.tmp 5, .tmp 6]) rfl ?_); at_builtin; refine Kd.R_append_rows (Kd.int .i64) (w0 := w) w.heap.size rfl (.tmp 5) (.tmp 6) 36 3 (.int .i64 0) 8 rfl Try.underlying36 info3 rfl (by decide) (by omega) v104 y103 l0 _ _ _ (fun _ => True) (fun _ => False) rfl rfl ?aO ?aR (fun _ _ h => h) (fun _ h => h.elim) ?aF ?aB ?aS ?aL ?_; (case aR => repeat (first | exact (Kd.C_below HR0.out HB.out) | (with_reducible refine Kd.C_alloc ?_ _) | (with_reducible refine Kd.C_drewN ?_ _) | (with_reducible refine Kd.C_drew ?_))); (case aB => exact (by repeat (first | (with_reducible first | exact HB.out | apply below_alloc | apply pw_below_drewN | apply below_drew1) | exact HB.out))); (case aF => exact (fun _ _ => trivial)); (case aO => exact (by (with_reducible repeat (first | apply Kd.R_alloc | apply Kd.R_drewN | apply Kd.R_drew)); exact HO105.out)); (case aS => exact (below_size (by repeat (first | (with_reducible first | exact HB.out | apply below_alloc | apply pw_below_drewN | apply below_drew1) | exact HB.out)))); (case aL => have := LMc2.out; omega); intro v107 w5 ho hb hg hat; rw [← Ny106.out] at ho; have n0_ := Aside0.mk (hb); have n1_ := Aside0.mk (ho); clear HB; clear HO105; have HB := n0_; have HO108 := n1_; clear n0_ n1_; clear ho hb hg hat))
        go_ret
        exact ⟨_, by first | rfl | (simp [errW_none, errW_some] <;> rfl) | (simp [*, errW_none, errW_some] <;> rfl), by (with_reducible repeat (first | apply Kd.R_alloc | apply Kd.R_drewN | apply Kd.R_drew)); exact HO108.out, by repeat (first | (with_reducible first | exact HB.out | apply below_alloc | apply pw_below_drewN | apply below_drew1) | exact HB.out)⟩
  · rw [if_neg c2] at H
    exact absurd H (by simp)

-- NOT PRINTED: function 62 (pairs_list_find_1)

-- NOT PRINTED: function 61 (sort_Search)

/-! ### pairs_list_find: function 47 -/
/-- How many pairs stand ahead of a first one. -/
def pairs_list_find.cnt (l0 : List S66) (a1 : Int) : Nat := l0.countP (fun x => decide (x.f0 < a1))
/-- The pair with a first one, in a list that rises. -/
def pairs_list_find.f (_k : Nat) (l0 : List S66) (a1 : Int) : Option (Int × Int × Bool) := if l0.length ≤ 1000000 ∧ l0.Pairwise (fun x y => x.f0 ≤ y.f0) then (if pairs_list_find.cnt l0 a1 = l0.length then some (0, 0, false) else if (rd_T66 l0 (pairs_list_find.cnt l0 a1 : Int)).f0 = a1 then some ((rd_T66 l0 (pairs_list_find.cnt l0 a1 : Int)).f0, (rd_T66 l0 (pairs_list_find.cnt l0 a1 : Int)).f1, true) else some (0, 0, false)) else none
theorem pairs_list_find.mono : ∀ a0 a1 k, LeO (pairs_list_find.f k a0 a1) (pairs_list_find.f (k + 1) a0 a1) := fun _ _ _ => LeO.refl _
set_option maxHeartbeats 4000000 in
theorem pairs_list_find.closure (ba bx : Nat) (A : Option Addr) (c : Nat) (l : List S66) (x : Int) (i n : Nat) (hn : n = l.length) (W : World) (hi : i < l.length) (ha : W.cell? ⟨ba, 0, none⟩ = some (.slice A n c)) (hx : W.cell? ⟨bx, 0, none⟩ = some (.int .i64 x)) (hC : Kd.C k66 W A l.length l) :
    Calls Try.prog 62 (#[.int .i64 i] ++ #[.pointer (some ⟨ba, 0, none⟩), .pointer (some ⟨bx, 0, none⟩)]) W fun e w' => e = .returned (.bool (decide (x ≤ (rd_T66 l (i : Int)).f0))) ∧ ∃ q, w' = W.drewN q := by
  obtain ⟨ad, e, h0, h1⟩ := at_T66 hC (i : Int) (by omega) (by omega)
  subst e
  obtain ⟨y, hy⟩ : ∃ y, (rd_T66 l (i : Int)).f0 = y := ⟨_, rfl⟩
  rw [hy] at h0 ⊢
  rw [Int.toNat_natCast] at h0
  have p0 : ((0 : Int) ≤ (i : Int)) = True := eq_true (by omega)
  have p1 : ((i : Int) < (n : Int)) = True := eq_true (by omega)
  have d1 : decide (i < n) = true := decide_eq_true (by omega)
  have p2 : (i < n) = True := eq_true (by omega)
  clear hy h1 hC hi hn
  go_enter Try.func62, Try.ntmps62
  go_wp2
  go_quiet (fail)
  go_wp2
  go_ret
  exact ⟨by first | rfl | simp, _, rfl⟩
set_option maxHeartbeats 4000000 in
theorem pairs_list_find.search (A0 : Option Addr) (c0 : Nat) (l0 : List S66) (a1 : Int) (w : World) (hr0 : Kd.C k66 w A0 l0.length l0) (hs : l0.Pairwise (fun x y => x.f0 ≤ y.f0)) (hmax : l0.length ≤ 1000000) (n : Nat) (hn : n = l0.length) (W : World) (ba bx : Nat)
    (ha : W.cell? ⟨ba, 0, none⟩ = some (.slice A0 n c0)) (hx : W.cell? ⟨bx, 0, none⟩ = some (.int .i64 a1)) (hb : Below w.heap.size w W) :
    Calls Try.prog 61 #[.int .i64 n, .func (.func 62) #[] #[.pointer (some ⟨ba, 0, none⟩), .pointer (some ⟨bx, 0, none⟩)]] W fun e w' => e = .returned (.int .i64 (pairs_list_find.cnt l0 a1 : Int)) ∧ Below W.heap.size W w' := by
  letI : Inhabited S66 := ⟨z66⟩
  have eg : ∀ args w, (callFunc 62 args).run Try.prog w = .ok (.enter 62 args) w := enters_of Try.func62 (by kernel_rfl) rfl
  have hrd : ∀ i : Nat, rd_T66 l0 (i : Int) = l0.toArray[i]! := fun i => by
    unfold rd_T66
    rw [Int.toNat_natCast, List.getElem!_toArray, List.getElem!_eq_getElem?_getD, List.getD_eq_getElem?_getD]
    rfl
  have hS := Any.sort_Search Try.laySearch 62 #[.pointer (some ⟨ba, 0, none⟩), .pointer (some ⟨bx, 0, none⟩)] l0.toArray.size (fun i => decide (a1 ≤ (l0.toArray[i]!).f0)) W eg (by simp; omega)
    (fun m os i hi => (pairs_list_find.closure ba bx A0 c0 l0 a1 i n hn _ (by simpa using hi) (cell_grown (World.block_lt_of_cell? W _ ha) ha m os) (cell_grown (World.block_lt_of_cell? W _ hx) hx m os) (Kd.C_below hr0 (below_then hb hb.size (below_grown_sl W.heap.size W m os (Nat.le_refl _))))).mono
      fun _ _ ⟨he, q, hq⟩ => ⟨by rw [he, hrd], q, #[], by rw [hq, Go.Sort.grow_empty]⟩)
    (fun a b hab hb2 h => by
      have ha2 : a < l0.length := by simp at hb2; omega
      have hb3 : b < l0.length := by simpa using hb2
      simp only [decide_eq_true_eq] at h ⊢
      rcases Nat.lt_or_ge a b with hlt | hge
      · have := List.pairwise_iff_getElem.1 hs a b ha2 hb3 hlt
        have e1 : l0.toArray[a]! = l0[a] := by simp [ha2]
        have e2 : l0.toArray[b]! = l0[b] := by simp [hb3]
        rw [e1] at h
        rw [e2]
        omega
      · obtain rfl : a = b := by omega
        exact h)
  rw [Lib.countP_range l0.toArray (fun y => !decide (a1 ≤ y.f0))] at hS
  have hcnt : l0.toArray.toList.countP (fun y => !decide (a1 ≤ y.f0)) = pairs_list_find.cnt l0 a1 := by
    unfold pairs_list_find.cnt
    congr 1
    funext y
    rw [Bool.eq_iff_iff]
    simp
  rw [hcnt] at hS
  change Calls Try.prog 61 _ _ _ at hS
  have hsz : l0.toArray.size = n := by simp [hn]
  rw [hsz] at hS
  refine hS.mono ?_
  rintro e w' ⟨rfl, q, os, rfl⟩
  exact ⟨rfl, below_grown_sl W.heap.size W q os (Nat.le_refl _)⟩
theorem pairs_list_find.cnt_le (l0 : List S66) (a1 : Int) : pairs_list_find.cnt l0 a1 ≤ l0.length := List.countP_le_length
set_option maxHeartbeats 4000000 in
set_option maxRecDepth 100000 in
theorem pairs_list_find.calls (k : Nat) (A0 : Option Addr) (c0 : Nat) (l0 : List (S66)) (a1 : Int) (r1 : Int) (r2 : Int) (r3 : Bool) (w : World) (hr0 : Kd.C k66 w A0 l0.length l0) (hc0 : l0.length ≤ c0) (h : pairs_list_find.f k l0 a1 = some (r1, r2, r3)) :
    Calls Try.prog 47 #[.slice A0 l0.length c0, .int .i64 a1] w fun e w' => e = .returned (.tuple #[.agg #[.int .i64 r1, .int .i64 r2], .bool r3]) ∧ Below w.heap.size w w' := by
  have hu66 := Try.underlying66
  unfold pairs_list_find.f at h
  by_cases hg : l0.length ≤ 1000000 ∧ l0.Pairwise (fun x y => x.f0 ≤ y.f0)
  case neg => rw [if_neg hg] at h; cases h
  rw [if_pos hg] at h
  have hcl := pairs_list_find.cnt_le l0 a1
  obtain ⟨n, hn⟩ : ∃ n, l0.length = n := ⟨_, rfl⟩
  have HS := Aside0.mk (pairs_list_find.search A0 c0 l0 a1 w hr0 hg.2 hg.1 n hn.symm)
  have HR := Aside0.mk hr0
  have HN := Aside0.mk hn
  obtain ⟨m, hm⟩ : ∃ m, pairs_list_find.cnt l0 a1 = m := ⟨_, rfl⟩
  rw [hm] at HS h hcl
  have HB0 := Aside0.mk (Below.refl w.heap.size w)
  rw [hn] at hcl h ⊢
  clear hg hc0 hr0 hm hn
  -- what the last region writes
  by_cases he : m = n
  · subst he
    rw [if_pos rfl] at h
    simp only [Option.some.injEq, Prod.mk.injEq] at h
    obtain ⟨rfl, rfl, rfl⟩ := h
    clear hcl
    go_enter Try.func47, Try.ntmps47
    go_wp2_with (first | ((with_reducible refine gate_dst (N := 2) rfl ?_); refine box_event ?hg (N := 2) ?hd (cs := #[.slice A0 m c0]) (t := 63) ?hr ?_; (case hd => rfl); (case hg => rfl); (case hr => first | (go_simp; done) | (go_simp; rfl)); intro g2 hg w1 hbox hb; have BK2 := Aside0.mk hbox; have HB1 := Aside0.mk hb; clear hg hbox hb) | ((with_reducible refine gate_dst (N := 3) rfl ?_); refine box_event ?hg (N := 3) ?hd (cs := #[.int .i64 a1]) (t := 3) ?hr ?_; (case hd => rfl); (case hg => rfl); (case hr => first | (go_simp; done) | (go_simp; rfl)); intro g3 hg w2 hbox hb; have BK3 := Aside0.mk hbox; have HB2 := Aside0.mk hb; clear hg hbox hb) | ((with_reducible refine gate_dst (N := 4) rfl ?_); refine box_event ?hg (N := 4) ?hd (cs := #[.int .i64 0, .int .i64 0]) (t := 66) ?hr ?_; (case hd => rfl); (case hg => rfl); (case hr => first | (go_simp; done) | (go_simp; rfl)); intro g4 hg w3 hbox hb; have BK4 := Aside0.mk hbox; have HB3 := Aside0.mk hb; have HG4 := Aside0.mk (show w.heap.size ≤ g4 by have h1 := HB1.out.size; have h2 := HB2.out.size; omega); have hc2 := (blk_cell (blk_below (blk_below BK2.out HB2.out) HB3.out) 0).trans rfl; have hc3 := (blk_cell (blk_below BK3.out HB3.out) 0).trans rfl; clear hg hbox hb) | (go_at_call 61; (with_reducible refine (HS.out _ g2 g3 hc2 hc3 (below_step (below_step (below_step HB0.out HB1.out) HB2.out) HB3.out)).mono ?_); rintro e w5 ⟨rfl, hb5⟩; have HB5 := Aside0.mk hb5; clear hb5 hc2 hc3; have hc2 := (blk_cell (blk_below (blk_below (blk_below BK2.out HB2.out) HB3.out) HB5.out) 0).trans rfl; have hc3 := (blk_cell (blk_below (blk_below BK3.out HB3.out) HB5.out) 0).trans rfl))
    clear HS HR HN
    have BK := Aside0.mk (blk_below (blk_below BK4.out HB5.out) (Below.refl _ _))
    have HB := Aside0.mk (below_step (below_step (below_step (below_step HB0.out HB1.out) HB2.out) HB3.out) HB5.out)
    clear BK2 BK3 BK4 HB0 HB1 HB2 HB3 HB5
    go_quiet (fail)
    have hc40 := (blk_cell (blk_drewN BK.out nq) 0).trans rfl
    have hc41 := (blk_cell (blk_drewN BK.out nq) 1).trans rfl
    have hf40 := blk_frozen (blk_drewN BK.out nq) 0
    have hf41 := blk_frozen (blk_drewN BK.out nq) 1
    go_wp2
    refine bodyPost_ret (results_ct rfl _ _ g4 66 #[.int .i64 0, .int .i64 0] (0, 0) _ rfl (by refine blk_put (cs := #[.int .i64 0, .int .i64 0]) ?_ 1 _ rfl; refine blk_put (cs := #[.int .i64 0, .int .i64 0]) ?_ 0 _ rfl; exact blk_drewN BK.out nq) Try.underlying66 rfl (by kernel_rfl)) rfl ?_
    exact ⟨by first | rfl | simp, by refine below_set (below_set (pw_below_drewN HB.out nq) HG4.out) HG4.out⟩
  · rw [if_neg he] at h
    have HM := Aside0.mk (show m < n by omega)
    clear he hcl
    go_enter Try.func47, Try.ntmps47
    go_wp2_with (first | ((with_reducible refine gate_dst (N := 2) rfl ?_); refine box_event ?hg (N := 2) ?hd (cs := #[.slice A0 n c0]) (t := 63) ?hr ?_; (case hd => rfl); (case hg => rfl); (case hr => first | (go_simp; done) | (go_simp; rfl)); intro g2 hg w1 hbox hb; have BK2 := Aside0.mk hbox; have HB1 := Aside0.mk hb; clear hg hbox hb) | ((with_reducible refine gate_dst (N := 3) rfl ?_); refine box_event ?hg (N := 3) ?hd (cs := #[.int .i64 a1]) (t := 3) ?hr ?_; (case hd => rfl); (case hg => rfl); (case hr => first | (go_simp; done) | (go_simp; rfl)); intro g3 hg w2 hbox hb; have BK3 := Aside0.mk hbox; have HB2 := Aside0.mk hb; clear hg hbox hb) | ((with_reducible refine gate_dst (N := 4) rfl ?_); refine box_event ?hg (N := 4) ?hd (cs := #[.int .i64 0, .int .i64 0]) (t := 66) ?hr ?_; (case hd => rfl); (case hg => rfl); (case hr => first | (go_simp; done) | (go_simp; rfl)); intro g4 hg w3 hbox hb; have BK4 := Aside0.mk hbox; have HB3 := Aside0.mk hb; have HG4 := Aside0.mk (show w.heap.size ≤ g4 by have h1 := HB1.out.size; have h2 := HB2.out.size; omega); have hc2 := (blk_cell (blk_below (blk_below BK2.out HB2.out) HB3.out) 0).trans rfl; have hc3 := (blk_cell (blk_below BK3.out HB3.out) 0).trans rfl; clear hg hbox hb) | (go_at_call 61; (with_reducible refine (HS.out _ g2 g3 hc2 hc3 (below_step (below_step (below_step HB0.out HB1.out) HB2.out) HB3.out)).mono ?_); rintro e w5 ⟨rfl, hb5⟩; have HB5 := Aside0.mk hb5; clear hb5 hc2 hc3; have hc2 := (blk_cell (blk_below (blk_below (blk_below BK2.out HB2.out) HB3.out) HB5.out) 0).trans rfl; have hc3 := (blk_cell (blk_below (blk_below BK3.out HB3.out) HB5.out) 0).trans rfl))
    clear HS
    have BK := Aside0.mk (blk_below (blk_below BK4.out HB5.out) (Below.refl _ _))
    have HB := Aside0.mk (below_step (below_step (below_step (below_step HB0.out HB1.out) HB2.out) HB3.out) HB5.out)
    clear BK2 BK3 BK4 HB0 HB1 HB2 HB3 HB5
    have hC := Kd.C_below HR.out HB.out
    obtain ⟨ad, e, hx0, hx1⟩ := at_T66 hC (m : Int) (by omega) (by have := HN.out; have := HM.out; omega)
    subst e
    obtain ⟨y0, hy0⟩ : ∃ y, (rd_T66 l0 (m : Int)).f0 = y := ⟨_, rfl⟩
    obtain ⟨y1, hy1⟩ : ∃ y, (rd_T66 l0 (m : Int)).f1 = y := ⟨_, rfl⟩
    rw [hy0] at hx0
    rw [hy1] at hx1
    rw [Int.toNat_natCast] at hx0 hx1
    rw [hy0, hy1] at h
    have p0 : ((0 : Int) ≤ (m : Int)) = True := eq_true (by omega)
    have p1 : ((m : Int) < (n : Int)) = True := eq_true (by have := HM.out; omega)
    have p2 : (m < n) = True := eq_true HM.out
    have d1 : decide (m < n) = true := decide_eq_true HM.out
    have d2 : decide ((m : Int) < (n : Int)) = true := decide_eq_true (by have := HM.out; omega)
    have e1 : ((m : Int) == (n : Int)) = false := beq_eq_false_iff_ne.mpr (by have := HM.out; omega)
    have e2 : (m == n) = false := beq_eq_false_iff_ne.mpr (by have := HM.out; omega)
    clear hC hy0 hy1
    by_cases hq : y0 = a1
    · rw [if_pos hq] at h
      subst hq
      simp only [Option.some.injEq, Prod.mk.injEq] at h
      obtain ⟨rfl, rfl, rfl⟩ := h
      go_quiet (fail)
      have hc40 := (blk_cell (blk_drewN BK.out nq) 0).trans rfl
      have hc41 := (blk_cell (blk_drewN BK.out nq) 1).trans rfl
      have hf40 := blk_frozen (blk_drewN BK.out nq) 0
      have hf41 := blk_frozen (blk_drewN BK.out nq) 1
      go_wp2
      refine bodyPost_ret (results_ct rfl _ _ g4 66 #[.int .i64 y0, .int .i64 y1] (0, 0) _ rfl (by refine blk_put (cs := #[.int .i64 y0, .int .i64 0]) ?_ 1 _ rfl; refine blk_put (cs := #[.int .i64 0, .int .i64 0]) ?_ 0 _ rfl; exact blk_drewN BK.out nq) Try.underlying66 rfl (by kernel_rfl)) rfl ?_
      exact ⟨by first | rfl | simp, by refine below_set (below_set (pw_below_drewN HB.out nq) HG4.out) HG4.out⟩
    · rw [if_neg hq] at h
      have e3 : (y0 == a1) = false := beq_eq_false_iff_ne.mpr hq
      have e4 : (y0 != a1) = true := bne_iff_ne.mpr hq
      simp only [Option.some.injEq, Prod.mk.injEq] at h
      obtain ⟨rfl, rfl, rfl⟩ := h
      clear hq
      go_quiet (fail)
      have hc40 := (blk_cell (blk_drewN BK.out nq) 0).trans rfl
      have hc41 := (blk_cell (blk_drewN BK.out nq) 1).trans rfl
      have hf40 := blk_frozen (blk_drewN BK.out nq) 0
      have hf41 := blk_frozen (blk_drewN BK.out nq) 1
      go_wp2
      refine bodyPost_ret (results_ct rfl _ _ g4 66 #[.int .i64 0, .int .i64 0] (0, 0) _ rfl (by refine blk_put (cs := #[.int .i64 0, .int .i64 0]) ?_ 1 _ rfl; refine blk_put (cs := #[.int .i64 0, .int .i64 0]) ?_ 0 _ rfl; exact blk_drewN BK.out nq) Try.underlying66 rfl (by kernel_rfl)) rfl ?_
      exact ⟨by first | rfl | simp, by refine below_set (below_set (pw_below_drewN HB.out nq) HG4.out) HG4.out⟩

/-! ### pairs_list_back: function 48 -/
def pairs_list_back.l0 : Nat → Int → List (S66) → Int → Int → Option (Int × Int × Bool)
  | 0, _, _, _, _ => none
  | k + 1, x1, x8, x9, x10 => if x10 < x9 then (if 0 ≤ x10 then (if x10 < (x8.length : Int) then (if ((rd_T66 x8 x10).f1) = x1 then (some ((rd_T66 x8 x10).f0, (rd_T66 x8 x10).f1, true)) else (pairs_list_back.l0 k x1 x8 x9 (wrap64 (x10 + 1)))) else (none)) else (none)) else (some (0, 0, false))
def pairs_list_back.f (k : Nat) (l0 : List (S66)) (a1 : Int) : Option (Int × Int × Bool) := pairs_list_back.l0 k a1 l0 (l0.length : Int) 0
theorem pairs_list_back.mono_l : ∀ k, (∀ y0 y1 y2 y3, LeO (pairs_list_back.l0 k y0 y1 y2 y3) (pairs_list_back.l0 (k + 1) y0 y1 y2 y3))
  | 0 => fun _ _ _ _ r h => by simp [pairs_list_back.l0] at h
  | k + 1 => by
    have ih0 := pairs_list_back.mono_l k
    · intro y0 y1 y2 y3
      unfold pairs_list_back.l0
      repeat' first
      | (with_reducible exact ih0 _ _ _ _)
      | (with_reducible exact LeO.refl _)
      | (with_reducible exact LeO.none _)
      | (with_reducible refine LeO.ite ?_ ?_)
      | (with_reducible refine LeO.bind ?_ (fun _ => ?_))
      | exact ih0 _ _ _ _
      | exact LeO.none _
      | refine LeO.ite ?_ ?_
      | refine LeO.bind ?_ (fun _ => ?_)
theorem pairs_list_back.mono : ∀ a0 a1 k, LeO (pairs_list_back.f k a0 a1) (pairs_list_back.f (k + 1) a0 a1) := by
  intro a0 a1 k
  have ih0 := pairs_list_back.mono_l k
  unfold pairs_list_back.f
  repeat' first
      | (with_reducible exact ih0 _ _ _ _)
      | (with_reducible exact LeO.refl _)
      | (with_reducible exact LeO.none _)
      | (with_reducible refine LeO.ite ?_ ?_)
      | (with_reducible refine LeO.bind ?_ (fun _ => ?_))
      | exact ih0 _ _ _ _
      | exact LeO.none _
      | refine LeO.ite ?_ ?_
      | refine LeO.bind ?_ (fun _ => ?_)
set_option maxHeartbeats 8000000 in
set_option maxRecDepth 100000 in
theorem pairs_list_back.calls (k : Nat) (A0 : Option Addr) (c0 : Nat) (l0 : List (S66)) (a1 : Int) (r1 : Int) (r2 : Int) (r3 : Bool) (w : World) (hr0 : Kd.C k66 w A0 l0.length l0) (hc0 : l0.length ≤ c0) (h : pairs_list_back.f k l0 a1 = some (r1, r2, r3)) :
    Calls Try.prog 48 #[.slice A0 l0.length c0, .int .i64 a1] w fun e w' => e = .returned (.tuple #[.agg #[.int .i64 r1, .int .i64 r2], .bool r3]) ∧ Below w.heap.size w w' := by
  have hu66 := Try.underlying66
  have HR0 := Aside0.mk hr0
  have HC0 := Aside0.mk hc0
  clear hr0 hc0
  have HB := Aside0.mk (Below.refl w.heap.size w)
  have H : (pairs_list_back.l0 k a1 l0 (l0.length : Int) 0) = some (r1, r2, r3) := h
  clear h
  have H' := Aside0.mk H
  clear H
  go_enter Try.func48, Try.ntmps48
  go_wp2_with (first | ((with_reducible refine gate_dst (N := 4) rfl ?_); refine box_event ?hg (N := 4) ?hd (cs := #[.int .i64 0, .int .i64 0]) (t := 66) ?hr ?_; (case hd => rfl); (case hg => rfl); (case hr => first | (go_simp; done) | (go_simp; rfl)); intro gb112 hg w3 hbox hb; have n0_ := Aside0.mk (below_step (by repeat (first | (with_reducible first | exact HB.out | apply below_alloc | apply pw_below_drewN | apply below_drew1) | exact HB.out)) hb); have n1_ := Aside0.mk (hbox); have n2_ := Aside0.mk ((by rw [hg]; exact (below_size (by repeat (first | (with_reducible first | exact HB.out | apply below_alloc | apply pw_below_drewN | apply below_drew1) | exact HB.out))) : w.heap.size ≤ gb112)); have n3_ := Aside0.mk ((by rw [hg]; exact (below_size (by repeat (first | (with_reducible first | exact HB.out | apply below_alloc | apply pw_below_drewN | apply below_drew1) | exact HB.out))) : w.heap.size ≤ gb112)); clear HB; have HB := n0_; have BK112 := n1_; have GW112 := n2_; have GE112 := n3_; clear n0_ n1_ n2_ n3_; clear hb hbox hg))
  go_loopg [10] k (fun kq v10 w' => ∃ (x10_1 : Int) (x113000_1 : Int) (x113001_1 : Int), v10 = .int .i64 x10_1 ∧ Aside0 (pairs_list_back.l0 kq a1 l0 (l0.length : Int) x10_1 = some (r1, r2, r3)) ∧ Aside0 (kq ≤ k) ∧ Aside0 (w'.heap[gb112]? = some (.cells #[.int .i64 x113000_1, .int .i64 x113001_1] 66 (0, 0))) ∧ Aside0 (Below w.heap.size w w'))
  case atStart => exact ⟨(0), (0), (0), (by first | rfl | (simp; done) | (simp [*]; done)), H', ⟨Nat.le_refl _⟩, ⟨by (with_reducible repeat (first | refine blk_drewN ?_ _ | refine blk_drew ?_ | refine blk_alloc ?_ _)); exact BK112.out⟩, ⟨by repeat (first | (with_reducible first | exact HB.out | apply below_alloc | apply pw_below_drewN | apply below_drew1 | refine below_set ?_ GE112.out) | exact HB.out)⟩⟩
  case round =>
    clear H'
    try clear p2
    obtain ⟨x10_1, x113000_1, x113001_1, rfl, HA, HK1, BK112, HB⟩ := hrel
    cases gk with
    | zero => exact absurd HA.out (by simp [pairs_list_back.l0])
    | succ k1 =>
      have H := HA.out
      clear HA
      simp only [pairs_list_back.l0] at H
      by_cases c4 : x10_1 < (l0.length : Int)
      · rw [if_pos c4] at H
        have c4b0 : decide (x10_1 < (l0.length : Int)) = true := decide_eq_true c4
        clear c4
        by_cases c5 : 0 ≤ x10_1
        · rw [if_pos c5] at H
          have c5b0 : decide (0 ≤ x10_1) = true := decide_eq_true c5
          clear c5
          by_cases c6 : x10_1 < (l0.length : Int)
          · rw [if_pos c6] at H
            have c6b0 : decide (x10_1 < (l0.length : Int)) = true := decide_eq_true c6
            clear c6
            by_cases c7 : ((rd_T66 l0 x10_1).f1) = a1
            · rw [if_pos c7] at H
              have c7b0 : (((rd_T66 l0 x10_1).f1) == a1) = true := beq_iff_eq.mpr c7
              have c7b1 : (((rd_T66 l0 x10_1).f1) != a1) = false := bne_eq_false_iff_eq.mpr c7
              clear c7
              simp only [Option.some.injEq, Prod.mk.injEq] at H
              obtain ⟨rfl, rfl, rfl⟩ := H
              have p113 : 0 ≤ (x10_1 : Int) := of_decide_eq_true (by first | (with_reducible assumption) | assumption)
              have q113 : x10_1 < (l0.length : Int) := of_decide_eq_true (by first | (with_reducible assumption) | assumption)
              obtain ⟨ad113, e113, hx113_0, hx113_1⟩ := at_T66 HR0.out x10_1 p113 q113
              cases e113
              replace hx113_0 := (HB.out.cell (World.block_lt_of_cell? w _ hx113_0)).trans hx113_0
              replace hx113_1 := (HB.out.cell (World.block_lt_of_cell? w _ hx113_1)).trans hx113_1
              replace p113 := eq_true p113
              replace q113 := eq_true q113
              go_wp2_with (first | ((with_reducible refine gate_dst (N := 7) rfl ?_); refine box_event ?hg (N := 7) ?hd (cs := #[.int .i64 0, .int .i64 0]) (t := 66) ?hr ?_; (case hd => rfl); (case hg => rfl); (case hr => first | (go_simp; done) | (go_simp; rfl)); intro gb114 hg w8 hbox hb; have n0_ := Aside0.mk (blk_below (g := gb112) (o := .cells #[.int .i64 x113000_1, .int .i64 x113001_1] 66 (0, 0)) (by (with_reducible repeat (first | refine blk_drewN ?_ _ | refine blk_drew ?_ | refine blk_alloc ?_ _)); exact BK112.out) hb); have n1_ := Aside0.mk (below_step (by repeat (first | (with_reducible first | exact HB.out | apply below_alloc | apply pw_below_drewN | apply below_drew1 | refine below_set ?_ GE112.out) | exact HB.out)) hb); have n2_ := Aside0.mk (hbox); have n3_ := Aside0.mk ((by rw [hg]; exact (below_size (by repeat (first | (with_reducible first | exact HB.out | apply below_alloc | apply pw_below_drewN | apply below_drew1 | refine below_set ?_ GE112.out) | exact HB.out))) : w.heap.size ≤ gb114)); have n4_ := Aside0.mk ((by rw [hg]; exact (below_size (by repeat (first | (with_reducible first | exact HB.out | apply below_alloc | apply pw_below_drewN | apply below_drew1 | refine below_set ?_ GE112.out) | exact HB.out))) : w.heap.size ≤ gb114)); have n5_ := Aside0.mk ((by rw [hg]; exact Nat.ne_of_lt (blk_lt (g := gb112) (o := .cells #[.int .i64 x113000_1, .int .i64 x113001_1] 66 (0, 0)) (by (with_reducible repeat (first | refine blk_drewN ?_ _ | refine blk_drew ?_ | refine blk_alloc ?_ _)); exact BK112.out)) : gb112 ≠ gb114)); have n6_ := Aside0.mk ((by rw [hg]; exact Nat.ne_of_gt (blk_lt (g := gb112) (o := .cells #[.int .i64 x113000_1, .int .i64 x113001_1] 66 (0, 0)) (by (with_reducible repeat (first | refine blk_drewN ?_ _ | refine blk_drew ?_ | refine blk_alloc ?_ _)); exact BK112.out)) : gb114 ≠ gb112)); clear BK112; clear HB; have BK112 := n0_; have HB := n1_; have BK114 := n2_; have GW114 := n3_; have GE114 := n4_; have NB112_114 := n5_; have NB114_112 := n6_; clear n0_ n1_ n2_ n3_ n4_ n5_ n6_; clear hb hbox hg; have hnb9 := NB114_112.out; have hnc9 := NB112_114.out; have hcz10_0 : w8.cell? ⟨gb114, 0, none⟩ = some (.int .i64 0) := (blk_cell BK114.out 0).trans rfl; have hcz10_1 : w8.cell? ⟨gb114, 1, none⟩ = some (.int .i64 0) := (blk_cell BK114.out 1).trans rfl; have hfz10_0 := blk_frozen BK114.out 0; have hfz10_1 := blk_frozen BK114.out 1; have hcz11_0 : w8.cell? ⟨gb112, 0, none⟩ = some (.int .i64 x113000_1) := (blk_cell BK112.out 0).trans rfl; have hcz11_1 : w8.cell? ⟨gb112, 1, none⟩ = some (.int .i64 x113001_1) := (blk_cell BK112.out 1).trans rfl; have hfz11_0 := blk_frozen BK112.out 0; have hfz11_1 := blk_frozen BK112.out 1))
              refine bodyPost_ret (results_ct rfl _ _ gb112 66 #[.int .i64 ((rd_T66 l0 x10_1).f0), .int .i64 ((rd_T66 l0 x10_1).f1)] (0, 0) _ rfl (by (with_reducible repeat (first | refine blk_drewN ?_ _ | refine blk_drew ?_ | refine blk_alloc ?_ _)); refine blk_put (cs := #[.int .i64 ((rd_T66 l0 x10_1).f0), .int .i64 x113001_1]) ?_ 1 _ rfl; (with_reducible repeat (first | refine blk_drewN ?_ _ | refine blk_drew ?_ | refine blk_alloc ?_ _)); refine blk_put (cs := #[.int .i64 x113000_1, .int .i64 x113001_1]) ?_ 0 _ rfl; (with_reducible repeat (first | refine blk_drewN ?_ _ | refine blk_drew ?_ | refine blk_alloc ?_ _)); refine blk_far ?_ NB112_114.out _; (with_reducible repeat (first | refine blk_drewN ?_ _ | refine blk_drew ?_ | refine blk_alloc ?_ _)); refine blk_far ?_ NB112_114.out _; (with_reducible repeat (first | refine blk_drewN ?_ _ | refine blk_drew ?_ | refine blk_alloc ?_ _)); exact BK112.out) Try.underlying66 rfl (by kernel_rfl)) rfl ?_
              exact ⟨by first | rfl | (simp [errW_none, errW_some] <;> rfl) | (simp [*, errW_none, errW_some] <;> rfl), by repeat (first | (with_reducible first | exact HB.out | apply below_alloc | apply pw_below_drewN | apply below_drew1 | refine below_set ?_ GE112.out | refine below_set ?_ GE114.out) | exact HB.out)⟩
            · rw [if_neg c7] at H
              have c7b0 : (((rd_T66 l0 x10_1).f1) == a1) = false := beq_eq_false_iff_ne.mpr c7
              have c7b1 : (((rd_T66 l0 x10_1).f1) != a1) = true := bne_iff_ne.mpr c7
              have H' := Aside0.mk H
              clear H
              have p113 : 0 ≤ (x10_1 : Int) := of_decide_eq_true (by first | (with_reducible assumption) | assumption)
              have q113 : x10_1 < (l0.length : Int) := of_decide_eq_true (by first | (with_reducible assumption) | assumption)
              obtain ⟨ad113, e113, hx113_0, hx113_1⟩ := at_T66 HR0.out x10_1 p113 q113
              cases e113
              replace hx113_0 := (HB.out.cell (World.block_lt_of_cell? w _ hx113_0)).trans hx113_0
              replace hx113_1 := (HB.out.cell (World.block_lt_of_cell? w _ hx113_1)).trans hx113_1
              replace p113 := eq_true p113
              replace q113 := eq_true q113
              go_wp2_with (first | ((with_reducible refine gate_dst (N := 7) rfl ?_); refine box_event ?hg (N := 7) ?hd (cs := #[.int .i64 0, .int .i64 0]) (t := 66) ?hr ?_; (case hd => rfl); (case hg => rfl); (case hr => first | (go_simp; done) | (go_simp; rfl)); intro gb114 hg w12 hbox hb; have n0_ := Aside0.mk (blk_below (g := gb112) (o := .cells #[.int .i64 x113000_1, .int .i64 x113001_1] 66 (0, 0)) (by (with_reducible repeat (first | refine blk_drewN ?_ _ | refine blk_drew ?_ | refine blk_alloc ?_ _)); exact BK112.out) hb); have n1_ := Aside0.mk (below_step (by repeat (first | (with_reducible first | exact HB.out | apply below_alloc | apply pw_below_drewN | apply below_drew1 | refine below_set ?_ GE112.out) | exact HB.out)) hb); have n2_ := Aside0.mk (hbox); have n3_ := Aside0.mk ((by rw [hg]; exact (below_size (by repeat (first | (with_reducible first | exact HB.out | apply below_alloc | apply pw_below_drewN | apply below_drew1 | refine below_set ?_ GE112.out) | exact HB.out))) : w.heap.size ≤ gb114)); have n4_ := Aside0.mk ((by rw [hg]; exact (below_size (by repeat (first | (with_reducible first | exact HB.out | apply below_alloc | apply pw_below_drewN | apply below_drew1 | refine below_set ?_ GE112.out) | exact HB.out))) : w.heap.size ≤ gb114)); have n5_ := Aside0.mk ((by rw [hg]; exact Nat.ne_of_lt (blk_lt (g := gb112) (o := .cells #[.int .i64 x113000_1, .int .i64 x113001_1] 66 (0, 0)) (by (with_reducible repeat (first | refine blk_drewN ?_ _ | refine blk_drew ?_ | refine blk_alloc ?_ _)); exact BK112.out)) : gb112 ≠ gb114)); have n6_ := Aside0.mk ((by rw [hg]; exact Nat.ne_of_gt (blk_lt (g := gb112) (o := .cells #[.int .i64 x113000_1, .int .i64 x113001_1] 66 (0, 0)) (by (with_reducible repeat (first | refine blk_drewN ?_ _ | refine blk_drew ?_ | refine blk_alloc ?_ _)); exact BK112.out)) : gb114 ≠ gb112)); clear BK112; clear HB; have BK112 := n0_; have HB := n1_; have BK114 := n2_; have GW114 := n3_; have GE114 := n4_; have NB112_114 := n5_; have NB114_112 := n6_; clear n0_ n1_ n2_ n3_ n4_ n5_ n6_; clear hb hbox hg; have hnb13 := NB114_112.out; have hnc13 := NB112_114.out; have hcz14_0 : w12.cell? ⟨gb114, 0, none⟩ = some (.int .i64 0) := (blk_cell BK114.out 0).trans rfl; have hcz14_1 : w12.cell? ⟨gb114, 1, none⟩ = some (.int .i64 0) := (blk_cell BK114.out 1).trans rfl; have hfz14_0 := blk_frozen BK114.out 0; have hfz14_1 := blk_frozen BK114.out 1))
              go_roundg k1
              case measure => have := HK1.out; omega
              case rel => exact ⟨(wrap64 (x10_1 + 1)), (x113000_1), (x113001_1), (by first | rfl | (simp; done) | (simp [*]; done)), H', ⟨by have := HK1.out; omega⟩, ⟨by (with_reducible repeat (first | refine blk_drewN ?_ _ | refine blk_drew ?_ | refine blk_alloc ?_ _)); refine blk_far ?_ NB112_114.out _; (with_reducible repeat (first | refine blk_drewN ?_ _ | refine blk_drew ?_ | refine blk_alloc ?_ _)); refine blk_far ?_ NB112_114.out _; (with_reducible repeat (first | refine blk_drewN ?_ _ | refine blk_drew ?_ | refine blk_alloc ?_ _)); exact BK112.out⟩, ⟨by repeat (first | (with_reducible first | exact HB.out | apply below_alloc | apply pw_below_drewN | apply below_drew1 | refine below_set ?_ GE112.out | refine below_set ?_ GE114.out) | exact HB.out)⟩⟩
          · rw [if_neg c6] at H
            exact absurd H (by simp)
        · rw [if_neg c5] at H
          exact absurd H (by simp)
      · rw [if_neg c4] at H
        have c4b0 : decide (x10_1 < (l0.length : Int)) = false := decide_eq_false c4
        clear c4
        simp only [Option.some.injEq, Prod.mk.injEq] at H
        obtain ⟨rfl, rfl, rfl⟩ := H
        have hcz15_0 : wr.cell? ⟨gb112, 0, none⟩ = some (.int .i64 x113000_1) := (blk_cell BK112.out 0).trans rfl
        have hcz15_1 : wr.cell? ⟨gb112, 1, none⟩ = some (.int .i64 x113001_1) := (blk_cell BK112.out 1).trans rfl
        have hfz15_0 := blk_frozen BK112.out 0
        have hfz15_1 := blk_frozen BK112.out 1
        go_wp2
        refine bodyPost_ret (results_ct rfl _ _ gb112 66 #[.int .i64 0, .int .i64 0] (0, 0) _ rfl (by (with_reducible repeat (first | refine blk_drewN ?_ _ | refine blk_drew ?_ | refine blk_alloc ?_ _)); refine blk_put (cs := #[.int .i64 0, .int .i64 x113001_1]) ?_ 1 _ rfl; (with_reducible repeat (first | refine blk_drewN ?_ _ | refine blk_drew ?_ | refine blk_alloc ?_ _)); refine blk_put (cs := #[.int .i64 x113000_1, .int .i64 x113001_1]) ?_ 0 _ rfl; (with_reducible repeat (first | refine blk_drewN ?_ _ | refine blk_drew ?_ | refine blk_alloc ?_ _)); exact BK112.out) Try.underlying66 rfl (by kernel_rfl)) rfl ?_
        exact ⟨by first | rfl | (simp [errW_none, errW_some] <;> rfl) | (simp [*, errW_none, errW_some] <;> rfl), by repeat (first | (with_reducible first | exact HB.out | apply below_alloc | apply pw_below_drewN | apply below_drew1 | refine below_set ?_ GE112.out) | exact HB.out)⟩

/-! ### api_Mirrors: function 49 -/
def api_Mirrors.f  : Option ((List (S66))) := some (([(⟨40, 41⟩ : S66), (⟨60, 62⟩ : S66), (⟨91, 93⟩ : S66), (⟨123, 125⟩ : S66), (⟨171, 187⟩ : S66), (⟨3898, 3899⟩ : S66), (⟨8249, 8250⟩ : S66), (⟨8261, 8262⟩ : S66), (⟨8317, 8318⟩ : S66), (⟨8333, 8334⟩ : S66), (⟨8712, 8715⟩ : S66), (⟨8804, 8805⟩ : S66), (⟨8810, 8811⟩ : S66), (⟨9001, 9002⟩ : S66), (⟨10088, 10089⟩ : S66), (⟨10090, 10091⟩ : S66), (⟨10092, 10093⟩ : S66), (⟨10094, 10095⟩ : S66), (⟨10096, 10097⟩ : S66), (⟨10098, 10099⟩ : S66), (⟨10100, 10101⟩ : S66), (⟨10214, 10215⟩ : S66), (⟨10216, 10217⟩ : S66), (⟨10218, 10219⟩ : S66), (⟨10220, 10221⟩ : S66), (⟨10222, 10223⟩ : S66), (⟨10627, 10628⟩ : S66), (⟨10629, 10630⟩ : S66), (⟨10631, 10632⟩ : S66), (⟨10633, 10634⟩ : S66), (⟨10635, 10636⟩ : S66), (⟨10641, 10642⟩ : S66), (⟨12296, 12297⟩ : S66), (⟨12298, 12299⟩ : S66), (⟨12300, 12301⟩ : S66), (⟨12302, 12303⟩ : S66), (⟨12304, 12305⟩ : S66), (⟨12308, 12309⟩ : S66), (⟨12310, 12311⟩ : S66), (⟨12312, 12313⟩ : S66), (⟨12314, 12315⟩ : S66), (⟨65113, 65114⟩ : S66), (⟨65115, 65116⟩ : S66), (⟨65117, 65118⟩ : S66), (⟨65124, 65125⟩ : S66), (⟨65288, 65289⟩ : S66), (⟨65308, 65310⟩ : S66), (⟨65339, 65341⟩ : S66), (⟨65371, 65373⟩ : S66), (⟨65375, 65376⟩ : S66), (⟨65378, 65379⟩ : S66)] : List (S66)))
set_option maxHeartbeats 8000000 in
set_option maxRecDepth 100000 in
theorem api_Mirrors.calls  (r : List (S66)) (w : World) (h : api_Mirrors.f  = some r) :
    Calls Try.prog 49 #[] w fun e w' => ∃ v0_ : Value, e = .returned (v0_) ∧ Kd.R k66 66 w' w.heap.size (fun _ => True) v0_ r ∧ Below w.heap.size w w' := by
  have hu66 := Try.underlying66
  have HB := Aside0.mk (Below.refl w.heap.size w)
  have H : (some (([(⟨40, 41⟩ : S66), (⟨60, 62⟩ : S66), (⟨91, 93⟩ : S66), (⟨123, 125⟩ : S66), (⟨171, 187⟩ : S66), (⟨3898, 3899⟩ : S66), (⟨8249, 8250⟩ : S66), (⟨8261, 8262⟩ : S66), (⟨8317, 8318⟩ : S66), (⟨8333, 8334⟩ : S66), (⟨8712, 8715⟩ : S66), (⟨8804, 8805⟩ : S66), (⟨8810, 8811⟩ : S66), (⟨9001, 9002⟩ : S66), (⟨10088, 10089⟩ : S66), (⟨10090, 10091⟩ : S66), (⟨10092, 10093⟩ : S66), (⟨10094, 10095⟩ : S66), (⟨10096, 10097⟩ : S66), (⟨10098, 10099⟩ : S66), (⟨10100, 10101⟩ : S66), (⟨10214, 10215⟩ : S66), (⟨10216, 10217⟩ : S66), (⟨10218, 10219⟩ : S66), (⟨10220, 10221⟩ : S66), (⟨10222, 10223⟩ : S66), (⟨10627, 10628⟩ : S66), (⟨10629, 10630⟩ : S66), (⟨10631, 10632⟩ : S66), (⟨10633, 10634⟩ : S66), (⟨10635, 10636⟩ : S66), (⟨10641, 10642⟩ : S66), (⟨12296, 12297⟩ : S66), (⟨12298, 12299⟩ : S66), (⟨12300, 12301⟩ : S66), (⟨12302, 12303⟩ : S66), (⟨12304, 12305⟩ : S66), (⟨12308, 12309⟩ : S66), (⟨12310, 12311⟩ : S66), (⟨12312, 12313⟩ : S66), (⟨12314, 12315⟩ : S66), (⟨65113, 65114⟩ : S66), (⟨65115, 65116⟩ : S66), (⟨65117, 65118⟩ : S66), (⟨65124, 65125⟩ : S66), (⟨65288, 65289⟩ : S66), (⟨65308, 65310⟩ : S66), (⟨65339, 65341⟩ : S66), (⟨65371, 65373⟩ : S66), (⟨65375, 65376⟩ : S66), (⟨65378, 65379⟩ : S66)] : List (S66)))) = some r := h
  clear h
  obtain ⟨y115, hy115⟩ : ∃ y_ : List (S66), y_ = (([(⟨40, 41⟩ : S66), (⟨60, 62⟩ : S66), (⟨91, 93⟩ : S66), (⟨123, 125⟩ : S66), (⟨171, 187⟩ : S66), (⟨3898, 3899⟩ : S66), (⟨8249, 8250⟩ : S66), (⟨8261, 8262⟩ : S66), (⟨8317, 8318⟩ : S66), (⟨8333, 8334⟩ : S66), (⟨8712, 8715⟩ : S66), (⟨8804, 8805⟩ : S66), (⟨8810, 8811⟩ : S66), (⟨9001, 9002⟩ : S66), (⟨10088, 10089⟩ : S66), (⟨10090, 10091⟩ : S66), (⟨10092, 10093⟩ : S66), (⟨10094, 10095⟩ : S66), (⟨10096, 10097⟩ : S66), (⟨10098, 10099⟩ : S66), (⟨10100, 10101⟩ : S66), (⟨10214, 10215⟩ : S66), (⟨10216, 10217⟩ : S66), (⟨10218, 10219⟩ : S66), (⟨10220, 10221⟩ : S66), (⟨10222, 10223⟩ : S66), (⟨10627, 10628⟩ : S66), (⟨10629, 10630⟩ : S66), (⟨10631, 10632⟩ : S66), (⟨10633, 10634⟩ : S66), (⟨10635, 10636⟩ : S66), (⟨10641, 10642⟩ : S66), (⟨12296, 12297⟩ : S66), (⟨12298, 12299⟩ : S66), (⟨12300, 12301⟩ : S66), (⟨12302, 12303⟩ : S66), (⟨12304, 12305⟩ : S66), (⟨12308, 12309⟩ : S66), (⟨12310, 12311⟩ : S66), (⟨12312, 12313⟩ : S66), (⟨12314, 12315⟩ : S66), (⟨65113, 65114⟩ : S66), (⟨65115, 65116⟩ : S66), (⟨65117, 65118⟩ : S66), (⟨65124, 65125⟩ : S66), (⟨65288, 65289⟩ : S66), (⟨65308, 65310⟩ : S66), (⟨65339, 65341⟩ : S66), (⟨65371, 65373⟩ : S66), (⟨65375, 65376⟩ : S66), (⟨65378, 65379⟩ : S66)] : List (S66))) := ⟨_, rfl⟩
  replace H : (some y115) = some r := by first | (rw [hy115]; with_reducible exact H) | (have H2_ := (Option.bind_some _ _).symm.trans H; rw [hy115]; with_reducible exact H2_) | (have H2_ := (Option.bind_some _ _).symm.trans H; with_reducible exact H2_) | with_reducible exact H | (rw [hy115]; exact H) | exact H
  have Ny115 := Aside0.mk hy115
  clear hy115
  obtain rfl := Option.some.inj H
  go_enter Try.func49, Try.ntmps49
  go_wp2_with (first | ((with_reducible refine gate_dst (N := 52) rfl ?_); refine Kd.R_lit k66 _ 66 ?hg (N := 52) ?hd (xs := ([(⟨40, 41⟩ : S66), (⟨60, 62⟩ : S66), (⟨91, 93⟩ : S66), (⟨123, 125⟩ : S66), (⟨171, 187⟩ : S66), (⟨3898, 3899⟩ : S66), (⟨8249, 8250⟩ : S66), (⟨8261, 8262⟩ : S66), (⟨8317, 8318⟩ : S66), (⟨8333, 8334⟩ : S66), (⟨8712, 8715⟩ : S66), (⟨8804, 8805⟩ : S66), (⟨8810, 8811⟩ : S66), (⟨9001, 9002⟩ : S66), (⟨10088, 10089⟩ : S66), (⟨10090, 10091⟩ : S66), (⟨10092, 10093⟩ : S66), (⟨10094, 10095⟩ : S66), (⟨10096, 10097⟩ : S66), (⟨10098, 10099⟩ : S66), (⟨10100, 10101⟩ : S66), (⟨10214, 10215⟩ : S66), (⟨10216, 10217⟩ : S66), (⟨10218, 10219⟩ : S66), (⟨10220, 10221⟩ : S66), (⟨10222, 10223⟩ : S66), (⟨10627, 10628⟩ : S66), (⟨10629, 10630⟩ : S66), (⟨10631, 10632⟩ : S66), (⟨10633, 10634⟩ : S66), (⟨10635, 10636⟩ : S66), (⟨10641, 10642⟩ : S66), (⟨12296, 12297⟩ : S66), (⟨12298, 12299⟩ : S66), (⟨12300, 12301⟩ : S66), (⟨12302, 12303⟩ : S66), (⟨12304, 12305⟩ : S66), (⟨12308, 12309⟩ : S66), (⟨12310, 12311⟩ : S66), (⟨12312, 12313⟩ : S66), (⟨12314, 12315⟩ : S66), (⟨65113, 65114⟩ : S66), (⟨65115, 65116⟩ : S66), (⟨65117, 65118⟩ : S66), (⟨65124, 65125⟩ : S66), (⟨65288, 65289⟩ : S66), (⟨65308, 65310⟩ : S66), (⟨65339, 65341⟩ : S66), (⟨65371, 65373⟩ : S66), (⟨65375, 65376⟩ : S66), (⟨65378, 65379⟩ : S66)] : List (S66))) (inner := [.int .i64 40, .int .i64 41, .int .i64 60, .int .i64 62, .int .i64 91, .int .i64 93, .int .i64 123, .int .i64 125, .int .i64 171, .int .i64 187, .int .i64 3898, .int .i64 3899, .int .i64 8249, .int .i64 8250, .int .i64 8261, .int .i64 8262, .int .i64 8317, .int .i64 8318, .int .i64 8333, .int .i64 8334, .int .i64 8712, .int .i64 8715, .int .i64 8804, .int .i64 8805, .int .i64 8810, .int .i64 8811, .int .i64 9001, .int .i64 9002, .int .i64 10088, .int .i64 10089, .int .i64 10090, .int .i64 10091, .int .i64 10092, .int .i64 10093, .int .i64 10094, .int .i64 10095, .int .i64 10096, .int .i64 10097, .int .i64 10098, .int .i64 10099, .int .i64 10100, .int .i64 10101, .int .i64 10214, .int .i64 10215, .int .i64 10216, .int .i64 10217, .int .i64 10218, .int .i64 10219, .int .i64 10220, .int .i64 10221, .int .i64 10222, .int .i64 10223, .int .i64 10627, .int .i64 10628, .int .i64 10629, .int .i64 10630, .int .i64 10631, .int .i64 10632, .int .i64 10633, .int .i64 10634, .int .i64 10635, .int .i64 10636, .int .i64 10641, .int .i64 10642, .int .i64 12296, .int .i64 12297, .int .i64 12298, .int .i64 12299, .int .i64 12300, .int .i64 12301, .int .i64 12302, .int .i64 12303, .int .i64 12304, .int .i64 12305, .int .i64 12308, .int .i64 12309, .int .i64 12310, .int .i64 12311, .int .i64 12312, .int .i64 12313, .int .i64 12314, .int .i64 12315, .int .i64 65113, .int .i64 65114, .int .i64 65115, .int .i64 65116, .int .i64 65117, .int .i64 65118, .int .i64 65124, .int .i64 65125, .int .i64 65288, .int .i64 65289, .int .i64 65308, .int .i64 65310, .int .i64 65339, .int .i64 65341, .int .i64 65371, .int .i64 65373, .int .i64 65375, .int .i64 65376, .int .i64 65378, .int .i64 65379]) (ok := fun _ => True) (okp := fun _ => True) ?hr ?hp (fun _ hk => hk) trivial (Below.refl _ _) (Nat.le_refl _) (by simp) ?_; (case hd => rfl); (case hg => rfl); (case hr => first | (go_simp; done) | (go_simp; rfl)); (case hp => exact (Reps.c2 (show Kd.M k66 _ _ _ (⟨40, 41⟩ : S66) [.int .i64 40, .int .i64 41] from (k66_mkM _ _ _ (⟨40, 41⟩ : S66) )) (Reps.c2 (show Kd.M k66 _ _ _ (⟨60, 62⟩ : S66) [.int .i64 60, .int .i64 62] from (k66_mkM _ _ _ (⟨60, 62⟩ : S66) )) (Reps.c2 (show Kd.M k66 _ _ _ (⟨91, 93⟩ : S66) [.int .i64 91, .int .i64 93] from (k66_mkM _ _ _ (⟨91, 93⟩ : S66) )) (Reps.c2 (show Kd.M k66 _ _ _ (⟨123, 125⟩ : S66) [.int .i64 123, .int .i64 125] from (k66_mkM _ _ _ (⟨123, 125⟩ : S66) )) (Reps.c2 (show Kd.M k66 _ _ _ (⟨171, 187⟩ : S66) [.int .i64 171, .int .i64 187] from (k66_mkM _ _ _ (⟨171, 187⟩ : S66) )) (Reps.c2 (show Kd.M k66 _ _ _ (⟨3898, 3899⟩ : S66) [.int .i64 3898, .int .i64 3899] from (k66_mkM _ _ _ (⟨3898, 3899⟩ : S66) )) (Reps.c2 (show Kd.M k66 _ _ _ (⟨8249, 8250⟩ : S66) [.int .i64 8249, .int .i64 8250] from (k66_mkM _ _ _ (⟨8249, 8250⟩ : S66) )) (Reps.c2 (show Kd.M k66 _ _ _ (⟨8261, 8262⟩ : S66) [.int .i64 8261, .int .i64 8262] from (k66_mkM _ _ _ (⟨8261, 8262⟩ : S66) )) (Reps.c2 (show Kd.M k66 _ _ _ (⟨8317, 8318⟩ : S66) [.int .i64 8317, .int .i64 8318] from (k66_mkM _ _ _ (⟨8317, 8318⟩ : S66) )) (Reps.c2 (show Kd.M k66 _ _ _ (⟨8333, 8334⟩ : S66) [.int .i64 8333, .int .i64 8334] from (k66_mkM _ _ _ (⟨8333, 8334⟩ : S66) )) (Reps.c2 (show Kd.M k66 _ _ _ (⟨8712, 8715⟩ : S66) [.int .i64 8712, .int .i64 8715] from (k66_mkM _ _ _ (⟨8712, 8715⟩ : S66) )) (Reps.c2 (show Kd.M k66 _ _ _ (⟨8804, 8805⟩ : S66) [.int .i64 8804, .int .i64 8805] from (k66_mkM _ _ _ (⟨8804, 8805⟩ : S66) )) (Reps.c2 (show Kd.M k66 _ _ _ (⟨8810, 8811⟩ : S66) [.int .i64 8810, .int .i64 8811] from (k66_mkM _ _ _ (⟨8810, 8811⟩ : S66) )) (Reps.c2 (show Kd.M k66 _ _ _ (⟨9001, 9002⟩ : S66) [.int .i64 9001, .int .i64 9002] from (k66_mkM _ _ _ (⟨9001, 9002⟩ : S66) )) (Reps.c2 (show Kd.M k66 _ _ _ (⟨10088, 10089⟩ : S66) [.int .i64 10088, .int .i64 10089] from (k66_mkM _ _ _ (⟨10088, 10089⟩ : S66) )) (Reps.c2 (show Kd.M k66 _ _ _ (⟨10090, 10091⟩ : S66) [.int .i64 10090, .int .i64 10091] from (k66_mkM _ _ _ (⟨10090, 10091⟩ : S66) )) (Reps.c2 (show Kd.M k66 _ _ _ (⟨10092, 10093⟩ : S66) [.int .i64 10092, .int .i64 10093] from (k66_mkM _ _ _ (⟨10092, 10093⟩ : S66) )) (Reps.c2 (show Kd.M k66 _ _ _ (⟨10094, 10095⟩ : S66) [.int .i64 10094, .int .i64 10095] from (k66_mkM _ _ _ (⟨10094, 10095⟩ : S66) )) (Reps.c2 (show Kd.M k66 _ _ _ (⟨10096, 10097⟩ : S66) [.int .i64 10096, .int .i64 10097] from (k66_mkM _ _ _ (⟨10096, 10097⟩ : S66) )) (Reps.c2 (show Kd.M k66 _ _ _ (⟨10098, 10099⟩ : S66) [.int .i64 10098, .int .i64 10099] from (k66_mkM _ _ _ (⟨10098, 10099⟩ : S66) )) (Reps.c2 (show Kd.M k66 _ _ _ (⟨10100, 10101⟩ : S66) [.int .i64 10100, .int .i64 10101] from (k66_mkM _ _ _ (⟨10100, 10101⟩ : S66) )) (Reps.c2 (show Kd.M k66 _ _ _ (⟨10214, 10215⟩ : S66) [.int .i64 10214, .int .i64 10215] from (k66_mkM _ _ _ (⟨10214, 10215⟩ : S66) )) (Reps.c2 (show Kd.M k66 _ _ _ (⟨10216, 10217⟩ : S66) [.int .i64 10216, .int .i64 10217] from (k66_mkM _ _ _ (⟨10216, 10217⟩ : S66) )) (Reps.c2 (show Kd.M k66 _ _ _ (⟨10218, 10219⟩ : S66) [.int .i64 10218, .int .i64 10219] from (k66_mkM _ _ _ (⟨10218, 10219⟩ : S66) )) (Reps.c2 (show Kd.M k66 _ _ _ (⟨10220, 10221⟩ : S66) [.int .i64 10220, .int .i64 10221] from (k66_mkM _ _ _ (⟨10220, 10221⟩ : S66) )) (Reps.c2 (show Kd.M k66 _ _ _ (⟨10222, 10223⟩ : S66) [.int .i64 10222, .int .i64 10223] from (k66_mkM _ _ _ (⟨10222, 10223⟩ : S66) )) (Reps.c2 (show Kd.M k66 _ _ _ (⟨10627, 10628⟩ : S66) [.int .i64 10627, .int .i64 10628] from (k66_mkM _ _ _ (⟨10627, 10628⟩ : S66) )) (Reps.c2 (show Kd.M k66 _ _ _ (⟨10629, 10630⟩ : S66) [.int .i64 10629, .int .i64 10630] from (k66_mkM _ _ _ (⟨10629, 10630⟩ : S66) )) (Reps.c2 (show Kd.M k66 _ _ _ (⟨10631, 10632⟩ : S66) [.int .i64 10631, .int .i64 10632] from (k66_mkM _ _ _ (⟨10631, 10632⟩ : S66) )) (Reps.c2 (show Kd.M k66 _ _ _ (⟨10633, 10634⟩ : S66) [.int .i64 10633, .int .i64 10634] from (k66_mkM _ _ _ (⟨10633, 10634⟩ : S66) )) (Reps.c2 (show Kd.M k66 _ _ _ (⟨10635, 10636⟩ : S66) [.int .i64 10635, .int .i64 10636] from (k66_mkM _ _ _ (⟨10635, 10636⟩ : S66) )) (Reps.c2 (show Kd.M k66 _ _ _ (⟨10641, 10642⟩ : S66) [.int .i64 10641, .int .i64 10642] from (k66_mkM _ _ _ (⟨10641, 10642⟩ : S66) )) (Reps.c2 (show Kd.M k66 _ _ _ (⟨12296, 12297⟩ : S66) [.int .i64 12296, .int .i64 12297] from (k66_mkM _ _ _ (⟨12296, 12297⟩ : S66) )) (Reps.c2 (show Kd.M k66 _ _ _ (⟨12298, 12299⟩ : S66) [.int .i64 12298, .int .i64 12299] from (k66_mkM _ _ _ (⟨12298, 12299⟩ : S66) )) (Reps.c2 (show Kd.M k66 _ _ _ (⟨12300, 12301⟩ : S66) [.int .i64 12300, .int .i64 12301] from (k66_mkM _ _ _ (⟨12300, 12301⟩ : S66) )) (Reps.c2 (show Kd.M k66 _ _ _ (⟨12302, 12303⟩ : S66) [.int .i64 12302, .int .i64 12303] from (k66_mkM _ _ _ (⟨12302, 12303⟩ : S66) )) (Reps.c2 (show Kd.M k66 _ _ _ (⟨12304, 12305⟩ : S66) [.int .i64 12304, .int .i64 12305] from (k66_mkM _ _ _ (⟨12304, 12305⟩ : S66) )) (Reps.c2 (show Kd.M k66 _ _ _ (⟨12308, 12309⟩ : S66) [.int .i64 12308, .int .i64 12309] from (k66_mkM _ _ _ (⟨12308, 12309⟩ : S66) )) (Reps.c2 (show Kd.M k66 _ _ _ (⟨12310, 12311⟩ : S66) [.int .i64 12310, .int .i64 12311] from (k66_mkM _ _ _ (⟨12310, 12311⟩ : S66) )) (Reps.c2 (show Kd.M k66 _ _ _ (⟨12312, 12313⟩ : S66) [.int .i64 12312, .int .i64 12313] from (k66_mkM _ _ _ (⟨12312, 12313⟩ : S66) )) (Reps.c2 (show Kd.M k66 _ _ _ (⟨12314, 12315⟩ : S66) [.int .i64 12314, .int .i64 12315] from (k66_mkM _ _ _ (⟨12314, 12315⟩ : S66) )) (Reps.c2 (show Kd.M k66 _ _ _ (⟨65113, 65114⟩ : S66) [.int .i64 65113, .int .i64 65114] from (k66_mkM _ _ _ (⟨65113, 65114⟩ : S66) )) (Reps.c2 (show Kd.M k66 _ _ _ (⟨65115, 65116⟩ : S66) [.int .i64 65115, .int .i64 65116] from (k66_mkM _ _ _ (⟨65115, 65116⟩ : S66) )) (Reps.c2 (show Kd.M k66 _ _ _ (⟨65117, 65118⟩ : S66) [.int .i64 65117, .int .i64 65118] from (k66_mkM _ _ _ (⟨65117, 65118⟩ : S66) )) (Reps.c2 (show Kd.M k66 _ _ _ (⟨65124, 65125⟩ : S66) [.int .i64 65124, .int .i64 65125] from (k66_mkM _ _ _ (⟨65124, 65125⟩ : S66) )) (Reps.c2 (show Kd.M k66 _ _ _ (⟨65288, 65289⟩ : S66) [.int .i64 65288, .int .i64 65289] from (k66_mkM _ _ _ (⟨65288, 65289⟩ : S66) )) (Reps.c2 (show Kd.M k66 _ _ _ (⟨65308, 65310⟩ : S66) [.int .i64 65308, .int .i64 65310] from (k66_mkM _ _ _ (⟨65308, 65310⟩ : S66) )) (Reps.c2 (show Kd.M k66 _ _ _ (⟨65339, 65341⟩ : S66) [.int .i64 65339, .int .i64 65341] from (k66_mkM _ _ _ (⟨65339, 65341⟩ : S66) )) (Reps.c2 (show Kd.M k66 _ _ _ (⟨65371, 65373⟩ : S66) [.int .i64 65371, .int .i64 65373] from (k66_mkM _ _ _ (⟨65371, 65373⟩ : S66) )) (Reps.c2 (show Kd.M k66 _ _ _ (⟨65375, 65376⟩ : S66) [.int .i64 65375, .int .i64 65376] from (k66_mkM _ _ _ (⟨65375, 65376⟩ : S66) )) (Reps.c2 (show Kd.M k66 _ _ _ (⟨65378, 65379⟩ : S66) [.int .i64 65378, .int .i64 65379] from (k66_mkM _ _ _ (⟨65378, 65379⟩ : S66) )) (Reps.none _ _))))))))))))))))))))))))))))))))))))))))))))))))))))); intro v116 w1 ho2 hb hg_ hnew_; clear hg_ hnew_; (first | rw [← Ny115.out] at ho2 | (simp only [Int.reduceToNat] at ho2; rw [← Ny115.out] at ho2)); have n0_ := Aside0.mk (Kd.R_lower ho2 (below_size (by repeat (first | (with_reducible first | exact HB.out | apply below_alloc | apply pw_below_drewN | apply below_drew1) | exact HB.out)))); have n1_ := Aside0.mk (below_step (by repeat (first | (with_reducible first | exact HB.out | apply below_alloc | apply pw_below_drewN | apply below_drew1) | exact HB.out)) hb); clear HB; have HO117 := n0_; have HB := n1_; clear n0_ n1_; clear hb ho2))
  go_ret
  exact ⟨_, by first | rfl | (simp [errW_none, errW_some] <;> rfl) | (simp [*, errW_none, errW_some] <;> rfl), by (with_reducible repeat (first | apply Kd.R_alloc | apply Kd.R_drewN | apply Kd.R_drew)); exact HO117.out, by repeat (first | (with_reducible first | exact HB.out | apply below_alloc | apply pw_below_drewN | apply below_drew1) | exact HB.out)⟩

/-! ### pairs_Mirror: function 19 -/
def pairs_Mirror.f (k : Nat) (a0 : Int) : Option (Int) := (api_Mirrors.f).bind fun t118 => ((pairs_list_find.f k t118 a0).bind fun bt121 => (if bt121.2.2 = true then (some bt121.2.1) else ((pairs_list_back.f k t118 a0).bind fun bt125 => (if bt125.2.2 = true then (some bt125.1) else (some a0)))))
theorem pairs_Mirror.mono : ∀ a0 k, LeO (pairs_Mirror.f k a0) (pairs_Mirror.f (k + 1) a0) := by
  intro a0 k
  unfold pairs_Mirror.f
  repeat' first
      | (with_reducible exact pairs_list_back.mono _ _ _)
      | (with_reducible exact pairs_list_find.mono _ _ _)
      | (with_reducible exact LeO.refl _)
      | (with_reducible exact LeO.none _)
      | (with_reducible refine LeO.ite ?_ ?_)
      | (with_reducible refine LeO.bind ?_ (fun _ => ?_))
      | exact pairs_list_back.mono _ _ _
      | exact pairs_list_find.mono _ _ _
      | exact LeO.none _
      | refine LeO.ite ?_ ?_
      | refine LeO.bind ?_ (fun _ => ?_)
set_option maxHeartbeats 8000000 in
set_option maxRecDepth 100000 in
theorem pairs_Mirror.calls (k : Nat) (a0 : Int) (r : Int) (w : World) (h : pairs_Mirror.f k a0 = some r) :
    Calls Try.prog 19 #[.int .i64 a0] w fun e w' => e = .returned (.int .i64 r) ∧ Below w.heap.size w w' := by
  have hu66 := Try.underlying66
  have HB := Aside0.mk (Below.refl w.heap.size w)
  have H : ((api_Mirrors.f).bind fun t118 => ((pairs_list_find.f k t118 a0).bind fun bt121 => (if bt121.2.2 = true then (some bt121.2.1) else ((pairs_list_back.f k t118 a0).bind fun bt125 => (if bt125.2.2 = true then (some bt125.1) else (some a0)))))) = some r := h
  clear h
  replace H := Option.bind_eq_some_iff.mp H
  obtain ⟨t118, A20, H⟩ := H
  replace H : ((pairs_list_find.f k t118 a0).bind fun bt121 => (if bt121.2.2 = true then (some bt121.2.1) else ((pairs_list_back.f k t118 a0).bind fun bt125 => (if bt125.2.2 = true then (some bt125.1) else (some a0))))) = some r := H
  have A2 := Aside0.mk A20
  clear A20
  replace H := Option.bind_eq_some_iff.mp H
  obtain ⟨⟨t121, t122, t123⟩, A30, H⟩ := H
  replace H : (if t123 = true then (some t122) else ((pairs_list_back.f k t118 a0).bind fun bt125 => (if bt125.2.2 = true then (some bt125.1) else (some a0)))) = some r := H
  have A3 := Aside0.mk A30
  clear A30
  by_cases c4 : t123 = true
  · subst c4
    have H1 : (some t122) = some r := by rw [if_pos rfl] at H; exact H
    clear H
    have H := H1
    clear H1
    obtain rfl := Option.some.inj H
    go_enter Try.func19, Try.ntmps19
    go_wp2_with (first | ((with_reducible refine gate_callee (f := 49) rfl ?_); refine goesL_ (some 8) rfl rfl Try.func49 (by kernel_rfl) rfl #[] rfl (by (try simp only [List.map_toArray, List.map_cons, List.map_nil]); first | done | rfl | (simp only [List.length_drop, List.length_take]; rfl)) ?_; (with_reducible refine (api_Mirrors.calls  t118 _ A2.out).mono ?_); rintro e w5 ⟨v119, rfl, ho0, hb⟩; refine ⟨_, rfl, ?_⟩; have n0_ := Aside0.mk (Kd.R_lower ho0 (below_size (by repeat (first | (with_reducible first | exact HB.out | apply below_alloc | apply pw_below_drewN | apply below_drew1) | exact HB.out)))); have n1_ := Aside0.mk (below_step (by repeat (first | (with_reducible first | exact HB.out | apply below_alloc | apply pw_below_drewN | apply below_drew1) | exact HB.out)) hb); clear HB; have HO120 := n0_; have HB := n1_; clear n0_ n1_; (try clear hb); (try clear hb2); (try clear hk); (try clear hi); (try clear ho0); obtain ⟨Ao6, co6, eo6⟩ := Kd.R_slice HO120.out; subst eo6) | ((with_reducible refine gate_callee (f := 47) rfl ?_); refine goesL_ (some 12) rfl rfl Try.func47 (by kernel_rfl) rfl #[.slice Ao6 t118.length co6, .int .i64 a0] rfl (by (try simp only [List.map_toArray, List.map_cons, List.map_nil]); first | done | rfl | (simp only [List.length_drop, List.length_take]; rfl)) ?_; (with_reducible refine (pairs_list_find.calls k _ _ t118 a0 t121 t122 true _ ?side1 ?side2 A3.out).mono ?_); (case side1 => repeat (first | exact (Kd.R_reads' HO120.out).2.2 | (with_reducible refine Kd.C_alloc ?_ _) | (with_reducible refine Kd.C_drewN ?_ _) | (with_reducible refine Kd.C_drew ?_))); (case side2 => exact (Kd.R_reads' HO120.out).2.1); rintro e w7 ⟨rfl, hb⟩; refine ⟨_, rfl, ?_⟩; have n0_ := Aside0.mk (Kd.R_below (by (with_reducible repeat (first | apply Kd.R_alloc | apply Kd.R_drewN | apply Kd.R_drew)); exact HO120.out) hb); have n1_ := Aside0.mk (below_step (by repeat (first | (with_reducible first | exact HB.out | apply below_alloc | apply pw_below_drewN | apply below_drew1) | exact HB.out)) hb); clear HO120; clear HB; have HO120 := n0_; have HB := n1_; clear n0_ n1_; (try clear hb); (try clear hb2); (try clear hk); (try clear hi)) | ((with_reducible refine gate_dst (N := 4) rfl ?_); refine box_event ?hg (N := 4) ?hd (cs := #[.int .i64 0, .int .i64 0]) (t := 66) ?hr ?_; (case hd => rfl); (case hg => rfl); (case hr => first | (go_simp; done) | (go_simp; rfl)); intro gb124 hg w8 hbox hb; have n0_ := Aside0.mk (Kd.R_below (Kd.R_elderB (by (with_reducible repeat (first | apply Kd.R_alloc | apply Kd.R_drewN | apply Kd.R_drew)); exact HO120.out) gb124 (Nat.le_of_eq hg.symm)) hb); have n1_ := Aside0.mk (below_step (by repeat (first | (with_reducible first | exact HB.out | apply below_alloc | apply pw_below_drewN | apply below_drew1) | exact HB.out)) hb); have n2_ := Aside0.mk (hbox); have n3_ := Aside0.mk ((by rw [hg]; exact (below_size (by repeat (first | (with_reducible first | exact HB.out | apply below_alloc | apply pw_below_drewN | apply below_drew1) | exact HB.out))) : w.heap.size ≤ gb124)); have n4_ := Aside0.mk ((by rw [hg]; exact (below_size (by repeat (first | (with_reducible first | exact HB.out | apply below_alloc | apply pw_below_drewN | apply below_drew1) | exact HB.out))) : w.heap.size ≤ gb124)); clear HO120; clear HB; have HO120 := n0_; have HB := n1_; have BK124 := n2_; have GW124 := n3_; have GE124 := n4_; clear n0_ n1_ n2_ n3_ n4_; clear hb hbox hg; have hcz9_0 : w8.cell? ⟨gb124, 0, none⟩ = some (.int .i64 0) := (blk_cell BK124.out 0).trans rfl; have hcz9_1 : w8.cell? ⟨gb124, 1, none⟩ = some (.int .i64 0) := (blk_cell BK124.out 1).trans rfl; have hfz9_0 := blk_frozen BK124.out 0; have hfz9_1 := blk_frozen BK124.out 1))
    go_ret
    exact ⟨by first | rfl | (simp [errW_none, errW_some] <;> rfl) | (simp [*, errW_none, errW_some] <;> rfl), by repeat (first | (with_reducible first | exact HB.out | apply below_alloc | apply pw_below_drewN | apply below_drew1 | refine below_set ?_ GE124.out) | exact HB.out)⟩
  · replace c4 := Bool.eq_false_iff.mpr c4
    subst c4
    have H1 : ((pairs_list_back.f k t118 a0).bind fun bt125 => (if bt125.2.2 = true then (some bt125.1) else (some a0))) = some r := by rw [if_neg (show ¬ (false = true) by decide)] at H; exact H
    clear H
    have H := H1
    clear H1
    replace H := Option.bind_eq_some_iff.mp H
    obtain ⟨⟨t125, t126, t127⟩, A100, H⟩ := H
    replace H : (if t127 = true then (some t125) else (some a0)) = some r := H
    have A10 := Aside0.mk A100
    clear A100
    by_cases c11 : t127 = true
    · subst c11
      have H1 : (some t125) = some r := by rw [if_pos rfl] at H; exact H
      clear H
      have H := H1
      clear H1
      obtain rfl := Option.some.inj H
      go_enter Try.func19, Try.ntmps19
      go_wp2_with (first | ((with_reducible refine gate_callee (f := 49) rfl ?_); refine goesL_ (some 8) rfl rfl Try.func49 (by kernel_rfl) rfl #[] rfl (by (try simp only [List.map_toArray, List.map_cons, List.map_nil]); first | done | rfl | (simp only [List.length_drop, List.length_take]; rfl)) ?_; (with_reducible refine (api_Mirrors.calls  t118 _ A2.out).mono ?_); rintro e w12 ⟨v119, rfl, ho0, hb⟩; refine ⟨_, rfl, ?_⟩; have n0_ := Aside0.mk (Kd.R_lower ho0 (below_size (by repeat (first | (with_reducible first | exact HB.out | apply below_alloc | apply pw_below_drewN | apply below_drew1) | exact HB.out)))); have n1_ := Aside0.mk (below_step (by repeat (first | (with_reducible first | exact HB.out | apply below_alloc | apply pw_below_drewN | apply below_drew1) | exact HB.out)) hb); clear HB; have HO120 := n0_; have HB := n1_; clear n0_ n1_; (try clear hb); (try clear hb2); (try clear hk); (try clear hi); (try clear ho0); obtain ⟨Ao13, co13, eo13⟩ := Kd.R_slice HO120.out; subst eo13) | ((with_reducible refine gate_callee (f := 47) rfl ?_); refine goesL_ (some 12) rfl rfl Try.func47 (by kernel_rfl) rfl #[.slice Ao13 t118.length co13, .int .i64 a0] rfl (by (try simp only [List.map_toArray, List.map_cons, List.map_nil]); first | done | rfl | (simp only [List.length_drop, List.length_take]; rfl)) ?_; (with_reducible refine (pairs_list_find.calls k _ _ t118 a0 t121 t122 false _ ?side1 ?side2 A3.out).mono ?_); (case side1 => repeat (first | exact (Kd.R_reads' HO120.out).2.2 | (with_reducible refine Kd.C_alloc ?_ _) | (with_reducible refine Kd.C_drewN ?_ _) | (with_reducible refine Kd.C_drew ?_))); (case side2 => exact (Kd.R_reads' HO120.out).2.1); rintro e w14 ⟨rfl, hb⟩; refine ⟨_, rfl, ?_⟩; have n0_ := Aside0.mk (Kd.R_below (by (with_reducible repeat (first | apply Kd.R_alloc | apply Kd.R_drewN | apply Kd.R_drew)); exact HO120.out) hb); have n1_ := Aside0.mk (below_step (by repeat (first | (with_reducible first | exact HB.out | apply below_alloc | apply pw_below_drewN | apply below_drew1) | exact HB.out)) hb); clear HO120; clear HB; have HO120 := n0_; have HB := n1_; clear n0_ n1_; (try clear hb); (try clear hb2); (try clear hk); (try clear hi)) | ((with_reducible refine gate_dst (N := 4) rfl ?_); refine box_event ?hg (N := 4) ?hd (cs := #[.int .i64 0, .int .i64 0]) (t := 66) ?hr ?_; (case hd => rfl); (case hg => rfl); (case hr => first | (go_simp; done) | (go_simp; rfl)); intro gb124 hg w15 hbox hb; have n0_ := Aside0.mk (Kd.R_below (Kd.R_elderB (by (with_reducible repeat (first | apply Kd.R_alloc | apply Kd.R_drewN | apply Kd.R_drew)); exact HO120.out) gb124 (Nat.le_of_eq hg.symm)) hb); have n1_ := Aside0.mk (below_step (by repeat (first | (with_reducible first | exact HB.out | apply below_alloc | apply pw_below_drewN | apply below_drew1) | exact HB.out)) hb); have n2_ := Aside0.mk (hbox); have n3_ := Aside0.mk ((by rw [hg]; exact (below_size (by repeat (first | (with_reducible first | exact HB.out | apply below_alloc | apply pw_below_drewN | apply below_drew1) | exact HB.out))) : w.heap.size ≤ gb124)); have n4_ := Aside0.mk ((by rw [hg]; exact (below_size (by repeat (first | (with_reducible first | exact HB.out | apply below_alloc | apply pw_below_drewN | apply below_drew1) | exact HB.out))) : w.heap.size ≤ gb124)); clear HO120; clear HB; have HO120 := n0_; have HB := n1_; have BK124 := n2_; have GW124 := n3_; have GE124 := n4_; clear n0_ n1_ n2_ n3_ n4_; clear hb hbox hg; have hcz16_0 : w15.cell? ⟨gb124, 0, none⟩ = some (.int .i64 0) := (blk_cell BK124.out 0).trans rfl; have hcz16_1 : w15.cell? ⟨gb124, 1, none⟩ = some (.int .i64 0) := (blk_cell BK124.out 1).trans rfl; have hfz16_0 := blk_frozen BK124.out 0; have hfz16_1 := blk_frozen BK124.out 1) | ((with_reducible refine gate_callee (f := 48) rfl ?_); refine goesL_ (some 21) rfl rfl Try.func48 (by kernel_rfl) rfl #[.slice Ao13 t118.length co13, .int .i64 a0] rfl (by (try simp only [List.map_toArray, List.map_cons, List.map_nil]); first | done | rfl | (simp only [List.length_drop, List.length_take]; rfl)) ?_; (with_reducible refine (pairs_list_back.calls k _ _ t118 a0 t125 t126 true _ ?side1 ?side2 A10.out).mono ?_); (case side1 => refine (Kd.R_reads' (e := 66) (base := w.heap.size) (ok := fun k_ => (True ∧ k_ ≠ gb124)) (n := t118.length) (c := co13) ?_).2.2; exact (by (with_reducible repeat (first | apply Kd.R_alloc | apply Kd.R_drewN | apply Kd.R_drew)); exact (Kd.R_mono (Kd.R_far (p := ⟨gb124, 1, none⟩) (Kd.R_far (p := ⟨gb124, 0, none⟩) (Kd.R_mono HO120.out (fun k_ hk => (⟨hk, hk.2⟩ : _ ∧ k_ ≠ gb124))) (fun _ hk => hk.2) (.int .i64 t121)) (fun _ hk => hk.2) (.int .i64 t122)) (fun _ h_ => h_.1)))); (case side2 => exact (Kd.R_reads' HO120.out).2.1); rintro e w17 ⟨rfl, hb⟩; refine ⟨_, rfl, ?_⟩; have n0_ := Aside0.mk (Kd.R_below (by (with_reducible repeat (first | apply Kd.R_alloc | apply Kd.R_drewN | apply Kd.R_drew)); exact (Kd.R_mono (Kd.R_far (p := ⟨gb124, 1, none⟩) (Kd.R_far (p := ⟨gb124, 0, none⟩) (Kd.R_mono HO120.out (fun k_ hk => (⟨hk, hk.2⟩ : _ ∧ k_ ≠ gb124))) (fun _ hk => hk.2) (.int .i64 t121)) (fun _ hk => hk.2) (.int .i64 t122)) (fun _ h_ => h_.1))) hb); have n1_ := Aside0.mk (blk_below (g := gb124) (o := .cells #[.int .i64 t121, .int .i64 t122] 66 (0, 0)) (by (with_reducible repeat (first | refine blk_drewN ?_ _ | refine blk_drew ?_ | refine blk_alloc ?_ _)); refine blk_put (cs := #[.int .i64 t121, .int .i64 0]) ?_ 1 _ rfl; (with_reducible repeat (first | refine blk_drewN ?_ _ | refine blk_drew ?_ | refine blk_alloc ?_ _)); refine blk_put (cs := #[.int .i64 0, .int .i64 0]) ?_ 0 _ rfl; (with_reducible repeat (first | refine blk_drewN ?_ _ | refine blk_drew ?_ | refine blk_alloc ?_ _)); exact BK124.out) hb); have n2_ := Aside0.mk (below_step (by repeat (first | (with_reducible first | exact HB.out | apply below_alloc | apply pw_below_drewN | apply below_drew1 | refine below_set ?_ GE124.out) | exact HB.out)) hb); clear HO120; clear BK124; clear HB; have HO120 := n0_; have BK124 := n1_; have HB := n2_; clear n0_ n1_ n2_; (try clear hb); (try clear hb2); (try clear hk); (try clear hi)) | ((with_reducible refine gate_dst (N := 6) rfl ?_); refine box_event ?hg (N := 6) ?hd (cs := #[.int .i64 0, .int .i64 0]) (t := 66) ?hr ?_; (case hd => rfl); (case hg => rfl); (case hr => first | (go_simp; done) | (go_simp; rfl)); intro gb128 hg w18 hbox hb; have n0_ := Aside0.mk (Kd.R_below (Kd.R_elderB (by (with_reducible repeat (first | apply Kd.R_alloc | apply Kd.R_drewN | apply Kd.R_drew)); exact HO120.out) gb128 (Nat.le_of_eq hg.symm)) hb); have n1_ := Aside0.mk (blk_below (g := gb124) (o := .cells #[.int .i64 t121, .int .i64 t122] 66 (0, 0)) (by (with_reducible repeat (first | refine blk_drewN ?_ _ | refine blk_drew ?_ | refine blk_alloc ?_ _)); exact BK124.out) hb); have n2_ := Aside0.mk (below_step (by repeat (first | (with_reducible first | exact HB.out | apply below_alloc | apply pw_below_drewN | apply below_drew1 | refine below_set ?_ GE124.out) | exact HB.out)) hb); have n3_ := Aside0.mk (hbox); have n4_ := Aside0.mk ((by rw [hg]; exact (below_size (by repeat (first | (with_reducible first | exact HB.out | apply below_alloc | apply pw_below_drewN | apply below_drew1 | refine below_set ?_ GE124.out) | exact HB.out))) : w.heap.size ≤ gb128)); have n5_ := Aside0.mk ((by rw [hg]; exact (below_size (by repeat (first | (with_reducible first | exact HB.out | apply below_alloc | apply pw_below_drewN | apply below_drew1 | refine below_set ?_ GE124.out) | exact HB.out))) : w.heap.size ≤ gb128)); have n6_ := Aside0.mk ((by rw [hg]; exact Nat.ne_of_lt (blk_lt (g := gb124) (o := .cells #[.int .i64 t121, .int .i64 t122] 66 (0, 0)) (by (with_reducible repeat (first | refine blk_drewN ?_ _ | refine blk_drew ?_ | refine blk_alloc ?_ _)); exact BK124.out)) : gb124 ≠ gb128)); have n7_ := Aside0.mk ((by rw [hg]; exact Nat.ne_of_gt (blk_lt (g := gb124) (o := .cells #[.int .i64 t121, .int .i64 t122] 66 (0, 0)) (by (with_reducible repeat (first | refine blk_drewN ?_ _ | refine blk_drew ?_ | refine blk_alloc ?_ _)); exact BK124.out)) : gb128 ≠ gb124)); clear HO120; clear BK124; clear HB; have HO120 := n0_; have BK124 := n1_; have HB := n2_; have BK128 := n3_; have GW128 := n4_; have GE128 := n5_; have NB124_128 := n6_; have NB128_124 := n7_; clear n0_ n1_ n2_ n3_ n4_ n5_ n6_ n7_; clear hb hbox hg; have hnb19 := NB128_124.out; have hnc19 := NB124_128.out; have hcz20_0 : w18.cell? ⟨gb128, 0, none⟩ = some (.int .i64 0) := (blk_cell BK128.out 0).trans rfl; have hcz20_1 : w18.cell? ⟨gb128, 1, none⟩ = some (.int .i64 0) := (blk_cell BK128.out 1).trans rfl; have hfz20_0 := blk_frozen BK128.out 0; have hfz20_1 := blk_frozen BK128.out 1))
      go_ret
      exact ⟨by first | rfl | (simp [errW_none, errW_some] <;> rfl) | (simp [*, errW_none, errW_some] <;> rfl), by repeat (first | (with_reducible first | exact HB.out | apply below_alloc | apply pw_below_drewN | apply below_drew1 | refine below_set ?_ GE124.out | refine below_set ?_ GE128.out) | exact HB.out)⟩
    · replace c11 := Bool.eq_false_iff.mpr c11
      subst c11
      have H1 : (some a0) = some r := by rw [if_neg (show ¬ (false = true) by decide)] at H; exact H
      clear H
      have H := H1
      clear H1
      obtain rfl := Option.some.inj H
      go_enter Try.func19, Try.ntmps19
      go_wp2_with (first | ((with_reducible refine gate_callee (f := 49) rfl ?_); refine goesL_ (some 8) rfl rfl Try.func49 (by kernel_rfl) rfl #[] rfl (by (try simp only [List.map_toArray, List.map_cons, List.map_nil]); first | done | rfl | (simp only [List.length_drop, List.length_take]; rfl)) ?_; (with_reducible refine (api_Mirrors.calls  t118 _ A2.out).mono ?_); rintro e w21 ⟨v119, rfl, ho0, hb⟩; refine ⟨_, rfl, ?_⟩; have n0_ := Aside0.mk (Kd.R_lower ho0 (below_size (by repeat (first | (with_reducible first | exact HB.out | apply below_alloc | apply pw_below_drewN | apply below_drew1) | exact HB.out)))); have n1_ := Aside0.mk (below_step (by repeat (first | (with_reducible first | exact HB.out | apply below_alloc | apply pw_below_drewN | apply below_drew1) | exact HB.out)) hb); clear HB; have HO120 := n0_; have HB := n1_; clear n0_ n1_; (try clear hb); (try clear hb2); (try clear hk); (try clear hi); (try clear ho0); obtain ⟨Ao22, co22, eo22⟩ := Kd.R_slice HO120.out; subst eo22) | ((with_reducible refine gate_callee (f := 47) rfl ?_); refine goesL_ (some 12) rfl rfl Try.func47 (by kernel_rfl) rfl #[.slice Ao22 t118.length co22, .int .i64 a0] rfl (by (try simp only [List.map_toArray, List.map_cons, List.map_nil]); first | done | rfl | (simp only [List.length_drop, List.length_take]; rfl)) ?_; (with_reducible refine (pairs_list_find.calls k _ _ t118 a0 t121 t122 false _ ?side1 ?side2 A3.out).mono ?_); (case side1 => repeat (first | exact (Kd.R_reads' HO120.out).2.2 | (with_reducible refine Kd.C_alloc ?_ _) | (with_reducible refine Kd.C_drewN ?_ _) | (with_reducible refine Kd.C_drew ?_))); (case side2 => exact (Kd.R_reads' HO120.out).2.1); rintro e w23 ⟨rfl, hb⟩; refine ⟨_, rfl, ?_⟩; have n0_ := Aside0.mk (Kd.R_below (by (with_reducible repeat (first | apply Kd.R_alloc | apply Kd.R_drewN | apply Kd.R_drew)); exact HO120.out) hb); have n1_ := Aside0.mk (below_step (by repeat (first | (with_reducible first | exact HB.out | apply below_alloc | apply pw_below_drewN | apply below_drew1) | exact HB.out)) hb); clear HO120; clear HB; have HO120 := n0_; have HB := n1_; clear n0_ n1_; (try clear hb); (try clear hb2); (try clear hk); (try clear hi)) | ((with_reducible refine gate_dst (N := 4) rfl ?_); refine box_event ?hg (N := 4) ?hd (cs := #[.int .i64 0, .int .i64 0]) (t := 66) ?hr ?_; (case hd => rfl); (case hg => rfl); (case hr => first | (go_simp; done) | (go_simp; rfl)); intro gb124 hg w24 hbox hb; have n0_ := Aside0.mk (Kd.R_below (Kd.R_elderB (by (with_reducible repeat (first | apply Kd.R_alloc | apply Kd.R_drewN | apply Kd.R_drew)); exact HO120.out) gb124 (Nat.le_of_eq hg.symm)) hb); have n1_ := Aside0.mk (below_step (by repeat (first | (with_reducible first | exact HB.out | apply below_alloc | apply pw_below_drewN | apply below_drew1) | exact HB.out)) hb); have n2_ := Aside0.mk (hbox); have n3_ := Aside0.mk ((by rw [hg]; exact (below_size (by repeat (first | (with_reducible first | exact HB.out | apply below_alloc | apply pw_below_drewN | apply below_drew1) | exact HB.out))) : w.heap.size ≤ gb124)); have n4_ := Aside0.mk ((by rw [hg]; exact (below_size (by repeat (first | (with_reducible first | exact HB.out | apply below_alloc | apply pw_below_drewN | apply below_drew1) | exact HB.out))) : w.heap.size ≤ gb124)); clear HO120; clear HB; have HO120 := n0_; have HB := n1_; have BK124 := n2_; have GW124 := n3_; have GE124 := n4_; clear n0_ n1_ n2_ n3_ n4_; clear hb hbox hg; have hcz25_0 : w24.cell? ⟨gb124, 0, none⟩ = some (.int .i64 0) := (blk_cell BK124.out 0).trans rfl; have hcz25_1 : w24.cell? ⟨gb124, 1, none⟩ = some (.int .i64 0) := (blk_cell BK124.out 1).trans rfl; have hfz25_0 := blk_frozen BK124.out 0; have hfz25_1 := blk_frozen BK124.out 1) | ((with_reducible refine gate_callee (f := 48) rfl ?_); refine goesL_ (some 21) rfl rfl Try.func48 (by kernel_rfl) rfl #[.slice Ao22 t118.length co22, .int .i64 a0] rfl (by (try simp only [List.map_toArray, List.map_cons, List.map_nil]); first | done | rfl | (simp only [List.length_drop, List.length_take]; rfl)) ?_; (with_reducible refine (pairs_list_back.calls k _ _ t118 a0 t125 t126 false _ ?side1 ?side2 A10.out).mono ?_); (case side1 => refine (Kd.R_reads' (e := 66) (base := w.heap.size) (ok := fun k_ => (True ∧ k_ ≠ gb124)) (n := t118.length) (c := co22) ?_).2.2; exact (by (with_reducible repeat (first | apply Kd.R_alloc | apply Kd.R_drewN | apply Kd.R_drew)); exact (Kd.R_mono (Kd.R_far (p := ⟨gb124, 1, none⟩) (Kd.R_far (p := ⟨gb124, 0, none⟩) (Kd.R_mono HO120.out (fun k_ hk => (⟨hk, hk.2⟩ : _ ∧ k_ ≠ gb124))) (fun _ hk => hk.2) (.int .i64 t121)) (fun _ hk => hk.2) (.int .i64 t122)) (fun _ h_ => h_.1)))); (case side2 => exact (Kd.R_reads' HO120.out).2.1); rintro e w26 ⟨rfl, hb⟩; refine ⟨_, rfl, ?_⟩; have n0_ := Aside0.mk (Kd.R_below (by (with_reducible repeat (first | apply Kd.R_alloc | apply Kd.R_drewN | apply Kd.R_drew)); exact (Kd.R_mono (Kd.R_far (p := ⟨gb124, 1, none⟩) (Kd.R_far (p := ⟨gb124, 0, none⟩) (Kd.R_mono HO120.out (fun k_ hk => (⟨hk, hk.2⟩ : _ ∧ k_ ≠ gb124))) (fun _ hk => hk.2) (.int .i64 t121)) (fun _ hk => hk.2) (.int .i64 t122)) (fun _ h_ => h_.1))) hb); have n1_ := Aside0.mk (blk_below (g := gb124) (o := .cells #[.int .i64 t121, .int .i64 t122] 66 (0, 0)) (by (with_reducible repeat (first | refine blk_drewN ?_ _ | refine blk_drew ?_ | refine blk_alloc ?_ _)); refine blk_put (cs := #[.int .i64 t121, .int .i64 0]) ?_ 1 _ rfl; (with_reducible repeat (first | refine blk_drewN ?_ _ | refine blk_drew ?_ | refine blk_alloc ?_ _)); refine blk_put (cs := #[.int .i64 0, .int .i64 0]) ?_ 0 _ rfl; (with_reducible repeat (first | refine blk_drewN ?_ _ | refine blk_drew ?_ | refine blk_alloc ?_ _)); exact BK124.out) hb); have n2_ := Aside0.mk (below_step (by repeat (first | (with_reducible first | exact HB.out | apply below_alloc | apply pw_below_drewN | apply below_drew1 | refine below_set ?_ GE124.out) | exact HB.out)) hb); clear HO120; clear BK124; clear HB; have HO120 := n0_; have BK124 := n1_; have HB := n2_; clear n0_ n1_ n2_; (try clear hb); (try clear hb2); (try clear hk); (try clear hi)) | ((with_reducible refine gate_dst (N := 6) rfl ?_); refine box_event ?hg (N := 6) ?hd (cs := #[.int .i64 0, .int .i64 0]) (t := 66) ?hr ?_; (case hd => rfl); (case hg => rfl); (case hr => first | (go_simp; done) | (go_simp; rfl)); intro gb128 hg w27 hbox hb; have n0_ := Aside0.mk (Kd.R_below (Kd.R_elderB (by (with_reducible repeat (first | apply Kd.R_alloc | apply Kd.R_drewN | apply Kd.R_drew)); exact HO120.out) gb128 (Nat.le_of_eq hg.symm)) hb); have n1_ := Aside0.mk (blk_below (g := gb124) (o := .cells #[.int .i64 t121, .int .i64 t122] 66 (0, 0)) (by (with_reducible repeat (first | refine blk_drewN ?_ _ | refine blk_drew ?_ | refine blk_alloc ?_ _)); exact BK124.out) hb); have n2_ := Aside0.mk (below_step (by repeat (first | (with_reducible first | exact HB.out | apply below_alloc | apply pw_below_drewN | apply below_drew1 | refine below_set ?_ GE124.out) | exact HB.out)) hb); have n3_ := Aside0.mk (hbox); have n4_ := Aside0.mk ((by rw [hg]; exact (below_size (by repeat (first | (with_reducible first | exact HB.out | apply below_alloc | apply pw_below_drewN | apply below_drew1 | refine below_set ?_ GE124.out) | exact HB.out))) : w.heap.size ≤ gb128)); have n5_ := Aside0.mk ((by rw [hg]; exact (below_size (by repeat (first | (with_reducible first | exact HB.out | apply below_alloc | apply pw_below_drewN | apply below_drew1 | refine below_set ?_ GE124.out) | exact HB.out))) : w.heap.size ≤ gb128)); have n6_ := Aside0.mk ((by rw [hg]; exact Nat.ne_of_lt (blk_lt (g := gb124) (o := .cells #[.int .i64 t121, .int .i64 t122] 66 (0, 0)) (by (with_reducible repeat (first | refine blk_drewN ?_ _ | refine blk_drew ?_ | refine blk_alloc ?_ _)); exact BK124.out)) : gb124 ≠ gb128)); have n7_ := Aside0.mk ((by rw [hg]; exact Nat.ne_of_gt (blk_lt (g := gb124) (o := .cells #[.int .i64 t121, .int .i64 t122] 66 (0, 0)) (by (with_reducible repeat (first | refine blk_drewN ?_ _ | refine blk_drew ?_ | refine blk_alloc ?_ _)); exact BK124.out)) : gb128 ≠ gb124)); clear HO120; clear BK124; clear HB; have HO120 := n0_; have BK124 := n1_; have HB := n2_; have BK128 := n3_; have GW128 := n4_; have GE128 := n5_; have NB124_128 := n6_; have NB128_124 := n7_; clear n0_ n1_ n2_ n3_ n4_ n5_ n6_ n7_; clear hb hbox hg; have hnb28 := NB128_124.out; have hnc28 := NB124_128.out; have hcz29_0 : w27.cell? ⟨gb128, 0, none⟩ = some (.int .i64 0) := (blk_cell BK128.out 0).trans rfl; have hcz29_1 : w27.cell? ⟨gb128, 1, none⟩ = some (.int .i64 0) := (blk_cell BK128.out 1).trans rfl; have hfz29_0 := blk_frozen BK128.out 0; have hfz29_1 := blk_frozen BK128.out 1))
      go_ret
      exact ⟨by first | rfl | (simp [errW_none, errW_some] <;> rfl) | (simp [*, errW_none, errW_some] <;> rfl), by repeat (first | (with_reducible first | exact HB.out | apply below_alloc | apply pw_below_drewN | apply below_drew1 | refine below_set ?_ GE124.out | refine below_set ?_ GE128.out) | exact HB.out)⟩

/-! ### mirror_one: function 63 -/
def mirror_one.f (k : Nat) (a0 : Int) (a1 : Int) : Option (Int) := if (Go.bits .and .i64 a1 1) = 1 then ((pairs_Mirror.f k a0).bind fun t129 => (some t129)) else (some a0)
theorem mirror_one.mono : ∀ a0 a1 k, LeO (mirror_one.f k a0 a1) (mirror_one.f (k + 1) a0 a1) := by
  intro a0 a1 k
  unfold mirror_one.f
  repeat' first
      | (with_reducible exact pairs_Mirror.mono _ _)
      | (with_reducible exact LeO.refl _)
      | (with_reducible exact LeO.none _)
      | (with_reducible refine LeO.ite ?_ ?_)
      | (with_reducible refine LeO.bind ?_ (fun _ => ?_))
      | exact pairs_Mirror.mono _ _
      | exact LeO.none _
      | refine LeO.ite ?_ ?_
      | refine LeO.bind ?_ (fun _ => ?_)
set_option maxHeartbeats 8000000 in
set_option maxRecDepth 100000 in
theorem mirror_one.calls (k : Nat) (a0 : Int) (a1 : Int) (r : Int) (w : World) (h : mirror_one.f k a0 a1 = some r) :
    Calls Try.prog 63 #[.int .i64 a0, .int .i64 a1] w fun e w' => e = .returned (.int .i64 r) ∧ Below w.heap.size w w' := by
  have HB := Aside0.mk (Below.refl w.heap.size w)
  have H : (if (Go.bits .and .i64 a1 1) = 1 then ((pairs_Mirror.f k a0).bind fun t129 => (some t129)) else (some a0)) = some r := h
  clear h
  by_cases c3 : (Go.bits .and .i64 a1 1) = 1
  · rw [if_pos c3] at H
    have c3b0 : ((Go.bits .and .i64 a1 1) == 1) = true := beq_iff_eq.mpr c3
    have c3b1 : ((Go.bits .and .i64 a1 1) != 1) = false := bne_eq_false_iff_eq.mpr c3
    clear c3
    replace H := Option.bind_eq_some_iff.mp H
    obtain ⟨t129, A40, H⟩ := H
    replace H : (some t129) = some r := H
    have A4 := Aside0.mk A40
    clear A40
    obtain rfl := Option.some.inj H
    go_enter Try.func63, Try.ntmps63
    go_wp2_with (first | ((with_reducible refine gate_callee (f := 19) rfl ?_); refine goesL_ (some 9) rfl rfl Try.func19 (by kernel_rfl) rfl #[.int .i64 a0] rfl (by (try simp only [List.map_toArray, List.map_cons, List.map_nil]); first | done | rfl | (simp only [List.length_drop, List.length_take]; rfl)) ?_; (with_reducible refine (pairs_Mirror.calls k a0 t129 _ A4.out).mono ?_); rintro e w5 ⟨rfl, hb⟩; refine ⟨_, rfl, ?_⟩; have n0_ := Aside0.mk (below_step (by repeat (first | (with_reducible first | exact HB.out | apply below_alloc | apply pw_below_drewN | apply below_drew1) | exact HB.out)) hb); clear HB; have HB := n0_; clear n0_; (try clear hb); (try clear hb2); (try clear hk); (try clear hi)))
    go_ret
    exact ⟨by first | rfl | (simp [errW_none, errW_some] <;> rfl) | (simp [*, errW_none, errW_some] <;> rfl), by repeat (first | (with_reducible first | exact HB.out | apply below_alloc | apply pw_below_drewN | apply below_drew1) | exact HB.out)⟩
  · rw [if_neg c3] at H
    have c3b0 : ((Go.bits .and .i64 a1 1) == 1) = false := beq_eq_false_iff_ne.mpr c3
    have c3b1 : ((Go.bits .and .i64 a1 1) != 1) = true := bne_iff_ne.mpr c3
    obtain rfl := Option.some.inj H
    go_enter Try.func63, Try.ntmps63
    go_wp2
    go_ret
    exact ⟨by first | rfl | (simp [errW_none, errW_some] <;> rfl) | (simp [*, errW_none, errW_some] <;> rfl), by repeat (first | (with_reducible first | exact HB.out | apply below_alloc | apply pw_below_drewN | apply below_drew1) | exact HB.out)⟩

-- NOT PRINTED: function 53 (mirror_each)

/-! ### mirror_Codes: function 33 -/
/-- Codes, each as it is seen. -/
def mirror_Codes.go (k : Nat) : List Int → List Int → Option (List Int)
  | x :: xs, y :: ys => (mirror_one.f k x y).bind fun z => (mirror_Codes.go k xs ys).bind fun s => some (z :: s)
  | _, _ => some []
def mirror_Codes.f (k : Nat) (l0 : List Int) (l1 : List Int) : Option (List Int) := if l0.length = l1.length then (slices_Clone_int_int.f l0).bind fun v => (if v = l0 ∧ l0.length ≤ 35184372088832 then mirror_Codes.go k l0 l1 else none) else some []
theorem mirror_Codes.go_mono : ∀ a0 a1 k, LeO (mirror_Codes.go k a0 a1) (mirror_Codes.go (k + 1) a0 a1)
  | [], _, k => by unfold mirror_Codes.go; exact LeO.refl _
  | _ :: _, [], k => by unfold mirror_Codes.go; exact LeO.refl _
  | x :: xs, y :: ys, k => by
    rw [mirror_Codes.go, mirror_Codes.go]
    refine LeO.bind (mirror_one.mono _ _ _) (fun _ => ?_)
    refine LeO.bind (mirror_Codes.go_mono xs ys k) (fun _ => ?_)
    exact LeO.refl _
theorem mirror_Codes.mono : ∀ a0 a1 k, LeO (mirror_Codes.f k a0 a1) (mirror_Codes.f (k + 1) a0 a1) := by
  intro a0 a1 k
  unfold mirror_Codes.f
  refine LeO.ite ?_ (LeO.refl _)
  refine LeO.bind (LeO.refl _) (fun _ => ?_)
  refine LeO.ite ?_ (LeO.none _)
  exact mirror_Codes.go_mono _ _ _
set_option maxHeartbeats 4000000 in
theorem mirror_Codes.put (g b i n c : Nat) (z x : Int) (w : World) (hc : w.cell? ⟨g, 0, none⟩ = some (.slice (some ⟨b, 0, none⟩) n c)) (hi : i < n) (hx1 : w.cell? ⟨b, i, none⟩ = some (.int .i64 x)) (hx2 : w.frozen? ⟨b, i, none⟩ = false) :
    Calls Try.prog 54 #[.int .i64 i, .int .i64 z, .pointer (some ⟨g, 0, none⟩)] w fun e w' => e = .returned (.tuple #[]) ∧ w' = w.setCell ⟨b, i, none⟩ (.int .i64 z) := by
  have p0 : ((0 : Int) ≤ (i : Int)) = True := eq_true (by omega)
  have p1 : ((i : Int) < (n : Int)) = True := eq_true (by omega)
  have d1 : decide (i < n) = true := decide_eq_true (by omega)
  have p2 : (i < n) = True := eq_true (by omega)
  clear hi
  go_enter Try.func54, Try.ntmps54
  go_wp2
  go_end0
  exact ⟨rfl, rfl⟩
theorem mirror_Codes.drop_rd (l : List Int) (i : Nat) (h : i < l.length) : l.drop i = rd l (i : Int) :: l.drop (i + 1) := by
  rw [List.drop_eq_getElem_cons h]
  simp [rd, h]
theorem mirror_Codes.laid (l : List Int) (i : Nat) (h : i < l.length) (z : Int) : (l.set i z).length = l.length ∧ (l.set i z).drop (i + 1) = l.drop (i + 1) ∧ (l.set i z).take (i + 1) = l.take i ++ [z] := by
  refine ⟨List.length_set .., ?_, ?_⟩
  · rw [List.drop_set_of_lt (by omega)]
  · rw [List.take_add_one, List.take_set_of_le (by omega)]
    simp [h]
set_option maxHeartbeats 4000000 in
set_option maxRecDepth 100000 in
theorem mirror_Codes.each (k g n c c1 : Nat) (A A1 : Option Addr) (l0 l1 r : List Int) (w0 w : World) (hG : w.heap[g]? = some (.cells #[.slice A n c] 36 (0, 0))) (hO : Kd.R (Kd.int .i64) 3 w w0.heap.size (fun _ => True) (.slice A n c) l0) (hL : Kd.C (Kd.int .i64) w0 A1 l1.length l1)
    (hn0 : l0.length = n) (hn1 : l1.length = n) (hlen : n ≤ 35184372088832) (hB : Below w0.heap.size w0 w) (h : mirror_Codes.go k l0 l1 = some r) :
    Calls Try.prog 53 #[.slice A n c, .slice A1 n c1, .func (.func 54) #[] #[.pointer (some ⟨g, 0, none⟩)]] w fun e w' => e = .returned (.tuple #[]) ∧ w'.heap[g]? = some (.cells #[.slice A n c] 36 (0, 0)) ∧ Kd.R (Kd.int .i64) 3 w' w0.heap.size (fun _ => True) (.slice A n c) r ∧ Below w0.heap.size w0 w' := by
  have HG := Aside0.mk hG
  have HO := Aside0.mk hO
  have HL := Aside0.mk hL
  have HN1 := Aside0.mk hn1
  have HN := Aside0.mk hlen
  have HB := Aside0.mk hB
  have HS := Aside0.mk (show l0.length = n ∧ ∃ s, mirror_Codes.go k (l0.drop 0) (l1.drop 0) = some s ∧ l0.take 0 ++ s = r from ⟨hn0, r, by simpa using h, by simp⟩)
  clear hG hO hL hn0 hn1 hlen hB h
  go_enter Try.func53, Try.ntmps53
  go_wp2
  go_loopg [10] n (fun kq v10 w' => ∃ (i : Nat) (cur : List Int), v10 = .int .i64 (i : Int) ∧ Aside0 (i ≤ n ∧ n - i = kq) ∧ Aside0 (cur.length = n ∧ ∃ s, mirror_Codes.go k (cur.drop i) (l1.drop i) = some s ∧ cur.take i ++ s = r) ∧ Aside0 (w'.heap[g]? = some (.cells #[.slice A n c] 36 (0, 0))) ∧ Aside0 (Kd.R (Kd.int .i64) 3 w' w0.heap.size (fun _ => True) (.slice A n c) cur) ∧ Aside0 (Below w0.heap.size w0 w'))
  case atStart => exact ⟨0, l0, rfl, ⟨Nat.zero_le _, rfl⟩, HS, HG, HO, HB⟩
  case round =>
    clear HG HO HB HS
    obtain ⟨i, cur, rfl, HI, HS, HG, HO, HB⟩ := hrel
    by_cases hlt : i < n
    · have b0 : decide ((i : Int) < (n : Int)) = true := decide_eq_true (by omega)
      have b1 : decide (i < n) = true := decide_eq_true hlt
      have hno := HS.out.1
      obtain ⟨b, cap, eb, hbb, hbl, cells, hbc⟩ := Kd.R_form HO.out (by omega)
      rw [hno] at eb
      injection eb with e1 _ e2
      subst e1 e2
      have hx := (Kd.R_celln (0 : Int) HO.out (i : Int) (by omega) (by omega))
      rw [Int.toNat_natCast] at hx
      obtain ⟨hx1, hx2⟩ := hx
      have hxe : rdOf (0 : Int) cur (i : Int) = rd cur (i : Int) := rfl
      rw [hxe] at hx1
      obtain ⟨x, hxx⟩ : ∃ x, rd cur (i : Int) = x := ⟨_, rfl⟩
      rw [hxx] at hx1
      have HXX := Aside0.mk (show rdOf (0 : Int) cur (i : Int) = x from hxx)
      obtain ⟨ad, ea, hy⟩ := Kd.at_int (Kd.C_below HL.out HB.out) (i : Int) (by omega) (by rw [HN1.out]; omega)
      subst ea
      rw [Int.toNat_natCast] at hy
      obtain ⟨y, hyy⟩ : ∃ y, rd l1 (i : Int) = y := ⟨_, rfl⟩
      rw [hyy] at hy
      have HX : Aside0 (∃ z s, mirror_one.f k x y = some z ∧ mirror_Codes.go k (cur.drop (i + 1)) (l1.drop (i + 1)) = some s ∧ cur.take i ++ z :: s = r) := ⟨by
        obtain ⟨s, hs, hr⟩ := HS.out.2
        rw [mirror_Codes.drop_rd cur i (by omega), mirror_Codes.drop_rd l1 i (by rw [HN1.out]; omega), hxx, hyy, mirror_Codes.go] at hs
        obtain ⟨z, hz, hs⟩ := Option.bind_eq_some_iff.mp hs
        obtain ⟨s', hs', hs⟩ := Option.bind_eq_some_iff.mp hs
        obtain rfl := Option.some.inj hs
        exact ⟨z, s', hz, hs', hr⟩⟩
      obtain ⟨z, s, hz, hs, hr⟩ := HX.out
      have HONE := Aside0.mk (fun W : World => mirror_one.calls k x y z W hz)
      have HPUT := Aside0.mk (fun (W : World) h1 h2 h3 h4 => mirror_Codes.put g b i n c z x W h1 h2 h3 h4)
      have HS2 := Aside0.mk (show (cur.set i z).length = n ∧ ∃ s, mirror_Codes.go k ((cur.set i z).drop (i + 1)) (l1.drop (i + 1)) = some s ∧ (cur.set i z).take (i + 1) ++ s = r from by
        obtain ⟨q1, q2, q3⟩ := mirror_Codes.laid cur i (by omega) z
        exact ⟨by rw [q1]; exact hno, s, by rw [q2]; exact hs, by rw [q3, ← hr]; simp⟩)
      have HCEL : Aside0 (∀ W : World, Kd.R (Kd.int .i64) 3 W w0.heap.size (fun _ => True) (.slice (some ⟨b, 0, none⟩) n c) cur → W.cell? ⟨b, i, none⟩ = some (.int .i64 x) ∧ W.frozen? ⟨b, i, none⟩ = false) := ⟨fun W hR => by
        have h_ := Kd.R_celln (0 : Int) hR (i : Int) (by omega) (by omega)
        rw [Int.toNat_natCast] at h_
        exact ⟨h_.1.trans (congrArg (fun q => some (Value.int .i64 q)) HXX.out), h_.2⟩⟩
      have HLT := Aside0.mk hlt
      have HBB := Aside0.mk hbb
      have HNE := Aside0.mk (show g ≠ b from blk_ne HG.out hbc (by decide))
      have hi0 : (0 : Int) ≤ (i : Int) := by omega
      have hi1 : (i : Int) < (n : Int) := by omega
      replace hi0 := eq_true hi0
      replace hi1 := eq_true hi1
      have hw : wrap64 ((i : Int) + 1) = ((i + 1 : Nat) : Int) := by have := HN.out; unfold wrap64; omega
      clear HX hz hs hr hxx hyy hxe hno hbc hbb hbl hlt
      go_wp2_with (first | (go_at_call 63; (with_reducible refine (HONE.out _).mono ?_); rintro e w2 ⟨rfl, hb2⟩; have HG2 := Aside0.mk (blk_below HG.out hb2); have HO2 := Aside0.mk (Kd.R_below HO.out hb2); have HB2 := Aside0.mk (below_step HB.out hb2); clear hb2) | (go_at_call 54; (with_reducible refine (HPUT.out _ ((blk_cell HG2.out 0).trans rfl) HLT.out (HCEL.out _ HO2.out).1 (HCEL.out _ HO2.out).2).mono ?_); rintro e w3 ⟨rfl, rfl⟩))
      go_roundg (n - (i + 1))
      case measure => have := HI.out; have := HLT.out; omega
      case rel =>
        have hp := (Kd.R_putg HO2.out (i : Int) z).1
        rw [Int.toNat_natCast] at hp
        exact ⟨i + 1, cur.set i z, by first | rfl | exact congrArg (Value.int .i64) hw, ⟨by have := HLT.out; omega, rfl⟩, HS2, ⟨blk_far HG2.out (p := ⟨b, i, none⟩) HNE.out (.int .i64 z)⟩, ⟨hp⟩, ⟨below_set HB2.out HBB.out⟩⟩
    · have b0 : decide ((i : Int) < (n : Int)) = false := decide_eq_false (by omega)
      have b1 : decide (i < n) = false := decide_eq_false hlt
      have HE : Aside0 (cur = r) := ⟨by
        obtain ⟨h1, s, h2, h3⟩ := HS.out
        have := HI.out.1
        rw [List.drop_eq_nil_of_le (by omega), mirror_Codes.go] at h2
        · obtain rfl := Option.some.inj h2
          rw [List.take_of_length_le (by omega), List.append_nil] at h3
          exact h3
        · intro _ _ _ _ h _; cases h⟩
      clear hlt
      go_wp2
      go_end0
      exact ⟨rfl, HG.out, by rw [← HE.out]; exact HO.out, HB.out⟩
set_option maxHeartbeats 4000000 in
set_option maxRecDepth 100000 in
theorem mirror_Codes.calls (k : Nat) (A0 : Option Addr) (c0 : Nat) (l0 : List Int) (A1 : Option Addr) (c1 : Nat) (l1 : List Int) (r : List Int) (w : World) (hr0 : Kd.C (Kd.int .i64) w A0 l0.length l0) (hc0 : l0.length ≤ c0) (hr1 : Kd.C (Kd.int .i64) w A1 l1.length l1) (hc1 : l1.length ≤ c1) (h : mirror_Codes.f k l0 l1 = some r) :
    Calls Try.prog 33 #[.slice A0 l0.length c0, .slice A1 l1.length c1] w fun e w' => ∃ v0_ : Value, e = .returned (v0_) ∧ Kd.R (Kd.int .i64) 3 w' w.heap.size (fun _ => True) v0_ r ∧ Below w.heap.size w w' := by
  unfold mirror_Codes.f at h
  by_cases hl : l0.length = l1.length
  · rw [if_pos hl] at h
    obtain ⟨v, hv, h⟩ := Option.bind_eq_some_iff.mp h
    by_cases hg1 : v = l0 ∧ l0.length ≤ 35184372088832
    case neg => rw [if_neg hg1] at h; cases h
    rw [if_pos hg1] at h
    obtain ⟨rfl, hmax⟩ := hg1
    have HCL := Aside0.mk (slices_Clone_int_int.calls A0 c0 v v w hr0 hc0 hv)
    obtain ⟨n, hn⟩ : ∃ n, v.length = n := ⟨_, rfl⟩
    have HEACH := Aside0.mk (fun (W : World) (g c : Nat) (A : Option Addr) hG hO hB => mirror_Codes.each k g n c c1 A A1 v l1 r w W hG hO hr1 hn (hl.symm.trans hn) (by omega) hB h)
    have HN := Aside0.mk hn
    rw [← hl]
    rw [hn] at HCL ⊢
    clear hl hr0 hc0 hr1 hc1 h hv hmax hn
    go_enter Try.func33, Try.ntmps33
    go_wp2_with (first | (go_at_call 31; (with_reducible refine (HCL.out).mono ?_); rintro e w1 ⟨v1, rfl, ho1, hb1⟩; obtain ⟨A, c, rfl⟩ := Kd.R_slice ho1; rw [HN.out]; rw [HN.out] at ho1; have HO1 := Aside0.mk ho1; have HB1 := Aside0.mk hb1; clear ho1 hb1) | ((with_reducible refine gate_dst (N := 5) rfl ?_); refine box_event ?hg (N := 5) ?hd (cs := #[.slice none 0 0]) (t := 36) ?hr ?_; (case hd => rfl); (case hg => rfl); (case hr => first | (go_simp; done) | (go_simp; rfl)); intro g hg w2 hbox hb; have BX := Aside0.mk hbox; have HB2 := Aside0.mk hb; have HG0 := Aside0.mk (show w1.heap.size ≤ g by omega); have hc2 := (blk_cell hbox 0).trans rfl; have hf2 := blk_frozen hbox 0; clear hg hbox hb) | ((with_reducible refine gate_store (t := 36) (p := 5) rfl ?_); refine store_event (t := 36) (p := 5) (v := ?vo) (w1 := w2.setCell ⟨g, 0, none⟩ (.slice A n c)) ?hg ?ho ?hn ?hr ?_; (case ho => rfl); (case hg => rfl); (case hn => rfl); (case hr => first | (go_simp; done) | (go_simp; rfl)); intro w3 hw; have HG3 := Aside0.mk (show w3.heap[g]? = some (.cells #[.slice A n c] 36 (0, 0)) by rw [hw]; exact blk_put BX.out 0 _ rfl); have hb13 : Below w1.heap.size w1 w3 := (by rw [hw]; exact below_set HB2.out HG0.out); have HO3 := Aside0.mk (Kd.R_below HO1.out hb13); have HB3 := Aside0.mk (below_step HB1.out hb13); clear hb13 hw hc2 hf2; have hc2 := (blk_cell HG3.out 0).trans rfl) | (go_at_call 53; (with_reducible refine (HEACH.out _ g c A HG3.out HO3.out HB3.out).mono ?_); rintro e w4 ⟨rfl, hg4, ho4, hb4⟩; have HO4 := Aside0.mk ho4; have HB4 := Aside0.mk hb4; clear hc2; have hc2 := (blk_cell hg4 0).trans rfl; clear hg4 ho4 hb4))
    go_ret
    exact ⟨_, rfl, HO4.out, HB4.out⟩
  · rw [if_neg hl] at h
    obtain rfl := Option.some.inj h
    obtain ⟨n0, hn0⟩ : ∃ n, l0.length = n := ⟨_, rfl⟩
    obtain ⟨n1, hn1⟩ : ∃ n, l1.length = n := ⟨_, rfl⟩
    rw [hn0, hn1] at hl ⊢
    have e1 : ((n0 : Int) == (n1 : Int)) = false := beq_eq_false_iff_ne.mpr (by omega)
    have e2 : (n0 == n1) = false := beq_eq_false_iff_ne.mpr hl
    have e3 : ((n0 : Int) != (n1 : Int)) = true := bne_iff_ne.mpr (by omega)
    have e4 : (n0 != n1) = true := bne_iff_ne.mpr hl
    clear hl hr0 hc0 hr1 hc1 hn0 hn1
    go_enter Try.func33, Try.ntmps33
    go_wp2
    go_ret
    exact ⟨_, rfl, Kd.R_nil _ _ _ _ _, Below.refl _ _⟩

-- NOT PRINTED: function 55 (mirror_Count_1)

end Go.Proofs.Ytljcohjafcjgdaa.PMirrorBack
