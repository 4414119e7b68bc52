-- PRINTED by print.py (a twelfth state) out of the translation. Not trusted: Lean checks it.
import Derived.Test.YtljcohjafcjgdaaPPairsBackx0
namespace Go.Proofs.Ytljcohjafcjgdaa.PPairsBack
open Go.RowKit Go.Proofs.YtljcohjafcjgdaaM Go.Proofs.YtljcohjafcjgdaaW.PrintWords Go.Proofs.YtljcohjafcjgdaaW.PrintLast Go.Proofs.YtljcohjafcjgdaaW.PrintMore
attribute [local go_sem] max2_int min2_int max_two min_two max_three min_three max_four min_four   -- for this text's walks alone
set_option linter.unusedVariables false
set_option linter.unusedSimpArgs false

-- NOT PRINTED: function 62 (pairs_list_find_1)

-- NOT PRINTED: function 61 (sort_Search)

/-! ### pairs_list_find: function 47 -/
/-- How many pairs stand ahead of a first one. -/
def pairs_list_find.cnt (l0 : List S66) (a1 : Int) : Nat := l0.countP (fun x => decide (x.f0 < a1))
/-- The pair with a first one, in a list that rises. -/
def pairs_list_find.f (_k : Nat) (l0 : List S66) (a1 : Int) : Option (Int × Int × Bool) := if l0.length ≤ 1000000 ∧ l0.Pairwise (fun x y => x.f0 ≤ y.f0) then (if pairs_list_find.cnt l0 a1 = l0.length then some (0, 0, false) else if (rd_T66 l0 (pairs_list_find.cnt l0 a1 : Int)).f0 = a1 then some ((rd_T66 l0 (pairs_list_find.cnt l0 a1 : Int)).f0, (rd_T66 l0 (pairs_list_find.cnt l0 a1 : Int)).f1, true) else some (0, 0, false)) else none
theorem pairs_list_find.mono : ∀ a0 a1 k, LeO (pairs_list_find.f k a0 a1) (pairs_list_find.f (k + 1) a0 a1) := fun _ _ _ => LeO.refl _
set_option maxHeartbeats 4000000 in
theorem pairs_list_find.closure (ba bx : Nat) (A : Option Addr) (c : Nat) (l : List S66) (x : Int) (i n : Nat) (hn : n = l.length) (W : World) (hi : i < l.length) (ha : W.cell? ⟨ba, 0, none⟩ = some (.slice A n c)) (hx : W.cell? ⟨bx, 0, none⟩ = some (.int .i64 x)) (hC : Kd.C k66 W A l.length l) :
    Calls Try.prog 62 (#[.int .i64 i] ++ #[.pointer (some ⟨ba, 0, none⟩), .pointer (some ⟨bx, 0, none⟩)]) W fun e w' => e = .returned (.bool (decide (x ≤ (rd_T66 l (i : Int)).f0))) ∧ ∃ q, w' = W.drewN q := by
  obtain ⟨ad, e, h0, h1⟩ := at_T66 hC (i : Int) (by omega) (by omega)
  subst e
  obtain ⟨y, hy⟩ : ∃ y, (rd_T66 l (i : Int)).f0 = y := ⟨_, rfl⟩
  rw [hy] at h0 ⊢
  rw [Int.toNat_natCast] at h0
  have p0 : ((0 : Int) ≤ (i : Int)) = True := eq_true (by omega)
  have p1 : ((i : Int) < (n : Int)) = True := eq_true (by omega)
  have d1 : decide (i < n) = true := decide_eq_true (by omega)
  have p2 : (i < n) = True := eq_true (by omega)
  clear hy h1 hC hi hn
  go_enter Try.func62, Try.ntmps62
  go_wp2
  go_quiet (fail)
  go_wp2
  go_ret
  exact ⟨by first | rfl | simp, _, rfl⟩
set_option maxHeartbeats 4000000 in
theorem pairs_list_find.search (A0 : Option Addr) (c0 : Nat) (l0 : List S66) (a1 : Int) (w : World) (hr0 : Kd.C k66 w A0 l0.length l0) (hs : l0.Pairwise (fun x y => x.f0 ≤ y.f0)) (hmax : l0.length ≤ 1000000) (n : Nat) (hn : n = l0.length) (W : World) (ba bx : Nat)
    (ha : W.cell? ⟨ba, 0, none⟩ = some (.slice A0 n c0)) (hx : W.cell? ⟨bx, 0, none⟩ = some (.int .i64 a1)) (hb : Below w.heap.size w W) :
    Calls Try.prog 61 #[.int .i64 n, .func (.func 62) #[] #[.pointer (some ⟨ba, 0, none⟩), .pointer (some ⟨bx, 0, none⟩)]] W fun e w' => e = .returned (.int .i64 (pairs_list_find.cnt l0 a1 : Int)) ∧ Below W.heap.size W w' := by
  letI : Inhabited S66 := ⟨z66⟩
  have eg : ∀ args w, (callFunc 62 args).run Try.prog w = .ok (.enter 62 args) w := enters_of Try.func62 (by kernel_rfl) rfl
  have hrd : ∀ i : Nat, rd_T66 l0 (i : Int) = l0.toArray[i]! := fun i => by
    unfold rd_T66
    rw [Int.toNat_natCast, List.getElem!_toArray, List.getElem!_eq_getElem?_getD, List.getD_eq_getElem?_getD]
    rfl
  have hS := Any.sort_Search Try.laySearch 62 #[.pointer (some ⟨ba, 0, none⟩), .pointer (some ⟨bx, 0, none⟩)] l0.toArray.size (fun i => decide (a1 ≤ (l0.toArray[i]!).f0)) W eg (by simp; omega)
    (fun m os i hi => (pairs_list_find.closure ba bx A0 c0 l0 a1 i n hn _ (by simpa using hi) (cell_grown (World.block_lt_of_cell? W _ ha) ha m os) (cell_grown (World.block_lt_of_cell? W _ hx) hx m os) (Kd.C_below hr0 (below_then hb hb.size (below_grown_sl W.heap.size W m os (Nat.le_refl _))))).mono
      fun _ _ ⟨he, q, hq⟩ => ⟨by rw [he, hrd], q, #[], by rw [hq, Go.Sort.grow_empty]⟩)
    (fun a b hab hb2 h => by
      have ha2 : a < l0.length := by simp at hb2; omega
      have hb3 : b < l0.length := by simpa using hb2
      simp only [decide_eq_true_eq] at h ⊢
      rcases Nat.lt_or_ge a b with hlt | hge
      · have := List.pairwise_iff_getElem.1 hs a b ha2 hb3 hlt
        have e1 : l0.toArray[a]! = l0[a] := by simp [ha2]
        have e2 : l0.toArray[b]! = l0[b] := by simp [hb3]
        rw [e1] at h
        rw [e2]
        omega
      · obtain rfl : a = b := by omega
        exact h)
  rw [Lib.countP_range l0.toArray (fun y => !decide (a1 ≤ y.f0))] at hS
  have hcnt : l0.toArray.toList.countP (fun y => !decide (a1 ≤ y.f0)) = pairs_list_find.cnt l0 a1 := by
    unfold pairs_list_find.cnt
    congr 1
    funext y
    rw [Bool.eq_iff_iff]
    simp
  rw [hcnt] at hS
  change Calls Try.prog 61 _ _ _ at hS
  have hsz : l0.toArray.size = n := by simp [hn]
  rw [hsz] at hS
  refine hS.mono ?_
  rintro e w' ⟨rfl, q, os, rfl⟩
  exact ⟨rfl, below_grown_sl W.heap.size W q os (Nat.le_refl _)⟩
theorem pairs_list_find.cnt_le (l0 : List S66) (a1 : Int) : pairs_list_find.cnt l0 a1 ≤ l0.length := List.countP_le_length
set_option maxHeartbeats 4000000 in
set_option maxRecDepth 100000 in
theorem pairs_list_find.calls (k : Nat) (A0 : Option Addr) (c0 : Nat) (l0 : List (S66)) (a1 : Int) (r1 : Int) (r2 : Int) (r3 : Bool) (w : World) (hr0 : Kd.C k66 w A0 l0.length l0) (hc0 : l0.length ≤ c0) (h : pairs_list_find.f k l0 a1 = some (r1, r2, r3)) :
    Calls Try.prog 47 #[.slice A0 l0.length c0, .int .i64 a1] w fun e w' => e = .returned (.tuple #[.agg #[.int .i64 r1, .int .i64 r2], .bool r3]) ∧ Below w.heap.size w w' := by
  have hu66 := Try.underlying66
  unfold pairs_list_find.f at h
  by_cases hg : l0.length ≤ 1000000 ∧ l0.Pairwise (fun x y => x.f0 ≤ y.f0)
  case neg => rw [if_neg hg] at h; cases h
  rw [if_pos hg] at h
  have hcl := pairs_list_find.cnt_le l0 a1
  obtain ⟨n, hn⟩ : ∃ n, l0.length = n := ⟨_, rfl⟩
  have HS := Aside0.mk (pairs_list_find.search A0 c0 l0 a1 w hr0 hg.2 hg.1 n hn.symm)
  have HR := Aside0.mk hr0
  have HN := Aside0.mk hn
  obtain ⟨m, hm⟩ : ∃ m, pairs_list_find.cnt l0 a1 = m := ⟨_, rfl⟩
  rw [hm] at HS h hcl
  have HB0 := Aside0.mk (Below.refl w.heap.size w)
  rw [hn] at hcl h ⊢
  clear hg hc0 hr0 hm hn
  -- what the last region writes
  by_cases he : m = n
  · subst he
    rw [if_pos rfl] at h
    simp only [Option.some.injEq, Prod.mk.injEq] at h
    obtain ⟨rfl, rfl, rfl⟩ := h
    clear hcl
    go_enter Try.func47, Try.ntmps47
    go_wp2_with (first | ((with_reducible refine gate_dst (N := 2) rfl ?_); refine box_event ?hg (N := 2) ?hd (cs := #[.slice A0 m c0]) (t := 63) ?hr ?_; (case hd => rfl); (case hg => rfl); (case hr => first | (go_simp; done) | (go_simp; rfl)); intro g2 hg w1 hbox hb; have BK2 := Aside0.mk hbox; have HB1 := Aside0.mk hb; clear hg hbox hb) | ((with_reducible refine gate_dst (N := 3) rfl ?_); refine box_event ?hg (N := 3) ?hd (cs := #[.int .i64 a1]) (t := 3) ?hr ?_; (case hd => rfl); (case hg => rfl); (case hr => first | (go_simp; done) | (go_simp; rfl)); intro g3 hg w2 hbox hb; have BK3 := Aside0.mk hbox; have HB2 := Aside0.mk hb; clear hg hbox hb) | ((with_reducible refine gate_dst (N := 4) rfl ?_); refine box_event ?hg (N := 4) ?hd (cs := #[.int .i64 0, .int .i64 0]) (t := 66) ?hr ?_; (case hd => rfl); (case hg => rfl); (case hr => first | (go_simp; done) | (go_simp; rfl)); intro g4 hg w3 hbox hb; have BK4 := Aside0.mk hbox; have HB3 := Aside0.mk hb; have HG4 := Aside0.mk (show w.heap.size ≤ g4 by have h1 := HB1.out.size; have h2 := HB2.out.size; omega); have hc2 := (blk_cell (blk_below (blk_below BK2.out HB2.out) HB3.out) 0).trans rfl; have hc3 := (blk_cell (blk_below BK3.out HB3.out) 0).trans rfl; clear hg hbox hb) | (go_at_call 61; (with_reducible refine (HS.out _ g2 g3 hc2 hc3 (below_step (below_step (below_step HB0.out HB1.out) HB2.out) HB3.out)).mono ?_); rintro e w5 ⟨rfl, hb5⟩; have HB5 := Aside0.mk hb5; clear hb5 hc2 hc3; have hc2 := (blk_cell (blk_below (blk_below (blk_below BK2.out HB2.out) HB3.out) HB5.out) 0).trans rfl; have hc3 := (blk_cell (blk_below (blk_below BK3.out HB3.out) HB5.out) 0).trans rfl))
    clear HS HR HN
    have BK := Aside0.mk (blk_below (blk_below BK4.out HB5.out) (Below.refl _ _))
    have HB := Aside0.mk (below_step (below_step (below_step (below_step HB0.out HB1.out) HB2.out) HB3.out) HB5.out)
    clear BK2 BK3 BK4 HB0 HB1 HB2 HB3 HB5
    go_quiet (fail)
    have hc40 := (blk_cell (blk_drewN BK.out nq) 0).trans rfl
    have hc41 := (blk_cell (blk_drewN BK.out nq) 1).trans rfl
    have hf40 := blk_frozen (blk_drewN BK.out nq) 0
    have hf41 := blk_frozen (blk_drewN BK.out nq) 1
    go_wp2
    refine bodyPost_ret (results_ct rfl _ _ g4 66 #[.int .i64 0, .int .i64 0] (0, 0) _ rfl (by refine blk_put (cs := #[.int .i64 0, .int .i64 0]) ?_ 1 _ rfl; refine blk_put (cs := #[.int .i64 0, .int .i64 0]) ?_ 0 _ rfl; exact blk_drewN BK.out nq) Try.underlying66 rfl (by kernel_rfl)) rfl ?_
    exact ⟨by first | rfl | simp, by refine below_set (below_set (pw_below_drewN HB.out nq) HG4.out) HG4.out⟩
  · rw [if_neg he] at h
    have HM := Aside0.mk (show m < n by omega)
    clear he hcl
    go_enter Try.func47, Try.ntmps47
    go_wp2_with (first | ((with_reducible refine gate_dst (N := 2) rfl ?_); refine box_event ?hg (N := 2) ?hd (cs := #[.slice A0 n c0]) (t := 63) ?hr ?_; (case hd => rfl); (case hg => rfl); (case hr => first | (go_simp; done) | (go_simp; rfl)); intro g2 hg w1 hbox hb; have BK2 := Aside0.mk hbox; have HB1 := Aside0.mk hb; clear hg hbox hb) | ((with_reducible refine gate_dst (N := 3) rfl ?_); refine box_event ?hg (N := 3) ?hd (cs := #[.int .i64 a1]) (t := 3) ?hr ?_; (case hd => rfl); (case hg => rfl); (case hr => first | (go_simp; done) | (go_simp; rfl)); intro g3 hg w2 hbox hb; have BK3 := Aside0.mk hbox; have HB2 := Aside0.mk hb; clear hg hbox hb) | ((with_reducible refine gate_dst (N := 4) rfl ?_); refine box_event ?hg (N := 4) ?hd (cs := #[.int .i64 0, .int .i64 0]) (t := 66) ?hr ?_; (case hd => rfl); (case hg => rfl); (case hr => first | (go_simp; done) | (go_simp; rfl)); intro g4 hg w3 hbox hb; have BK4 := Aside0.mk hbox; have HB3 := Aside0.mk hb; have HG4 := Aside0.mk (show w.heap.size ≤ g4 by have h1 := HB1.out.size; have h2 := HB2.out.size; omega); have hc2 := (blk_cell (blk_below (blk_below BK2.out HB2.out) HB3.out) 0).trans rfl; have hc3 := (blk_cell (blk_below BK3.out HB3.out) 0).trans rfl; clear hg hbox hb) | (go_at_call 61; (with_reducible refine (HS.out _ g2 g3 hc2 hc3 (below_step (below_step (below_step HB0.out HB1.out) HB2.out) HB3.out)).mono ?_); rintro e w5 ⟨rfl, hb5⟩; have HB5 := Aside0.mk hb5; clear hb5 hc2 hc3; have hc2 := (blk_cell (blk_below (blk_below (blk_below BK2.out HB2.out) HB3.out) HB5.out) 0).trans rfl; have hc3 := (blk_cell (blk_below (blk_below BK3.out HB3.out) HB5.out) 0).trans rfl))
    clear HS
    have BK := Aside0.mk (blk_below (blk_below BK4.out HB5.out) (Below.refl _ _))
    have HB := Aside0.mk (below_step (below_step (below_step (below_step HB0.out HB1.out) HB2.out) HB3.out) HB5.out)
    clear BK2 BK3 BK4 HB0 HB1 HB2 HB3 HB5
    have hC := Kd.C_below HR.out HB.out
    obtain ⟨ad, e, hx0, hx1⟩ := at_T66 hC (m : Int) (by omega) (by have := HN.out; have := HM.out; omega)
    subst e
    obtain ⟨y0, hy0⟩ : ∃ y, (rd_T66 l0 (m : Int)).f0 = y := ⟨_, rfl⟩
    obtain ⟨y1, hy1⟩ : ∃ y, (rd_T66 l0 (m : Int)).f1 = y := ⟨_, rfl⟩
    rw [hy0] at hx0
    rw [hy1] at hx1
    rw [Int.toNat_natCast] at hx0 hx1
    rw [hy0, hy1] at h
    have p0 : ((0 : Int) ≤ (m : Int)) = True := eq_true (by omega)
    have p1 : ((m : Int) < (n : Int)) = True := eq_true (by have := HM.out; omega)
    have p2 : (m < n) = True := eq_true HM.out
    have d1 : decide (m < n) = true := decide_eq_true HM.out
    have d2 : decide ((m : Int) < (n : Int)) = true := decide_eq_true (by have := HM.out; omega)
    have e1 : ((m : Int) == (n : Int)) = false := beq_eq_false_iff_ne.mpr (by have := HM.out; omega)
    have e2 : (m == n) = false := beq_eq_false_iff_ne.mpr (by have := HM.out; omega)
    clear hC hy0 hy1
    by_cases hq : y0 = a1
    · rw [if_pos hq] at h
      subst hq
      simp only [Option.some.injEq, Prod.mk.injEq] at h
      obtain ⟨rfl, rfl, rfl⟩ := h
      go_quiet (fail)
      have hc40 := (blk_cell (blk_drewN BK.out nq) 0).trans rfl
      have hc41 := (blk_cell (blk_drewN BK.out nq) 1).trans rfl
      have hf40 := blk_frozen (blk_drewN BK.out nq) 0
      have hf41 := blk_frozen (blk_drewN BK.out nq) 1
      go_wp2
      refine bodyPost_ret (results_ct rfl _ _ g4 66 #[.int .i64 y0, .int .i64 y1] (0, 0) _ rfl (by refine blk_put (cs := #[.int .i64 y0, .int .i64 0]) ?_ 1 _ rfl; refine blk_put (cs := #[.int .i64 0, .int .i64 0]) ?_ 0 _ rfl; exact blk_drewN BK.out nq) Try.underlying66 rfl (by kernel_rfl)) rfl ?_
      exact ⟨by first | rfl | simp, by refine below_set (below_set (pw_below_drewN HB.out nq) HG4.out) HG4.out⟩
    · rw [if_neg hq] at h
      have e3 : (y0 == a1) = false := beq_eq_false_iff_ne.mpr hq
      have e4 : (y0 != a1) = true := bne_iff_ne.mpr hq
      simp only [Option.some.injEq, Prod.mk.injEq] at h
      obtain ⟨rfl, rfl, rfl⟩ := h
      clear hq
      go_quiet (fail)
      have hc40 := (blk_cell (blk_drewN BK.out nq) 0).trans rfl
      have hc41 := (blk_cell (blk_drewN BK.out nq) 1).trans rfl
      have hf40 := blk_frozen (blk_drewN BK.out nq) 0
      have hf41 := blk_frozen (blk_drewN BK.out nq) 1
      go_wp2
      refine bodyPost_ret (results_ct rfl _ _ g4 66 #[.int .i64 0, .int .i64 0] (0, 0) _ rfl (by refine blk_put (cs := #[.int .i64 0, .int .i64 0]) ?_ 1 _ rfl; refine blk_put (cs := #[.int .i64 0, .int .i64 0]) ?_ 0 _ rfl; exact blk_drewN BK.out nq) Try.underlying66 rfl (by kernel_rfl)) rfl ?_
      exact ⟨by first | rfl | simp, by refine below_set (below_set (pw_below_drewN HB.out nq) HG4.out) HG4.out⟩

/-! ### api_Alike: function 50 -/
def api_Alike.f  : Option ((List (S66))) := some (([(⟨9001, 12296⟩ : S66), (⟨9002, 12297⟩ : S66)] : List (S66)))
set_option maxHeartbeats 8000000 in
set_option maxRecDepth 100000 in
theorem api_Alike.calls  (r : List (S66)) (w : World) (h : api_Alike.f  = some r) :
    Calls Try.prog 50 #[] w fun e w' => ∃ v0_ : Value, e = .returned (v0_) ∧ Kd.R k66 66 w' w.heap.size (fun _ => True) v0_ r ∧ Below w.heap.size w w' := by
  have hu66 := Try.underlying66
  have HB := Aside0.mk (Below.refl w.heap.size w)
  have H : (some (([(⟨9001, 12296⟩ : S66), (⟨9002, 12297⟩ : S66)] : List (S66)))) = some r := h
  clear h
  obtain ⟨y104, hy104⟩ : ∃ y_ : List (S66), y_ = (([(⟨9001, 12296⟩ : S66), (⟨9002, 12297⟩ : S66)] : List (S66))) := ⟨_, rfl⟩
  replace H : (some y104) = some r := by first | (rw [hy104]; with_reducible exact H) | (have H2_ := (Option.bind_some _ _).symm.trans H; rw [hy104]; with_reducible exact H2_) | (have H2_ := (Option.bind_some _ _).symm.trans H; with_reducible exact H2_) | with_reducible exact H | (rw [hy104]; exact H) | exact H
  have Ny104 := Aside0.mk hy104
  clear hy104
  obtain rfl := Option.some.inj H
  go_enter Try.func50, Try.ntmps50
  go_wp2_with (first | ((with_reducible refine gate_dst (N := 3) rfl ?_); refine Kd.R_lit k66 _ 66 ?hg (N := 3) ?hd (xs := ([(⟨9001, 12296⟩ : S66), (⟨9002, 12297⟩ : S66)] : List (S66))) (inner := [.int .i64 9001, .int .i64 12296, .int .i64 9002, .int .i64 12297]) (ok := fun _ => True) (okp := fun _ => True) ?hr ?hp (fun _ hk => hk) trivial (Below.refl _ _) (Nat.le_refl _) (by simp) ?_; (case hd => rfl); (case hg => rfl); (case hr => first | (go_simp; done) | (go_simp; rfl)); (case hp => exact (Reps.c2 (show Kd.M k66 _ _ _ (⟨9001, 12296⟩ : S66) [.int .i64 9001, .int .i64 12296] from (k66_mkM _ _ _ (⟨9001, 12296⟩ : S66) )) (Reps.c2 (show Kd.M k66 _ _ _ (⟨9002, 12297⟩ : S66) [.int .i64 9002, .int .i64 12297] from (k66_mkM _ _ _ (⟨9002, 12297⟩ : S66) )) (Reps.none _ _)))); intro v105 w1 ho2 hb hg_ hnew_; clear hg_ hnew_; (first | rw [← Ny104.out] at ho2 | (simp only [Int.reduceToNat] at ho2; rw [← Ny104.out] at ho2)); have n0_ := Aside0.mk (Kd.R_lower ho2 (below_size (by repeat (first | (with_reducible first | exact HB.out | apply below_alloc | apply pw_below_drewN | apply below_drew1) | exact HB.out)))); have n1_ := Aside0.mk (below_step (by repeat (first | (with_reducible first | exact HB.out | apply below_alloc | apply pw_below_drewN | apply below_drew1) | exact HB.out)) hb); clear HB; have HO106 := n0_; have HB := n1_; clear n0_ n1_; clear hb ho2))
  go_ret
  exact ⟨_, by first | rfl | (simp [errW_none, errW_some] <;> rfl) | (simp [*, errW_none, errW_some] <;> rfl), by (with_reducible repeat (first | apply Kd.R_alloc | apply Kd.R_drewN | apply Kd.R_drew)); exact HO106.out, by repeat (first | (with_reducible first | exact HB.out | apply below_alloc | apply pw_below_drewN | apply below_drew1) | exact HB.out)⟩

/-! ### pairs_Canon: function 21 -/
def pairs_Canon.f (k : Nat) (a0 : Int) : Option (Int) := (api_Alike.f).bind fun t107 => ((pairs_list_find.f k t107 a0).bind fun bt110 => (if bt110.2.2 = true then (some bt110.2.1) else (some a0)))
theorem pairs_Canon.mono : ∀ a0 k, LeO (pairs_Canon.f k a0) (pairs_Canon.f (k + 1) a0) := by
  intro a0 k
  unfold pairs_Canon.f
  repeat' first
      | (with_reducible exact pairs_list_find.mono _ _ _)
      | (with_reducible exact LeO.refl _)
      | (with_reducible exact LeO.none _)
      | (with_reducible refine LeO.ite ?_ ?_)
      | (with_reducible refine LeO.bind ?_ (fun _ => ?_))
      | exact pairs_list_find.mono _ _ _
      | exact LeO.none _
      | refine LeO.ite ?_ ?_
      | refine LeO.bind ?_ (fun _ => ?_)
set_option maxHeartbeats 8000000 in
set_option maxRecDepth 100000 in
theorem pairs_Canon.calls (k : Nat) (a0 : Int) (r : Int) (w : World) (h : pairs_Canon.f k a0 = some r) :
    Calls Try.prog 21 #[.int .i64 a0] w fun e w' => e = .returned (.int .i64 r) ∧ Below w.heap.size w w' := by
  have hu66 := Try.underlying66
  have HB := Aside0.mk (Below.refl w.heap.size w)
  have H : ((api_Alike.f).bind fun t107 => ((pairs_list_find.f k t107 a0).bind fun bt110 => (if bt110.2.2 = true then (some bt110.2.1) else (some a0)))) = some r := h
  clear h
  replace H := Option.bind_eq_some_iff.mp H
  obtain ⟨t107, A20, H⟩ := H
  replace H : ((pairs_list_find.f k t107 a0).bind fun bt110 => (if bt110.2.2 = true then (some bt110.2.1) else (some a0))) = some r := H
  have A2 := Aside0.mk A20
  clear A20
  replace H := Option.bind_eq_some_iff.mp H
  obtain ⟨⟨t110, t111, t112⟩, A30, H⟩ := H
  replace H : (if t112 = true then (some t111) else (some a0)) = some r := H
  have A3 := Aside0.mk A30
  clear A30
  by_cases c4 : t112 = true
  · subst c4
    have H1 : (some t111) = some r := by rw [if_pos rfl] at H; exact H
    clear H
    have H := H1
    clear H1
    obtain rfl := Option.some.inj H
    go_enter Try.func21, Try.ntmps21
    go_wp2_with (first | ((with_reducible refine gate_callee (f := 50) rfl ?_); refine goesL_ (some 6) rfl rfl Try.func50 (by kernel_rfl) rfl #[] rfl (by (try simp only [List.map_toArray, List.map_cons, List.map_nil]); first | done | rfl | (simp only [List.length_drop, List.length_take]; rfl)) ?_; (with_reducible refine (api_Alike.calls  t107 _ A2.out).mono ?_); rintro e w5 ⟨v108, rfl, ho0, hb⟩; refine ⟨_, rfl, ?_⟩; have n0_ := Aside0.mk (Kd.R_lower ho0 (below_size (by repeat (first | (with_reducible first | exact HB.out | apply below_alloc | apply pw_below_drewN | apply below_drew1) | exact HB.out)))); have n1_ := Aside0.mk (below_step (by repeat (first | (with_reducible first | exact HB.out | apply below_alloc | apply pw_below_drewN | apply below_drew1) | exact HB.out)) hb); clear HB; have HO109 := n0_; have HB := n1_; clear n0_ n1_; (try clear hb); (try clear hb2); (try clear hk); (try clear hi); (try clear ho0); obtain ⟨Ao6, co6, eo6⟩ := Kd.R_slice HO109.out; subst eo6) | ((with_reducible refine gate_callee (f := 47) rfl ?_); refine goesL_ (some 8) rfl rfl Try.func47 (by kernel_rfl) rfl #[.slice Ao6 t107.length co6, .int .i64 a0] rfl (by (try simp only [List.map_toArray, List.map_cons, List.map_nil]); first | done | rfl | (simp only [List.length_drop, List.length_take]; rfl)) ?_; (with_reducible refine (pairs_list_find.calls k _ _ t107 a0 t110 t111 true _ ?side1 ?side2 A3.out).mono ?_); (case side1 => repeat (first | exact (Kd.R_reads' HO109.out).2.2 | (with_reducible refine Kd.C_alloc ?_ _) | (with_reducible refine Kd.C_drewN ?_ _) | (with_reducible refine Kd.C_drew ?_))); (case side2 => exact (Kd.R_reads' HO109.out).2.1); rintro e w7 ⟨rfl, hb⟩; refine ⟨_, rfl, ?_⟩; have n0_ := Aside0.mk (Kd.R_below (by (with_reducible repeat (first | apply Kd.R_alloc | apply Kd.R_drewN | apply Kd.R_drew)); exact HO109.out) hb); have n1_ := Aside0.mk (below_step (by repeat (first | (with_reducible first | exact HB.out | apply below_alloc | apply pw_below_drewN | apply below_drew1) | exact HB.out)) hb); clear HO109; clear HB; have HO109 := n0_; have HB := n1_; clear n0_ n1_; (try clear hb); (try clear hb2); (try clear hk); (try clear hi)) | ((with_reducible refine gate_dst (N := 3) rfl ?_); refine box_event ?hg (N := 3) ?hd (cs := #[.int .i64 0, .int .i64 0]) (t := 66) ?hr ?_; (case hd => rfl); (case hg => rfl); (case hr => first | (go_simp; done) | (go_simp; rfl)); intro gb113 hg w8 hbox hb; have n0_ := Aside0.mk (Kd.R_below (Kd.R_elderB (by (with_reducible repeat (first | apply Kd.R_alloc | apply Kd.R_drewN | apply Kd.R_drew)); exact HO109.out) gb113 (Nat.le_of_eq hg.symm)) hb); have n1_ := Aside0.mk (below_step (by repeat (first | (with_reducible first | exact HB.out | apply below_alloc | apply pw_below_drewN | apply below_drew1) | exact HB.out)) hb); have n2_ := Aside0.mk (hbox); have n3_ := Aside0.mk ((by rw [hg]; exact (below_size (by repeat (first | (with_reducible first | exact HB.out | apply below_alloc | apply pw_below_drewN | apply below_drew1) | exact HB.out))) : w.heap.size ≤ gb113)); have n4_ := Aside0.mk ((by rw [hg]; exact (below_size (by repeat (first | (with_reducible first | exact HB.out | apply below_alloc | apply pw_below_drewN | apply below_drew1) | exact HB.out))) : w.heap.size ≤ gb113)); clear HO109; clear HB; have HO109 := n0_; have HB := n1_; have BK113 := n2_; have GW113 := n3_; have GE113 := n4_; clear n0_ n1_ n2_ n3_ n4_; clear hb hbox hg; have hcz9_0 : w8.cell? ⟨gb113, 0, none⟩ = some (.int .i64 0) := (blk_cell BK113.out 0).trans rfl; have hcz9_1 : w8.cell? ⟨gb113, 1, none⟩ = some (.int .i64 0) := (blk_cell BK113.out 1).trans rfl; have hfz9_0 := blk_frozen BK113.out 0; have hfz9_1 := blk_frozen BK113.out 1))
    go_ret
    exact ⟨by first | rfl | (simp [errW_none, errW_some] <;> rfl) | (simp [*, errW_none, errW_some] <;> rfl), by repeat (first | (with_reducible first | exact HB.out | apply below_alloc | apply pw_below_drewN | apply below_drew1 | refine below_set ?_ GE113.out) | exact HB.out)⟩
  · replace c4 := Bool.eq_false_iff.mpr c4
    subst c4
    have H1 : (some a0) = some r := by rw [if_neg (show ¬ (false = true) by decide)] at H; exact H
    clear H
    have H := H1
    clear H1
    obtain rfl := Option.some.inj H
    go_enter Try.func21, Try.ntmps21
    go_wp2_with (first | ((with_reducible refine gate_callee (f := 50) rfl ?_); refine goesL_ (some 6) rfl rfl Try.func50 (by kernel_rfl) rfl #[] rfl (by (try simp only [List.map_toArray, List.map_cons, List.map_nil]); first | done | rfl | (simp only [List.length_drop, List.length_take]; rfl)) ?_; (with_reducible refine (api_Alike.calls  t107 _ A2.out).mono ?_); rintro e w10 ⟨v108, rfl, ho0, hb⟩; refine ⟨_, rfl, ?_⟩; have n0_ := Aside0.mk (Kd.R_lower ho0 (below_size (by repeat (first | (with_reducible first | exact HB.out | apply below_alloc | apply pw_below_drewN | apply below_drew1) | exact HB.out)))); have n1_ := Aside0.mk (below_step (by repeat (first | (with_reducible first | exact HB.out | apply below_alloc | apply pw_below_drewN | apply below_drew1) | exact HB.out)) hb); clear HB; have HO109 := n0_; have HB := n1_; clear n0_ n1_; (try clear hb); (try clear hb2); (try clear hk); (try clear hi); (try clear ho0); obtain ⟨Ao11, co11, eo11⟩ := Kd.R_slice HO109.out; subst eo11) | ((with_reducible refine gate_callee (f := 47) rfl ?_); refine goesL_ (some 8) rfl rfl Try.func47 (by kernel_rfl) rfl #[.slice Ao11 t107.length co11, .int .i64 a0] rfl (by (try simp only [List.map_toArray, List.map_cons, List.map_nil]); first | done | rfl | (simp only [List.length_drop, List.length_take]; rfl)) ?_; (with_reducible refine (pairs_list_find.calls k _ _ t107 a0 t110 t111 false _ ?side1 ?side2 A3.out).mono ?_); (case side1 => repeat (first | exact (Kd.R_reads' HO109.out).2.2 | (with_reducible refine Kd.C_alloc ?_ _) | (with_reducible refine Kd.C_drewN ?_ _) | (with_reducible refine Kd.C_drew ?_))); (case side2 => exact (Kd.R_reads' HO109.out).2.1); rintro e w12 ⟨rfl, hb⟩; refine ⟨_, rfl, ?_⟩; have n0_ := Aside0.mk (Kd.R_below (by (with_reducible repeat (first | apply Kd.R_alloc | apply Kd.R_drewN | apply Kd.R_drew)); exact HO109.out) hb); have n1_ := Aside0.mk (below_step (by repeat (first | (with_reducible first | exact HB.out | apply below_alloc | apply pw_below_drewN | apply below_drew1) | exact HB.out)) hb); clear HO109; clear HB; have HO109 := n0_; have HB := n1_; clear n0_ n1_; (try clear hb); (try clear hb2); (try clear hk); (try clear hi)) | ((with_reducible refine gate_dst (N := 3) rfl ?_); refine box_event ?hg (N := 3) ?hd (cs := #[.int .i64 0, .int .i64 0]) (t := 66) ?hr ?_; (case hd => rfl); (case hg => rfl); (case hr => first | (go_simp; done) | (go_simp; rfl)); intro gb113 hg w13 hbox hb; have n0_ := Aside0.mk (Kd.R_below (Kd.R_elderB (by (with_reducible repeat (first | apply Kd.R_alloc | apply Kd.R_drewN | apply Kd.R_drew)); exact HO109.out) gb113 (Nat.le_of_eq hg.symm)) hb); have n1_ := Aside0.mk (below_step (by repeat (first | (with_reducible first | exact HB.out | apply below_alloc | apply pw_below_drewN | apply below_drew1) | exact HB.out)) hb); have n2_ := Aside0.mk (hbox); have n3_ := Aside0.mk ((by rw [hg]; exact (below_size (by repeat (first | (with_reducible first | exact HB.out | apply below_alloc | apply pw_below_drewN | apply below_drew1) | exact HB.out))) : w.heap.size ≤ gb113)); have n4_ := Aside0.mk ((by rw [hg]; exact (below_size (by repeat (first | (with_reducible first | exact HB.out | apply below_alloc | apply pw_below_drewN | apply below_drew1) | exact HB.out))) : w.heap.size ≤ gb113)); clear HO109; clear HB; have HO109 := n0_; have HB := n1_; have BK113 := n2_; have GW113 := n3_; have GE113 := n4_; clear n0_ n1_ n2_ n3_ n4_; clear hb hbox hg; have hcz14_0 : w13.cell? ⟨gb113, 0, none⟩ = some (.int .i64 0) := (blk_cell BK113.out 0).trans rfl; have hcz14_1 : w13.cell? ⟨gb113, 1, none⟩ = some (.int .i64 0) := (blk_cell BK113.out 1).trans rfl; have hfz14_0 := blk_frozen BK113.out 0; have hfz14_1 := blk_frozen BK113.out 1))
    go_ret
    exact ⟨by first | rfl | (simp [errW_none, errW_some] <;> rfl) | (simp [*, errW_none, errW_some] <;> rfl), by repeat (first | (with_reducible first | exact HB.out | apply below_alloc | apply pw_below_drewN | apply below_drew1 | refine below_set ?_ GE113.out) | exact HB.out)⟩

/-! ### api_Brackets: function 46 -/
def api_Brackets.f  : Option ((List (S66))) := some (([(⟨40, 41⟩ : S66), (⟨91, 93⟩ : S66), (⟨123, 125⟩ : S66), (⟨3898, 3899⟩ : S66), (⟨8261, 8262⟩ : S66), (⟨8317, 8318⟩ : S66), (⟨8333, 8334⟩ : S66), (⟨9001, 9002⟩ : S66), (⟨10088, 10089⟩ : S66), (⟨10090, 10091⟩ : S66), (⟨10092, 10093⟩ : S66), (⟨10094, 10095⟩ : S66), (⟨10096, 10097⟩ : S66), (⟨10098, 10099⟩ : S66), (⟨10100, 10101⟩ : S66), (⟨10214, 10215⟩ : S66), (⟨10216, 10217⟩ : S66), (⟨10218, 10219⟩ : S66), (⟨10220, 10221⟩ : S66), (⟨10222, 10223⟩ : S66), (⟨10627, 10628⟩ : S66), (⟨10629, 10630⟩ : S66), (⟨10631, 10632⟩ : S66), (⟨10633, 10634⟩ : S66), (⟨10635, 10636⟩ : S66), (⟨10641, 10642⟩ : S66), (⟨12296, 12297⟩ : S66), (⟨12298, 12299⟩ : S66), (⟨12300, 12301⟩ : S66), (⟨12302, 12303⟩ : S66), (⟨12304, 12305⟩ : S66), (⟨12308, 12309⟩ : S66), (⟨12310, 12311⟩ : S66), (⟨12312, 12313⟩ : S66), (⟨12314, 12315⟩ : S66), (⟨65113, 65114⟩ : S66), (⟨65115, 65116⟩ : S66), (⟨65117, 65118⟩ : S66), (⟨65288, 65289⟩ : S66), (⟨65339, 65341⟩ : S66), (⟨65371, 65373⟩ : S66), (⟨65375, 65376⟩ : S66), (⟨65378, 65379⟩ : S66)] : List (S66)))
set_option maxHeartbeats 8000000 in
set_option maxRecDepth 100000 in
theorem api_Brackets.calls  (r : List (S66)) (w : World) (h : api_Brackets.f  = some r) :
    Calls Try.prog 46 #[] w fun e w' => ∃ v0_ : Value, e = .returned (v0_) ∧ Kd.R k66 66 w' w.heap.size (fun _ => True) v0_ r ∧ Below w.heap.size w w' := by
  have hu66 := Try.underlying66
  have HB := Aside0.mk (Below.refl w.heap.size w)
  have H : (some (([(⟨40, 41⟩ : S66), (⟨91, 93⟩ : S66), (⟨123, 125⟩ : S66), (⟨3898, 3899⟩ : S66), (⟨8261, 8262⟩ : S66), (⟨8317, 8318⟩ : S66), (⟨8333, 8334⟩ : S66), (⟨9001, 9002⟩ : S66), (⟨10088, 10089⟩ : S66), (⟨10090, 10091⟩ : S66), (⟨10092, 10093⟩ : S66), (⟨10094, 10095⟩ : S66), (⟨10096, 10097⟩ : S66), (⟨10098, 10099⟩ : S66), (⟨10100, 10101⟩ : S66), (⟨10214, 10215⟩ : S66), (⟨10216, 10217⟩ : S66), (⟨10218, 10219⟩ : S66), (⟨10220, 10221⟩ : S66), (⟨10222, 10223⟩ : S66), (⟨10627, 10628⟩ : S66), (⟨10629, 10630⟩ : S66), (⟨10631, 10632⟩ : S66), (⟨10633, 10634⟩ : S66), (⟨10635, 10636⟩ : S66), (⟨10641, 10642⟩ : S66), (⟨12296, 12297⟩ : S66), (⟨12298, 12299⟩ : S66), (⟨12300, 12301⟩ : S66), (⟨12302, 12303⟩ : S66), (⟨12304, 12305⟩ : S66), (⟨12308, 12309⟩ : S66), (⟨12310, 12311⟩ : S66), (⟨12312, 12313⟩ : S66), (⟨12314, 12315⟩ : S66), (⟨65113, 65114⟩ : S66), (⟨65115, 65116⟩ : S66), (⟨65117, 65118⟩ : S66), (⟨65288, 65289⟩ : S66), (⟨65339, 65341⟩ : S66), (⟨65371, 65373⟩ : S66), (⟨65375, 65376⟩ : S66), (⟨65378, 65379⟩ : S66)] : List (S66)))) = some r := h
  clear h
  obtain ⟨y114, hy114⟩ : ∃ y_ : List (S66), y_ = (([(⟨40, 41⟩ : S66), (⟨91, 93⟩ : S66), (⟨123, 125⟩ : S66), (⟨3898, 3899⟩ : S66), (⟨8261, 8262⟩ : S66), (⟨8317, 8318⟩ : S66), (⟨8333, 8334⟩ : S66), (⟨9001, 9002⟩ : S66), (⟨10088, 10089⟩ : S66), (⟨10090, 10091⟩ : S66), (⟨10092, 10093⟩ : S66), (⟨10094, 10095⟩ : S66), (⟨10096, 10097⟩ : S66), (⟨10098, 10099⟩ : S66), (⟨10100, 10101⟩ : S66), (⟨10214, 10215⟩ : S66), (⟨10216, 10217⟩ : S66), (⟨10218, 10219⟩ : S66), (⟨10220, 10221⟩ : S66), (⟨10222, 10223⟩ : S66), (⟨10627, 10628⟩ : S66), (⟨10629, 10630⟩ : S66), (⟨10631, 10632⟩ : S66), (⟨10633, 10634⟩ : S66), (⟨10635, 10636⟩ : S66), (⟨10641, 10642⟩ : S66), (⟨12296, 12297⟩ : S66), (⟨12298, 12299⟩ : S66), (⟨12300, 12301⟩ : S66), (⟨12302, 12303⟩ : S66), (⟨12304, 12305⟩ : S66), (⟨12308, 12309⟩ : S66), (⟨12310, 12311⟩ : S66), (⟨12312, 12313⟩ : S66), (⟨12314, 12315⟩ : S66), (⟨65113, 65114⟩ : S66), (⟨65115, 65116⟩ : S66), (⟨65117, 65118⟩ : S66), (⟨65288, 65289⟩ : S66), (⟨65339, 65341⟩ : S66), (⟨65371, 65373⟩ : S66), (⟨65375, 65376⟩ : S66), (⟨65378, 65379⟩ : S66)] : List (S66))) := ⟨_, rfl⟩
  replace H : (some y114) = some r := by first | (rw [hy114]; with_reducible exact H) | (have H2_ := (Option.bind_some _ _).symm.trans H; rw [hy114]; with_reducible exact H2_) | (have H2_ := (Option.bind_some _ _).symm.trans H; with_reducible exact H2_) | with_reducible exact H | (rw [hy114]; exact H) | exact H
  have Ny114 := Aside0.mk hy114
  clear hy114
  obtain rfl := Option.some.inj H
  go_enter Try.func46, Try.ntmps46
  go_wp2_with (first | ((with_reducible refine gate_dst (N := 44) rfl ?_); refine Kd.R_lit k66 _ 66 ?hg (N := 44) ?hd (xs := ([(⟨40, 41⟩ : S66), (⟨91, 93⟩ : S66), (⟨123, 125⟩ : S66), (⟨3898, 3899⟩ : S66), (⟨8261, 8262⟩ : S66), (⟨8317, 8318⟩ : S66), (⟨8333, 8334⟩ : S66), (⟨9001, 9002⟩ : S66), (⟨10088, 10089⟩ : S66), (⟨10090, 10091⟩ : S66), (⟨10092, 10093⟩ : S66), (⟨10094, 10095⟩ : S66), (⟨10096, 10097⟩ : S66), (⟨10098, 10099⟩ : S66), (⟨10100, 10101⟩ : S66), (⟨10214, 10215⟩ : S66), (⟨10216, 10217⟩ : S66), (⟨10218, 10219⟩ : S66), (⟨10220, 10221⟩ : S66), (⟨10222, 10223⟩ : S66), (⟨10627, 10628⟩ : S66), (⟨10629, 10630⟩ : S66), (⟨10631, 10632⟩ : S66), (⟨10633, 10634⟩ : S66), (⟨10635, 10636⟩ : S66), (⟨10641, 10642⟩ : S66), (⟨12296, 12297⟩ : S66), (⟨12298, 12299⟩ : S66), (⟨12300, 12301⟩ : S66), (⟨12302, 12303⟩ : S66), (⟨12304, 12305⟩ : S66), (⟨12308, 12309⟩ : S66), (⟨12310, 12311⟩ : S66), (⟨12312, 12313⟩ : S66), (⟨12314, 12315⟩ : S66), (⟨65113, 65114⟩ : S66), (⟨65115, 65116⟩ : S66), (⟨65117, 65118⟩ : S66), (⟨65288, 65289⟩ : S66), (⟨65339, 65341⟩ : S66), (⟨65371, 65373⟩ : S66), (⟨65375, 65376⟩ : S66), (⟨65378, 65379⟩ : S66)] : List (S66))) (inner := [.int .i64 40, .int .i64 41, .int .i64 91, .int .i64 93, .int .i64 123, .int .i64 125, .int .i64 3898, .int .i64 3899, .int .i64 8261, .int .i64 8262, .int .i64 8317, .int .i64 8318, .int .i64 8333, .int .i64 8334, .int .i64 9001, .int .i64 9002, .int .i64 10088, .int .i64 10089, .int .i64 10090, .int .i64 10091, .int .i64 10092, .int .i64 10093, .int .i64 10094, .int .i64 10095, .int .i64 10096, .int .i64 10097, .int .i64 10098, .int .i64 10099, .int .i64 10100, .int .i64 10101, .int .i64 10214, .int .i64 10215, .int .i64 10216, .int .i64 10217, .int .i64 10218, .int .i64 10219, .int .i64 10220, .int .i64 10221, .int .i64 10222, .int .i64 10223, .int .i64 10627, .int .i64 10628, .int .i64 10629, .int .i64 10630, .int .i64 10631, .int .i64 10632, .int .i64 10633, .int .i64 10634, .int .i64 10635, .int .i64 10636, .int .i64 10641, .int .i64 10642, .int .i64 12296, .int .i64 12297, .int .i64 12298, .int .i64 12299, .int .i64 12300, .int .i64 12301, .int .i64 12302, .int .i64 12303, .int .i64 12304, .int .i64 12305, .int .i64 12308, .int .i64 12309, .int .i64 12310, .int .i64 12311, .int .i64 12312, .int .i64 12313, .int .i64 12314, .int .i64 12315, .int .i64 65113, .int .i64 65114, .int .i64 65115, .int .i64 65116, .int .i64 65117, .int .i64 65118, .int .i64 65288, .int .i64 65289, .int .i64 65339, .int .i64 65341, .int .i64 65371, .int .i64 65373, .int .i64 65375, .int .i64 65376, .int .i64 65378, .int .i64 65379]) (ok := fun _ => True) (okp := fun _ => True) ?hr ?hp (fun _ hk => hk) trivial (Below.refl _ _) (Nat.le_refl _) (by simp) ?_; (case hd => rfl); (case hg => rfl); (case hr => first | (go_simp; done) | (go_simp; rfl)); (case hp => exact (Reps.c2 (show Kd.M k66 _ _ _ (⟨40, 41⟩ : S66) [.int .i64 40, .int .i64 41] from (k66_mkM _ _ _ (⟨40, 41⟩ : S66) )) (Reps.c2 (show Kd.M k66 _ _ _ (⟨91, 93⟩ : S66) [.int .i64 91, .int .i64 93] from (k66_mkM _ _ _ (⟨91, 93⟩ : S66) )) (Reps.c2 (show Kd.M k66 _ _ _ (⟨123, 125⟩ : S66) [.int .i64 123, .int .i64 125] from (k66_mkM _ _ _ (⟨123, 125⟩ : S66) )) (Reps.c2 (show Kd.M k66 _ _ _ (⟨3898, 3899⟩ : S66) [.int .i64 3898, .int .i64 3899] from (k66_mkM _ _ _ (⟨3898, 3899⟩ : S66) )) (Reps.c2 (show Kd.M k66 _ _ _ (⟨8261, 8262⟩ : S66) [.int .i64 8261, .int .i64 8262] from (k66_mkM _ _ _ (⟨8261, 8262⟩ : S66) )) (Reps.c2 (show Kd.M k66 _ _ _ (⟨8317, 8318⟩ : S66) [.int .i64 8317, .int .i64 8318] from (k66_mkM _ _ _ (⟨8317, 8318⟩ : S66) )) (Reps.c2 (show Kd.M k66 _ _ _ (⟨8333, 8334⟩ : S66) [.int .i64 8333, .int .i64 8334] from (k66_mkM _ _ _ (⟨8333, 8334⟩ : S66) )) (Reps.c2 (show Kd.M k66 _ _ _ (⟨9001, 9002⟩ : S66) [.int .i64 9001, .int .i64 9002] from (k66_mkM _ _ _ (⟨9001, 9002⟩ : S66) )) (Reps.c2 (show Kd.M k66 _ _ _ (⟨10088, 10089⟩ : S66) [.int .i64 10088, .int .i64 10089] from (k66_mkM _ _ _ (⟨10088, 10089⟩ : S66) )) (Reps.c2 (show Kd.M k66 _ _ _ (⟨10090, 10091⟩ : S66) [.int .i64 10090, .int .i64 10091] from (k66_mkM _ _ _ (⟨10090, 10091⟩ : S66) )) (Reps.c2 (show Kd.M k66 _ _ _ (⟨10092, 10093⟩ : S66) [.int .i64 10092, .int .i64 10093] from (k66_mkM _ _ _ (⟨10092, 10093⟩ : S66) )) (Reps.c2 (show Kd.M k66 _ _ _ (⟨10094, 10095⟩ : S66) [.int .i64 10094, .int .i64 10095] from (k66_mkM _ _ _ (⟨10094, 10095⟩ : S66) )) (Reps.c2 (show Kd.M k66 _ _ _ (⟨10096, 10097⟩ : S66) [.int .i64 10096, .int .i64 10097] from (k66_mkM _ _ _ (⟨10096, 10097⟩ : S66) )) (Reps.c2 (show Kd.M k66 _ _ _ (⟨10098, 10099⟩ : S66) [.int .i64 10098, .int .i64 10099] from (k66_mkM _ _ _ (⟨10098, 10099⟩ : S66) )) (Reps.c2 (show Kd.M k66 _ _ _ (⟨10100, 10101⟩ : S66) [.int .i64 10100, .int .i64 10101] from (k66_mkM _ _ _ (⟨10100, 10101⟩ : S66) )) (Reps.c2 (show Kd.M k66 _ _ _ (⟨10214, 10215⟩ : S66) [.int .i64 10214, .int .i64 10215] from (k66_mkM _ _ _ (⟨10214, 10215⟩ : S66) )) (Reps.c2 (show Kd.M k66 _ _ _ (⟨10216, 10217⟩ : S66) [.int .i64 10216, .int .i64 10217] from (k66_mkM _ _ _ (⟨10216, 10217⟩ : S66) )) (Reps.c2 (show Kd.M k66 _ _ _ (⟨10218, 10219⟩ : S66) [.int .i64 10218, .int .i64 10219] from (k66_mkM _ _ _ (⟨10218, 10219⟩ : S66) )) (Reps.c2 (show Kd.M k66 _ _ _ (⟨10220, 10221⟩ : S66) [.int .i64 10220, .int .i64 10221] from (k66_mkM _ _ _ (⟨10220, 10221⟩ : S66) )) (Reps.c2 (show Kd.M k66 _ _ _ (⟨10222, 10223⟩ : S66) [.int .i64 10222, .int .i64 10223] from (k66_mkM _ _ _ (⟨10222, 10223⟩ : S66) )) (Reps.c2 (show Kd.M k66 _ _ _ (⟨10627, 10628⟩ : S66) [.int .i64 10627, .int .i64 10628] from (k66_mkM _ _ _ (⟨10627, 10628⟩ : S66) )) (Reps.c2 (show Kd.M k66 _ _ _ (⟨10629, 10630⟩ : S66) [.int .i64 10629, .int .i64 10630] from (k66_mkM _ _ _ (⟨10629, 10630⟩ : S66) )) (Reps.c2 (show Kd.M k66 _ _ _ (⟨10631, 10632⟩ : S66) [.int .i64 10631, .int .i64 10632] from (k66_mkM _ _ _ (⟨10631, 10632⟩ : S66) )) (Reps.c2 (show Kd.M k66 _ _ _ (⟨10633, 10634⟩ : S66) [.int .i64 10633, .int .i64 10634] from (k66_mkM _ _ _ (⟨10633, 10634⟩ : S66) )) (Reps.c2 (show Kd.M k66 _ _ _ (⟨10635, 10636⟩ : S66) [.int .i64 10635, .int .i64 10636] from (k66_mkM _ _ _ (⟨10635, 10636⟩ : S66) )) (Reps.c2 (show Kd.M k66 _ _ _ (⟨10641, 10642⟩ : S66) [.int .i64 10641, .int .i64 10642] from (k66_mkM _ _ _ (⟨10641, 10642⟩ : S66) )) (Reps.c2 (show Kd.M k66 _ _ _ (⟨12296, 12297⟩ : S66) [.int .i64 12296, .int .i64 12297] from (k66_mkM _ _ _ (⟨12296, 12297⟩ : S66) )) (Reps.c2 (show Kd.M k66 _ _ _ (⟨12298, 12299⟩ : S66) [.int .i64 12298, .int .i64 12299] from (k66_mkM _ _ _ (⟨12298, 12299⟩ : S66) )) (Reps.c2 (show Kd.M k66 _ _ _ (⟨12300, 12301⟩ : S66) [.int .i64 12300, .int .i64 12301] from (k66_mkM _ _ _ (⟨12300, 12301⟩ : S66) )) (Reps.c2 (show Kd.M k66 _ _ _ (⟨12302, 12303⟩ : S66) [.int .i64 12302, .int .i64 12303] from (k66_mkM _ _ _ (⟨12302, 12303⟩ : S66) )) (Reps.c2 (show Kd.M k66 _ _ _ (⟨12304, 12305⟩ : S66) [.int .i64 12304, .int .i64 12305] from (k66_mkM _ _ _ (⟨12304, 12305⟩ : S66) )) (Reps.c2 (show Kd.M k66 _ _ _ (⟨12308, 12309⟩ : S66) [.int .i64 12308, .int .i64 12309] from (k66_mkM _ _ _ (⟨12308, 12309⟩ : S66) )) (Reps.c2 (show Kd.M k66 _ _ _ (⟨12310, 12311⟩ : S66) [.int .i64 12310, .int .i64 12311] from (k66_mkM _ _ _ (⟨12310, 12311⟩ : S66) )) (Reps.c2 (show Kd.M k66 _ _ _ (⟨12312, 12313⟩ : S66) [.int .i64 12312, .int .i64 12313] from (k66_mkM _ _ _ (⟨12312, 12313⟩ : S66) )) (Reps.c2 (show Kd.M k66 _ _ _ (⟨12314, 12315⟩ : S66) [.int .i64 12314, .int .i64 12315] from (k66_mkM _ _ _ (⟨12314, 12315⟩ : S66) )) (Reps.c2 (show Kd.M k66 _ _ _ (⟨65113, 65114⟩ : S66) [.int .i64 65113, .int .i64 65114] from (k66_mkM _ _ _ (⟨65113, 65114⟩ : S66) )) (Reps.c2 (show Kd.M k66 _ _ _ (⟨65115, 65116⟩ : S66) [.int .i64 65115, .int .i64 65116] from (k66_mkM _ _ _ (⟨65115, 65116⟩ : S66) )) (Reps.c2 (show Kd.M k66 _ _ _ (⟨65117, 65118⟩ : S66) [.int .i64 65117, .int .i64 65118] from (k66_mkM _ _ _ (⟨65117, 65118⟩ : S66) )) (Reps.c2 (show Kd.M k66 _ _ _ (⟨65288, 65289⟩ : S66) [.int .i64 65288, .int .i64 65289] from (k66_mkM _ _ _ (⟨65288, 65289⟩ : S66) )) (Reps.c2 (show Kd.M k66 _ _ _ (⟨65339, 65341⟩ : S66) [.int .i64 65339, .int .i64 65341] from (k66_mkM _ _ _ (⟨65339, 65341⟩ : S66) )) (Reps.c2 (show Kd.M k66 _ _ _ (⟨65371, 65373⟩ : S66) [.int .i64 65371, .int .i64 65373] from (k66_mkM _ _ _ (⟨65371, 65373⟩ : S66) )) (Reps.c2 (show Kd.M k66 _ _ _ (⟨65375, 65376⟩ : S66) [.int .i64 65375, .int .i64 65376] from (k66_mkM _ _ _ (⟨65375, 65376⟩ : S66) )) (Reps.c2 (show Kd.M k66 _ _ _ (⟨65378, 65379⟩ : S66) [.int .i64 65378, .int .i64 65379] from (k66_mkM _ _ _ (⟨65378, 65379⟩ : S66) )) (Reps.none _ _))))))))))))))))))))))))))))))))))))))))))))); intro v115 w1 ho2 hb hg_ hnew_; clear hg_ hnew_; (first | rw [← Ny114.out] at ho2 | (simp only [Int.reduceToNat] at ho2; rw [← Ny114.out] at ho2)); have n0_ := Aside0.mk (Kd.R_lower ho2 (below_size (by repeat (first | (with_reducible first | exact HB.out | apply below_alloc | apply pw_below_drewN | apply below_drew1) | exact HB.out)))); have n1_ := Aside0.mk (below_step (by repeat (first | (with_reducible first | exact HB.out | apply below_alloc | apply pw_below_drewN | apply below_drew1) | exact HB.out)) hb); clear HB; have HO116 := n0_; have HB := n1_; clear n0_ n1_; clear hb ho2))
  go_ret
  exact ⟨_, by first | rfl | (simp [errW_none, errW_some] <;> rfl) | (simp [*, errW_none, errW_some] <;> rfl), by (with_reducible repeat (first | apply Kd.R_alloc | apply Kd.R_drewN | apply Kd.R_drew)); exact HO116.out, by repeat (first | (with_reducible first | exact HB.out | apply below_alloc | apply pw_below_drewN | apply below_drew1) | exact HB.out)⟩

/-! ### pairs_list_back: function 48 -/
def pairs_list_back.l0 : Nat → Int → List (S66) → Int → Int → Option (Int × Int × Bool)
  | 0, _, _, _, _ => none
  | k + 1, x1, x8, x9, x10 => if x10 < x9 then (if 0 ≤ x10 then (if x10 < (x8.length : Int) then (if ((rd_T66 x8 x10).f1) = x1 then (some ((rd_T66 x8 x10).f0, (rd_T66 x8 x10).f1, true)) else (pairs_list_back.l0 k x1 x8 x9 (wrap64 (x10 + 1)))) else (none)) else (none)) else (some (0, 0, false))
def pairs_list_back.f (k : Nat) (l0 : List (S66)) (a1 : Int) : Option (Int × Int × Bool) := pairs_list_back.l0 k a1 l0 (l0.length : Int) 0
theorem pairs_list_back.mono_l : ∀ k, (∀ y0 y1 y2 y3, LeO (pairs_list_back.l0 k y0 y1 y2 y3) (pairs_list_back.l0 (k + 1) y0 y1 y2 y3))
  | 0 => fun _ _ _ _ r h => by simp [pairs_list_back.l0] at h
  | k + 1 => by
    have ih0 := pairs_list_back.mono_l k
    · intro y0 y1 y2 y3
      unfold pairs_list_back.l0
      repeat' first
      | (with_reducible exact ih0 _ _ _ _)
      | (with_reducible exact LeO.refl _)
      | (with_reducible exact LeO.none _)
      | (with_reducible refine LeO.ite ?_ ?_)
      | (with_reducible refine LeO.bind ?_ (fun _ => ?_))
      | exact ih0 _ _ _ _
      | exact LeO.none _
      | refine LeO.ite ?_ ?_
      | refine LeO.bind ?_ (fun _ => ?_)
theorem pairs_list_back.mono : ∀ a0 a1 k, LeO (pairs_list_back.f k a0 a1) (pairs_list_back.f (k + 1) a0 a1) := by
  intro a0 a1 k
  have ih0 := pairs_list_back.mono_l k
  unfold pairs_list_back.f
  repeat' first
      | (with_reducible exact ih0 _ _ _ _)
      | (with_reducible exact LeO.refl _)
      | (with_reducible exact LeO.none _)
      | (with_reducible refine LeO.ite ?_ ?_)
      | (with_reducible refine LeO.bind ?_ (fun _ => ?_))
      | exact ih0 _ _ _ _
      | exact LeO.none _
      | refine LeO.ite ?_ ?_
      | refine LeO.bind ?_ (fun _ => ?_)
set_option maxHeartbeats 8000000 in
set_option maxRecDepth 100000 in
theorem pairs_list_back.calls (k : Nat) (A0 : Option Addr) (c0 : Nat) (l0 : List (S66)) (a1 : Int) (r1 : Int) (r2 : Int) (r3 : Bool) (w : World) (hr0 : Kd.C k66 w A0 l0.length l0) (hc0 : l0.length ≤ c0) (h : pairs_list_back.f k l0 a1 = some (r1, r2, r3)) :
    Calls Try.prog 48 #[.slice A0 l0.length c0, .int .i64 a1] w fun e w' => e = .returned (.tuple #[.agg #[.int .i64 r1, .int .i64 r2], .bool r3]) ∧ Below w.heap.size w w' := by
  have hu66 := Try.underlying66
  have HR0 := Aside0.mk hr0
  have HC0 := Aside0.mk hc0
  clear hr0 hc0
  have HB := Aside0.mk (Below.refl w.heap.size w)
  have H : (pairs_list_back.l0 k a1 l0 (l0.length : Int) 0) = some (r1, r2, r3) := h
  clear h
  have H' := Aside0.mk H
  clear H
  go_enter Try.func48, Try.ntmps48
  go_wp2_with (first | ((with_reducible refine gate_dst (N := 4) rfl ?_); refine box_event ?hg (N := 4) ?hd (cs := #[.int .i64 0, .int .i64 0]) (t := 66) ?hr ?_; (case hd => rfl); (case hg => rfl); (case hr => first | (go_simp; done) | (go_simp; rfl)); intro gb117 hg w3 hbox hb; have n0_ := Aside0.mk (below_step (by repeat (first | (with_reducible first | exact HB.out | apply below_alloc | apply pw_below_drewN | apply below_drew1) | exact HB.out)) hb); have n1_ := Aside0.mk (hbox); have n2_ := Aside0.mk ((by rw [hg]; exact (below_size (by repeat (first | (with_reducible first | exact HB.out | apply below_alloc | apply pw_below_drewN | apply below_drew1) | exact HB.out))) : w.heap.size ≤ gb117)); have n3_ := Aside0.mk ((by rw [hg]; exact (below_size (by repeat (first | (with_reducible first | exact HB.out | apply below_alloc | apply pw_below_drewN | apply below_drew1) | exact HB.out))) : w.heap.size ≤ gb117)); clear HB; have HB := n0_; have BK117 := n1_; have GW117 := n2_; have GE117 := n3_; clear n0_ n1_ n2_ n3_; clear hb hbox hg))
  go_loopg [10] k (fun kq v10 w' => ∃ (x10_1 : Int) (x118000_1 : Int) (x118001_1 : Int), v10 = .int .i64 x10_1 ∧ Aside0 (pairs_list_back.l0 kq a1 l0 (l0.length : Int) x10_1 = some (r1, r2, r3)) ∧ Aside0 (kq ≤ k) ∧ Aside0 (w'.heap[gb117]? = some (.cells #[.int .i64 x118000_1, .int .i64 x118001_1] 66 (0, 0))) ∧ Aside0 (Below w.heap.size w w'))
  case atStart => exact ⟨(0), (0), (0), (by first | rfl | (simp; done) | (simp [*]; done)), H', ⟨Nat.le_refl _⟩, ⟨by (with_reducible repeat (first | refine blk_drewN ?_ _ | refine blk_drew ?_ | refine blk_alloc ?_ _)); exact BK117.out⟩, ⟨by repeat (first | (with_reducible first | exact HB.out | apply below_alloc | apply pw_below_drewN | apply below_drew1 | refine below_set ?_ GE117.out) | exact HB.out)⟩⟩
  case round =>
    clear H'
    try clear p2
    obtain ⟨x10_1, x118000_1, x118001_1, rfl, HA, HK1, BK117, HB⟩ := hrel
    cases gk with
    | zero => exact absurd HA.out (by simp [pairs_list_back.l0])
    | succ k1 =>
      have H := HA.out
      clear HA
      simp only [pairs_list_back.l0] at H
      by_cases c4 : x10_1 < (l0.length : Int)
      · rw [if_pos c4] at H
        have c4b0 : decide (x10_1 < (l0.length : Int)) = true := decide_eq_true c4
        clear c4
        by_cases c5 : 0 ≤ x10_1
        · rw [if_pos c5] at H
          have c5b0 : decide (0 ≤ x10_1) = true := decide_eq_true c5
          clear c5
          by_cases c6 : x10_1 < (l0.length : Int)
          · rw [if_pos c6] at H
            have c6b0 : decide (x10_1 < (l0.length : Int)) = true := decide_eq_true c6
            clear c6
            by_cases c7 : ((rd_T66 l0 x10_1).f1) = a1
            · rw [if_pos c7] at H
              have c7b0 : (((rd_T66 l0 x10_1).f1) == a1) = true := beq_iff_eq.mpr c7
              have c7b1 : (((rd_T66 l0 x10_1).f1) != a1) = false := bne_eq_false_iff_eq.mpr c7
              clear c7
              simp only [Option.some.injEq, Prod.mk.injEq] at H
              obtain ⟨rfl, rfl, rfl⟩ := H
              have p118 : 0 ≤ (x10_1 : Int) := of_decide_eq_true (by first | (with_reducible assumption) | assumption)
              have q118 : x10_1 < (l0.length : Int) := of_decide_eq_true (by first | (with_reducible assumption) | assumption)
              obtain ⟨ad118, e118, hx118_0, hx118_1⟩ := at_T66 HR0.out x10_1 p118 q118
              cases e118
              replace hx118_0 := (HB.out.cell (World.block_lt_of_cell? w _ hx118_0)).trans hx118_0
              replace hx118_1 := (HB.out.cell (World.block_lt_of_cell? w _ hx118_1)).trans hx118_1
              replace p118 := eq_true p118
              replace q118 := eq_true q118
              go_wp2_with (first | ((with_reducible refine gate_dst (N := 7) rfl ?_); refine box_event ?hg (N := 7) ?hd (cs := #[.int .i64 0, .int .i64 0]) (t := 66) ?hr ?_; (case hd => rfl); (case hg => rfl); (case hr => first | (go_simp; done) | (go_simp; rfl)); intro gb119 hg w8 hbox hb; have n0_ := Aside0.mk (blk_below (g := gb117) (o := .cells #[.int .i64 x118000_1, .int .i64 x118001_1] 66 (0, 0)) (by (with_reducible repeat (first | refine blk_drewN ?_ _ | refine blk_drew ?_ | refine blk_alloc ?_ _)); exact BK117.out) hb); have n1_ := Aside0.mk (below_step (by repeat (first | (with_reducible first | exact HB.out | apply below_alloc | apply pw_below_drewN | apply below_drew1 | refine below_set ?_ GE117.out) | exact HB.out)) hb); have n2_ := Aside0.mk (hbox); have n3_ := Aside0.mk ((by rw [hg]; exact (below_size (by repeat (first | (with_reducible first | exact HB.out | apply below_alloc | apply pw_below_drewN | apply below_drew1 | refine below_set ?_ GE117.out) | exact HB.out))) : w.heap.size ≤ gb119)); have n4_ := Aside0.mk ((by rw [hg]; exact (below_size (by repeat (first | (with_reducible first | exact HB.out | apply below_alloc | apply pw_below_drewN | apply below_drew1 | refine below_set ?_ GE117.out) | exact HB.out))) : w.heap.size ≤ gb119)); have n5_ := Aside0.mk ((by rw [hg]; exact Nat.ne_of_lt (blk_lt (g := gb117) (o := .cells #[.int .i64 x118000_1, .int .i64 x118001_1] 66 (0, 0)) (by (with_reducible repeat (first | refine blk_drewN ?_ _ | refine blk_drew ?_ | refine blk_alloc ?_ _)); exact BK117.out)) : gb117 ≠ gb119)); have n6_ := Aside0.mk ((by rw [hg]; exact Nat.ne_of_gt (blk_lt (g := gb117) (o := .cells #[.int .i64 x118000_1, .int .i64 x118001_1] 66 (0, 0)) (by (with_reducible repeat (first | refine blk_drewN ?_ _ | refine blk_drew ?_ | refine blk_alloc ?_ _)); exact BK117.out)) : gb119 ≠ gb117)); clear BK117; clear HB; have BK117 := n0_; have HB := n1_; have BK119 := n2_; have GW119 := n3_; have GE119 := n4_; have NB117_119 := n5_; have NB119_117 := n6_; clear n0_ n1_ n2_ n3_ n4_ n5_ n6_; clear hb hbox hg; have hnb9 := NB119_117.out; have hnc9 := NB117_119.out; have hcz10_0 : w8.cell? ⟨gb119, 0, none⟩ = some (.int .i64 0) := (blk_cell BK119.out 0).trans rfl; have hcz10_1 : w8.cell? ⟨gb119, 1, none⟩ = some (.int .i64 0) := (blk_cell BK119.out 1).trans rfl; have hfz10_0 := blk_frozen BK119.out 0; have hfz10_1 := blk_frozen BK119.out 1; have hcz11_0 : w8.cell? ⟨gb117, 0, none⟩ = some (.int .i64 x118000_1) := (blk_cell BK117.out 0).trans rfl; have hcz11_1 : w8.cell? ⟨gb117, 1, none⟩ = some (.int .i64 x118001_1) := (blk_cell BK117.out 1).trans rfl; have hfz11_0 := blk_frozen BK117.out 0; have hfz11_1 := blk_frozen BK117.out 1))
              refine bodyPost_ret (results_ct rfl _ _ gb117 66 #[.int .i64 ((rd_T66 l0 x10_1).f0), .int .i64 ((rd_T66 l0 x10_1).f1)] (0, 0) _ rfl (by (with_reducible repeat (first | refine blk_drewN ?_ _ | refine blk_drew ?_ | refine blk_alloc ?_ _)); refine blk_put (cs := #[.int .i64 ((rd_T66 l0 x10_1).f0), .int .i64 x118001_1]) ?_ 1 _ rfl; (with_reducible repeat (first | refine blk_drewN ?_ _ | refine blk_drew ?_ | refine blk_alloc ?_ _)); refine blk_put (cs := #[.int .i64 x118000_1, .int .i64 x118001_1]) ?_ 0 _ rfl; (with_reducible repeat (first | refine blk_drewN ?_ _ | refine blk_drew ?_ | refine blk_alloc ?_ _)); refine blk_far ?_ NB117_119.out _; (with_reducible repeat (first | refine blk_drewN ?_ _ | refine blk_drew ?_ | refine blk_alloc ?_ _)); refine blk_far ?_ NB117_119.out _; (with_reducible repeat (first | refine blk_drewN ?_ _ | refine blk_drew ?_ | refine blk_alloc ?_ _)); exact BK117.out) Try.underlying66 rfl (by kernel_rfl)) rfl ?_
              exact ⟨by first | rfl | (simp [errW_none, errW_some] <;> rfl) | (simp [*, errW_none, errW_some] <;> rfl), by repeat (first | (with_reducible first | exact HB.out | apply below_alloc | apply pw_below_drewN | apply below_drew1 | refine below_set ?_ GE117.out | refine below_set ?_ GE119.out) | exact HB.out)⟩
            · rw [if_neg c7] at H
              have c7b0 : (((rd_T66 l0 x10_1).f1) == a1) = false := beq_eq_false_iff_ne.mpr c7
              have c7b1 : (((rd_T66 l0 x10_1).f1) != a1) = true := bne_iff_ne.mpr c7
              have H' := Aside0.mk H
              clear H
              have p118 : 0 ≤ (x10_1 : Int) := of_decide_eq_true (by first | (with_reducible assumption) | assumption)
              have q118 : x10_1 < (l0.length : Int) := of_decide_eq_true (by first | (with_reducible assumption) | assumption)
              obtain ⟨ad118, e118, hx118_0, hx118_1⟩ := at_T66 HR0.out x10_1 p118 q118
              cases e118
              replace hx118_0 := (HB.out.cell (World.block_lt_of_cell? w _ hx118_0)).trans hx118_0
              replace hx118_1 := (HB.out.cell (World.block_lt_of_cell? w _ hx118_1)).trans hx118_1
              replace p118 := eq_true p118
              replace q118 := eq_true q118
              go_wp2_with (first | ((with_reducible refine gate_dst (N := 7) rfl ?_); refine box_event ?hg (N := 7) ?hd (cs := #[.int .i64 0, .int .i64 0]) (t := 66) ?hr ?_; (case hd => rfl); (case hg => rfl); (case hr => first | (go_simp; done) | (go_simp; rfl)); intro gb119 hg w12 hbox hb; have n0_ := Aside0.mk (blk_below (g := gb117) (o := .cells #[.int .i64 x118000_1, .int .i64 x118001_1] 66 (0, 0)) (by (with_reducible repeat (first | refine blk_drewN ?_ _ | refine blk_drew ?_ | refine blk_alloc ?_ _)); exact BK117.out) hb); have n1_ := Aside0.mk (below_step (by repeat (first | (with_reducible first | exact HB.out | apply below_alloc | apply pw_below_drewN | apply below_drew1 | refine below_set ?_ GE117.out) | exact HB.out)) hb); have n2_ := Aside0.mk (hbox); have n3_ := Aside0.mk ((by rw [hg]; exact (below_size (by repeat (first | (with_reducible first | exact HB.out | apply below_alloc | apply pw_below_drewN | apply below_drew1 | refine below_set ?_ GE117.out) | exact HB.out))) : w.heap.size ≤ gb119)); have n4_ := Aside0.mk ((by rw [hg]; exact (below_size (by repeat (first | (with_reducible first | exact HB.out | apply below_alloc | apply pw_below_drewN | apply below_drew1 | refine below_set ?_ GE117.out) | exact HB.out))) : w.heap.size ≤ gb119)); have n5_ := Aside0.mk ((by rw [hg]; exact Nat.ne_of_lt (blk_lt (g := gb117) (o := .cells #[.int .i64 x118000_1, .int .i64 x118001_1] 66 (0, 0)) (by (with_reducible repeat (first | refine blk_drewN ?_ _ | refine blk_drew ?_ | refine blk_alloc ?_ _)); exact BK117.out)) : gb117 ≠ gb119)); have n6_ := Aside0.mk ((by rw [hg]; exact Nat.ne_of_gt (blk_lt (g := gb117) (o := .cells #[.int .i64 x118000_1, .int .i64 x118001_1] 66 (0, 0)) (by (with_reducible repeat (first | refine blk_drewN ?_ _ | refine blk_drew ?_ | refine blk_alloc ?_ _)); exact BK117.out)) : gb119 ≠ gb117)); clear BK117; clear HB; have BK117 := n0_; have HB := n1_; have BK119 := n2_; have GW119 := n3_; have GE119 := n4_; have NB117_119 := n5_; have NB119_117 := n6_; clear n0_ n1_ n2_ n3_ n4_ n5_ n6_; clear hb hbox hg; have hnb13 := NB119_117.out; have hnc13 := NB117_119.out; have hcz14_0 : w12.cell? ⟨gb119, 0, none⟩ = some (.int .i64 0) := (blk_cell BK119.out 0).trans rfl; have hcz14_1 : w12.cell? ⟨gb119, 1, none⟩ = some (.int .i64 0) := (blk_cell BK119.out 1).trans rfl; have hfz14_0 := blk_frozen BK119.out 0; have hfz14_1 := blk_frozen BK119.out 1))
              go_roundg k1
              case measure => have := HK1.out; omega
              case rel => exact ⟨(wrap64 (x10_1 + 1)), (x118000_1), (x118001_1), (by first | rfl | (simp; done) | (simp [*]; done)), H', ⟨by have := HK1.out; omega⟩, ⟨by (with_reducible repeat (first | refine blk_drewN ?_ _ | refine blk_drew ?_ | refine blk_alloc ?_ _)); refine blk_far ?_ NB117_119.out _; (with_reducible repeat (first | refine blk_drewN ?_ _ | refine blk_drew ?_ | refine blk_alloc ?_ _)); refine blk_far ?_ NB117_119.out _; (with_reducible repeat (first | refine blk_drewN ?_ _ | refine blk_drew ?_ | refine blk_alloc ?_ _)); exact BK117.out⟩, ⟨by repeat (first | (with_reducible first | exact HB.out | apply below_alloc | apply pw_below_drewN | apply below_drew1 | refine below_set ?_ GE117.out | refine below_set ?_ GE119.out) | exact HB.out)⟩⟩
          · rw [if_neg c6] at H
            exact absurd H (by simp)
        · rw [if_neg c5] at H
          exact absurd H (by simp)
      · rw [if_neg c4] at H
        have c4b0 : decide (x10_1 < (l0.length : Int)) = false := decide_eq_false c4
        clear c4
        simp only [Option.some.injEq, Prod.mk.injEq] at H
        obtain ⟨rfl, rfl, rfl⟩ := H
        have hcz15_0 : wr.cell? ⟨gb117, 0, none⟩ = some (.int .i64 x118000_1) := (blk_cell BK117.out 0).trans rfl
        have hcz15_1 : wr.cell? ⟨gb117, 1, none⟩ = some (.int .i64 x118001_1) := (blk_cell BK117.out 1).trans rfl
        have hfz15_0 := blk_frozen BK117.out 0
        have hfz15_1 := blk_frozen BK117.out 1
        go_wp2
        refine bodyPost_ret (results_ct rfl _ _ gb117 66 #[.int .i64 0, .int .i64 0] (0, 0) _ rfl (by (with_reducible repeat (first | refine blk_drewN ?_ _ | refine blk_drew ?_ | refine blk_alloc ?_ _)); refine blk_put (cs := #[.int .i64 0, .int .i64 x118001_1]) ?_ 1 _ rfl; (with_reducible repeat (first | refine blk_drewN ?_ _ | refine blk_drew ?_ | refine blk_alloc ?_ _)); refine blk_put (cs := #[.int .i64 x118000_1, .int .i64 x118001_1]) ?_ 0 _ rfl; (with_reducible repeat (first | refine blk_drewN ?_ _ | refine blk_drew ?_ | refine blk_alloc ?_ _)); exact BK117.out) Try.underlying66 rfl (by kernel_rfl)) rfl ?_
        exact ⟨by first | rfl | (simp [errW_none, errW_some] <;> rfl) | (simp [*, errW_none, errW_some] <;> rfl), by repeat (first | (with_reducible first | exact HB.out | apply below_alloc | apply pw_below_drewN | apply below_drew1 | refine below_set ?_ GE117.out) | exact HB.out)⟩

/-! ### pairs_Bracket: function 17 -/
def pairs_Bracket.f (k : Nat) (a0 : Int) : Option (Int × Int) := (api_Brackets.f).bind fun t120 => ((pairs_list_find.f k t120 a0).bind fun bt123 => (if bt123.2.2 = true then ((pairs_Canon.f k bt123.2.1).bind fun t127 => (some (1, t127))) else ((pairs_list_back.f k t120 a0).bind fun bt128 => (if bt128.2.2 = true then ((pairs_Canon.f k bt128.2.1).bind fun t132 => (some (2, t132))) else (some (0, 0))))))
theorem pairs_Bracket.mono : ∀ a0 k, LeO (pairs_Bracket.f k a0) (pairs_Bracket.f (k + 1) a0) := by
  intro a0 k
  unfold pairs_Bracket.f
  repeat' first
      | (with_reducible exact pairs_Canon.mono _ _)
      | (with_reducible exact pairs_list_back.mono _ _ _)
      | (with_reducible exact pairs_list_find.mono _ _ _)
      | (with_reducible exact LeO.refl _)
      | (with_reducible exact LeO.none _)
      | (with_reducible refine LeO.ite ?_ ?_)
      | (with_reducible refine LeO.bind ?_ (fun _ => ?_))
      | exact pairs_Canon.mono _ _
      | exact pairs_list_back.mono _ _ _
      | exact pairs_list_find.mono _ _ _
      | exact LeO.none _
      | refine LeO.ite ?_ ?_
      | refine LeO.bind ?_ (fun _ => ?_)
set_option maxHeartbeats 8000000 in
set_option maxRecDepth 100000 in
theorem pairs_Bracket.calls (k : Nat) (a0 : Int) (r1 : Int) (r2 : Int) (w : World) (h : pairs_Bracket.f k a0 = some (r1, r2)) :
    Calls Try.prog 17 #[.int .i64 a0] w fun e w' => e = .returned (.tuple #[.int .i64 r1, .int .i64 r2]) ∧ Below w.heap.size w w' := by
  have hu66 := Try.underlying66
  have HB := Aside0.mk (Below.refl w.heap.size w)
  have H : ((api_Brackets.f).bind fun t120 => ((pairs_list_find.f k t120 a0).bind fun bt123 => (if bt123.2.2 = true then ((pairs_Canon.f k bt123.2.1).bind fun t127 => (some (1, t127))) else ((pairs_list_back.f k t120 a0).bind fun bt128 => (if bt128.2.2 = true then ((pairs_Canon.f k bt128.2.1).bind fun t132 => (some (2, t132))) else (some (0, 0))))))) = some (r1, r2) := h
  clear h
  replace H := Option.bind_eq_some_iff.mp H
  obtain ⟨t120, A20, H⟩ := H
  replace H : ((pairs_list_find.f k t120 a0).bind fun bt123 => (if bt123.2.2 = true then ((pairs_Canon.f k bt123.2.1).bind fun t127 => (some (1, t127))) else ((pairs_list_back.f k t120 a0).bind fun bt128 => (if bt128.2.2 = true then ((pairs_Canon.f k bt128.2.1).bind fun t132 => (some (2, t132))) else (some (0, 0)))))) = some (r1, r2) := H
  have A2 := Aside0.mk A20
  clear A20
  replace H := Option.bind_eq_some_iff.mp H
  obtain ⟨⟨t123, t124, t125⟩, A30, H⟩ := H
  replace H : (if t125 = true then ((pairs_Canon.f k t124).bind fun t127 => (some (1, t127))) else ((pairs_list_back.f k t120 a0).bind fun bt128 => (if bt128.2.2 = true then ((pairs_Canon.f k bt128.2.1).bind fun t132 => (some (2, t132))) else (some (0, 0))))) = some (r1, r2) := H
  have A3 := Aside0.mk A30
  clear A30
  by_cases c4 : t125 = true
  · subst c4
    have H1 : ((pairs_Canon.f k t124).bind fun t127 => (some (1, t127))) = some (r1, r2) := by rw [if_pos rfl] at H; exact H
    clear H
    have H := H1
    clear H1
    replace H := Option.bind_eq_some_iff.mp H
    obtain ⟨t127, A50, H⟩ := H
    replace H : (some (1, t127)) = some (r1, r2) := H
    have A5 := Aside0.mk A50
    clear A50
    simp only [Option.some.injEq, Prod.mk.injEq] at H
    obtain ⟨rfl, rfl⟩ := H
    go_enter Try.func17, Try.ntmps17
    go_wp2_with (first | ((with_reducible refine gate_callee (f := 46) rfl ?_); refine goesL_ (some 9) rfl rfl Try.func46 (by kernel_rfl) rfl #[] rfl (by (try simp only [List.map_toArray, List.map_cons, List.map_nil]); first | done | rfl | (simp only [List.length_drop, List.length_take]; rfl)) ?_; (with_reducible refine (api_Brackets.calls  t120 _ A2.out).mono ?_); rintro e w6 ⟨v121, rfl, ho0, hb⟩; refine ⟨_, rfl, ?_⟩; have n0_ := Aside0.mk (Kd.R_lower ho0 (below_size (by repeat (first | (with_reducible first | exact HB.out | apply below_alloc | apply pw_below_drewN | apply below_drew1) | exact HB.out)))); have n1_ := Aside0.mk (below_step (by repeat (first | (with_reducible first | exact HB.out | apply below_alloc | apply pw_below_drewN | apply below_drew1) | exact HB.out)) hb); clear HB; have HO122 := n0_; have HB := n1_; clear n0_ n1_; (try clear hb); (try clear hb2); (try clear hk); (try clear hi); (try clear ho0); obtain ⟨Ao7, co7, eo7⟩ := Kd.R_slice HO122.out; subst eo7) | ((with_reducible refine gate_callee (f := 47) rfl ?_); refine goesL_ (some 13) rfl rfl Try.func47 (by kernel_rfl) rfl #[.slice Ao7 t120.length co7, .int .i64 a0] rfl (by (try simp only [List.map_toArray, List.map_cons, List.map_nil]); first | done | rfl | (simp only [List.length_drop, List.length_take]; rfl)) ?_; (with_reducible refine (pairs_list_find.calls k _ _ t120 a0 t123 t124 true _ ?side1 ?side2 A3.out).mono ?_); (case side1 => repeat (first | exact (Kd.R_reads' HO122.out).2.2 | (with_reducible refine Kd.C_alloc ?_ _) | (with_reducible refine Kd.C_drewN ?_ _) | (with_reducible refine Kd.C_drew ?_))); (case side2 => exact (Kd.R_reads' HO122.out).2.1); rintro e w8 ⟨rfl, hb⟩; refine ⟨_, rfl, ?_⟩; have n0_ := Aside0.mk (Kd.R_below (by (with_reducible repeat (first | apply Kd.R_alloc | apply Kd.R_drewN | apply Kd.R_drew)); exact HO122.out) hb); have n1_ := Aside0.mk (below_step (by repeat (first | (with_reducible first | exact HB.out | apply below_alloc | apply pw_below_drewN | apply below_drew1) | exact HB.out)) hb); clear HO122; clear HB; have HO122 := n0_; have HB := n1_; clear n0_ n1_; (try clear hb); (try clear hb2); (try clear hk); (try clear hi)) | ((with_reducible refine gate_dst (N := 5) rfl ?_); refine box_event ?hg (N := 5) ?hd (cs := #[.int .i64 0, .int .i64 0]) (t := 66) ?hr ?_; (case hd => rfl); (case hg => rfl); (case hr => first | (go_simp; done) | (go_simp; rfl)); intro gb126 hg w9 hbox hb; have n0_ := Aside0.mk (Kd.R_below (Kd.R_elderB (by (with_reducible repeat (first | apply Kd.R_alloc | apply Kd.R_drewN | apply Kd.R_drew)); exact HO122.out) gb126 (Nat.le_of_eq hg.symm)) hb); have n1_ := Aside0.mk (below_step (by repeat (first | (with_reducible first | exact HB.out | apply below_alloc | apply pw_below_drewN | apply below_drew1) | exact HB.out)) hb); have n2_ := Aside0.mk (hbox); have n3_ := Aside0.mk ((by rw [hg]; exact (below_size (by repeat (first | (with_reducible first | exact HB.out | apply below_alloc | apply pw_below_drewN | apply below_drew1) | exact HB.out))) : w.heap.size ≤ gb126)); have n4_ := Aside0.mk ((by rw [hg]; exact (below_size (by repeat (first | (with_reducible first | exact HB.out | apply below_alloc | apply pw_below_drewN | apply below_drew1) | exact HB.out))) : w.heap.size ≤ gb126)); clear HO122; clear HB; have HO122 := n0_; have HB := n1_; have BK126 := n2_; have GW126 := n3_; have GE126 := n4_; clear n0_ n1_ n2_ n3_ n4_; clear hb hbox hg; have hcz10_0 : w9.cell? ⟨gb126, 0, none⟩ = some (.int .i64 0) := (blk_cell BK126.out 0).trans rfl; have hcz10_1 : w9.cell? ⟨gb126, 1, none⟩ = some (.int .i64 0) := (blk_cell BK126.out 1).trans rfl; have hfz10_0 := blk_frozen BK126.out 0; have hfz10_1 := blk_frozen BK126.out 1) | ((with_reducible refine gate_callee (f := 21) rfl ?_); refine goesL_ (some 19) rfl rfl Try.func21 (by kernel_rfl) rfl #[.int .i64 t124] rfl (by (try simp only [List.map_toArray, List.map_cons, List.map_nil]); first | done | rfl | (simp only [List.length_drop, List.length_take]; rfl)) ?_; (with_reducible refine (pairs_Canon.calls k t124 t127 _ A5.out).mono ?_); rintro e w11 ⟨rfl, hb⟩; refine ⟨_, rfl, ?_⟩; have n0_ := Aside0.mk (Kd.R_below (by (with_reducible repeat (first | apply Kd.R_alloc | apply Kd.R_drewN | apply Kd.R_drew)); exact (Kd.R_mono (Kd.R_far (p := ⟨gb126, 1, none⟩) (Kd.R_far (p := ⟨gb126, 0, none⟩) (Kd.R_mono HO122.out (fun k_ hk => (⟨hk, hk.2⟩ : _ ∧ k_ ≠ gb126))) (fun _ hk => hk.2) (.int .i64 t123)) (fun _ hk => hk.2) (.int .i64 t124)) (fun _ h_ => h_.1))) hb); have n1_ := Aside0.mk (blk_below (g := gb126) (o := .cells #[.int .i64 t123, .int .i64 t124] 66 (0, 0)) (by (with_reducible repeat (first | refine blk_drewN ?_ _ | refine blk_drew ?_ | refine blk_alloc ?_ _)); refine blk_put (cs := #[.int .i64 t123, .int .i64 0]) ?_ 1 _ rfl; (with_reducible repeat (first | refine blk_drewN ?_ _ | refine blk_drew ?_ | refine blk_alloc ?_ _)); refine blk_put (cs := #[.int .i64 0, .int .i64 0]) ?_ 0 _ rfl; (with_reducible repeat (first | refine blk_drewN ?_ _ | refine blk_drew ?_ | refine blk_alloc ?_ _)); exact BK126.out) hb); have n2_ := Aside0.mk (below_step (by repeat (first | (with_reducible first | exact HB.out | apply below_alloc | apply pw_below_drewN | apply below_drew1 | refine below_set ?_ GE126.out) | exact HB.out)) hb); clear HO122; clear BK126; clear HB; have HO122 := n0_; have BK126 := n1_; have HB := n2_; clear n0_ n1_ n2_; (try clear hb); (try clear hb2); (try clear hk); (try clear hi)))
    go_ret2
    exact ⟨by first | rfl | (simp [errW_none, errW_some] <;> rfl) | (simp [*, errW_none, errW_some] <;> rfl), by repeat (first | (with_reducible first | exact HB.out | apply below_alloc | apply pw_below_drewN | apply below_drew1 | refine below_set ?_ GE126.out) | exact HB.out)⟩
  · replace c4 := Bool.eq_false_iff.mpr c4
    subst c4
    have H1 : ((pairs_list_back.f k t120 a0).bind fun bt128 => (if bt128.2.2 = true then ((pairs_Canon.f k bt128.2.1).bind fun t132 => (some (2, t132))) else (some (0, 0)))) = some (r1, r2) := by rw [if_neg (show ¬ (false = true) by decide)] at H; exact H
    clear H
    have H := H1
    clear H1
    replace H := Option.bind_eq_some_iff.mp H
    obtain ⟨⟨t128, t129, t130⟩, A120, H⟩ := H
    replace H : (if t130 = true then ((pairs_Canon.f k t129).bind fun t132 => (some (2, t132))) else (some (0, 0))) = some (r1, r2) := H
    have A12 := Aside0.mk A120
    clear A120
    by_cases c13 : t130 = true
    · subst c13
      have H1 : ((pairs_Canon.f k t129).bind fun t132 => (some (2, t132))) = some (r1, r2) := by rw [if_pos rfl] at H; exact H
      clear H
      have H := H1
      clear H1
      replace H := Option.bind_eq_some_iff.mp H
      obtain ⟨t132, A140, H⟩ := H
      replace H : (some (2, t132)) = some (r1, r2) := H
      have A14 := Aside0.mk A140
      clear A140
      simp only [Option.some.injEq, Prod.mk.injEq] at H
      obtain ⟨rfl, rfl⟩ := H
      go_enter Try.func17, Try.ntmps17
      go_wp2_with (first | ((with_reducible refine gate_callee (f := 46) rfl ?_); refine goesL_ (some 9) rfl rfl Try.func46 (by kernel_rfl) rfl #[] rfl (by (try simp only [List.map_toArray, List.map_cons, List.map_nil]); first | done | rfl | (simp only [List.length_drop, List.length_take]; rfl)) ?_; (with_reducible refine (api_Brackets.calls  t120 _ A2.out).mono ?_); rintro e w15 ⟨v121, rfl, ho0, hb⟩; refine ⟨_, rfl, ?_⟩; have n0_ := Aside0.mk (Kd.R_lower ho0 (below_size (by repeat (first | (with_reducible first | exact HB.out | apply below_alloc | apply pw_below_drewN | apply below_drew1) | exact HB.out)))); have n1_ := Aside0.mk (below_step (by repeat (first | (with_reducible first | exact HB.out | apply below_alloc | apply pw_below_drewN | apply below_drew1) | exact HB.out)) hb); clear HB; have HO122 := n0_; have HB := n1_; clear n0_ n1_; (try clear hb); (try clear hb2); (try clear hk); (try clear hi); (try clear ho0); obtain ⟨Ao16, co16, eo16⟩ := Kd.R_slice HO122.out; subst eo16) | ((with_reducible refine gate_callee (f := 47) rfl ?_); refine goesL_ (some 13) rfl rfl Try.func47 (by kernel_rfl) rfl #[.slice Ao16 t120.length co16, .int .i64 a0] rfl (by (try simp only [List.map_toArray, List.map_cons, List.map_nil]); first | done | rfl | (simp only [List.length_drop, List.length_take]; rfl)) ?_; (with_reducible refine (pairs_list_find.calls k _ _ t120 a0 t123 t124 false _ ?side1 ?side2 A3.out).mono ?_); (case side1 => repeat (first | exact (Kd.R_reads' HO122.out).2.2 | (with_reducible refine Kd.C_alloc ?_ _) | (with_reducible refine Kd.C_drewN ?_ _) | (with_reducible refine Kd.C_drew ?_))); (case side2 => exact (Kd.R_reads' HO122.out).2.1); rintro e w17 ⟨rfl, hb⟩; refine ⟨_, rfl, ?_⟩; have n0_ := Aside0.mk (Kd.R_below (by (with_reducible repeat (first | apply Kd.R_alloc | apply Kd.R_drewN | apply Kd.R_drew)); exact HO122.out) hb); have n1_ := Aside0.mk (below_step (by repeat (first | (with_reducible first | exact HB.out | apply below_alloc | apply pw_below_drewN | apply below_drew1) | exact HB.out)) hb); clear HO122; clear HB; have HO122 := n0_; have HB := n1_; clear n0_ n1_; (try clear hb); (try clear hb2); (try clear hk); (try clear hi)) | ((with_reducible refine gate_dst (N := 5) rfl ?_); refine box_event ?hg (N := 5) ?hd (cs := #[.int .i64 0, .int .i64 0]) (t := 66) ?hr ?_; (case hd => rfl); (case hg => rfl); (case hr => first | (go_simp; done) | (go_simp; rfl)); intro gb126 hg w18 hbox hb; have n0_ := Aside0.mk (Kd.R_below (Kd.R_elderB (by (with_reducible repeat (first | apply Kd.R_alloc | apply Kd.R_drewN | apply Kd.R_drew)); exact HO122.out) gb126 (Nat.le_of_eq hg.symm)) hb); have n1_ := Aside0.mk (below_step (by repeat (first | (with_reducible first | exact HB.out | apply below_alloc | apply pw_below_drewN | apply below_drew1) | exact HB.out)) hb); have n2_ := Aside0.mk (hbox); have n3_ := Aside0.mk ((by rw [hg]; exact (below_size (by repeat (first | (with_reducible first | exact HB.out | apply below_alloc | apply pw_below_drewN | apply below_drew1) | exact HB.out))) : w.heap.size ≤ gb126)); have n4_ := Aside0.mk ((by rw [hg]; exact (below_size (by repeat (first | (with_reducible first | exact HB.out | apply below_alloc | apply pw_below_drewN | apply below_drew1) | exact HB.out))) : w.heap.size ≤ gb126)); clear HO122; clear HB; have HO122 := n0_; have HB := n1_; have BK126 := n2_; have GW126 := n3_; have GE126 := n4_; clear n0_ n1_ n2_ n3_ n4_; clear hb hbox hg; have hcz19_0 : w18.cell? ⟨gb126, 0, none⟩ = some (.int .i64 0) := (blk_cell BK126.out 0).trans rfl; have hcz19_1 : w18.cell? ⟨gb126, 1, none⟩ = some (.int .i64 0) := (blk_cell BK126.out 1).trans rfl; have hfz19_0 := blk_frozen BK126.out 0; have hfz19_1 := blk_frozen BK126.out 1) | ((with_reducible refine gate_callee (f := 48) rfl ?_); refine goesL_ (some 23) rfl rfl Try.func48 (by kernel_rfl) rfl #[.slice Ao16 t120.length co16, .int .i64 a0] rfl (by (try simp only [List.map_toArray, List.map_cons, List.map_nil]); first | done | rfl | (simp only [List.length_drop, List.length_take]; rfl)) ?_; (with_reducible refine (pairs_list_back.calls k _ _ t120 a0 t128 t129 true _ ?side1 ?side2 A12.out).mono ?_); (case side1 => refine (Kd.R_reads' (e := 66) (base := w.heap.size) (ok := fun k_ => (True ∧ k_ ≠ gb126)) (n := t120.length) (c := co16) ?_).2.2; exact (by (with_reducible repeat (first | apply Kd.R_alloc | apply Kd.R_drewN | apply Kd.R_drew)); exact (Kd.R_mono (Kd.R_far (p := ⟨gb126, 1, none⟩) (Kd.R_far (p := ⟨gb126, 0, none⟩) (Kd.R_mono HO122.out (fun k_ hk => (⟨hk, hk.2⟩ : _ ∧ k_ ≠ gb126))) (fun _ hk => hk.2) (.int .i64 t123)) (fun _ hk => hk.2) (.int .i64 t124)) (fun _ h_ => h_.1)))); (case side2 => exact (Kd.R_reads' HO122.out).2.1); rintro e w20 ⟨rfl, hb⟩; refine ⟨_, rfl, ?_⟩; have n0_ := Aside0.mk (Kd.R_below (by (with_reducible repeat (first | apply Kd.R_alloc | apply Kd.R_drewN | apply Kd.R_drew)); exact (Kd.R_mono (Kd.R_far (p := ⟨gb126, 1, none⟩) (Kd.R_far (p := ⟨gb126, 0, none⟩) (Kd.R_mono HO122.out (fun k_ hk => (⟨hk, hk.2⟩ : _ ∧ k_ ≠ gb126))) (fun _ hk => hk.2) (.int .i64 t123)) (fun _ hk => hk.2) (.int .i64 t124)) (fun _ h_ => h_.1))) hb); have n1_ := Aside0.mk (blk_below (g := gb126) (o := .cells #[.int .i64 t123, .int .i64 t124] 66 (0, 0)) (by (with_reducible repeat (first | refine blk_drewN ?_ _ | refine blk_drew ?_ | refine blk_alloc ?_ _)); refine blk_put (cs := #[.int .i64 t123, .int .i64 0]) ?_ 1 _ rfl; (with_reducible repeat (first | refine blk_drewN ?_ _ | refine blk_drew ?_ | refine blk_alloc ?_ _)); refine blk_put (cs := #[.int .i64 0, .int .i64 0]) ?_ 0 _ rfl; (with_reducible repeat (first | refine blk_drewN ?_ _ | refine blk_drew ?_ | refine blk_alloc ?_ _)); exact BK126.out) hb); have n2_ := Aside0.mk (below_step (by repeat (first | (with_reducible first | exact HB.out | apply below_alloc | apply pw_below_drewN | apply below_drew1 | refine below_set ?_ GE126.out) | exact HB.out)) hb); clear HO122; clear BK126; clear HB; have HO122 := n0_; have BK126 := n1_; have HB := n2_; clear n0_ n1_ n2_; (try clear hb); (try clear hb2); (try clear hk); (try clear hi)) | ((with_reducible refine gate_dst (N := 7) rfl ?_); refine box_event ?hg (N := 7) ?hd (cs := #[.int .i64 0, .int .i64 0]) (t := 66) ?hr ?_; (case hd => rfl); (case hg => rfl); (case hr => first | (go_simp; done) | (go_simp; rfl)); intro gb131 hg w21 hbox hb; have n0_ := Aside0.mk (Kd.R_below (Kd.R_elderB (by (with_reducible repeat (first | apply Kd.R_alloc | apply Kd.R_drewN | apply Kd.R_drew)); exact HO122.out) gb131 (Nat.le_of_eq hg.symm)) hb); have n1_ := Aside0.mk (blk_below (g := gb126) (o := .cells #[.int .i64 t123, .int .i64 t124] 66 (0, 0)) (by (with_reducible repeat (first | refine blk_drewN ?_ _ | refine blk_drew ?_ | refine blk_alloc ?_ _)); exact BK126.out) hb); have n2_ := Aside0.mk (below_step (by repeat (first | (with_reducible first | exact HB.out | apply below_alloc | apply pw_below_drewN | apply below_drew1 | refine below_set ?_ GE126.out) | exact HB.out)) hb); have n3_ := Aside0.mk (hbox); have n4_ := Aside0.mk ((by rw [hg]; exact (below_size (by repeat (first | (with_reducible first | exact HB.out | apply below_alloc | apply pw_below_drewN | apply below_drew1 | refine below_set ?_ GE126.out) | exact HB.out))) : w.heap.size ≤ gb131)); have n5_ := Aside0.mk ((by rw [hg]; exact (below_size (by repeat (first | (with_reducible first | exact HB.out | apply below_alloc | apply pw_below_drewN | apply below_drew1 | refine below_set ?_ GE126.out) | exact HB.out))) : w.heap.size ≤ gb131)); have n6_ := Aside0.mk ((by rw [hg]; exact Nat.ne_of_lt (blk_lt (g := gb126) (o := .cells #[.int .i64 t123, .int .i64 t124] 66 (0, 0)) (by (with_reducible repeat (first | refine blk_drewN ?_ _ | refine blk_drew ?_ | refine blk_alloc ?_ _)); exact BK126.out)) : gb126 ≠ gb131)); have n7_ := Aside0.mk ((by rw [hg]; exact Nat.ne_of_gt (blk_lt (g := gb126) (o := .cells #[.int .i64 t123, .int .i64 t124] 66 (0, 0)) (by (with_reducible repeat (first | refine blk_drewN ?_ _ | refine blk_drew ?_ | refine blk_alloc ?_ _)); exact BK126.out)) : gb131 ≠ gb126)); clear HO122; clear BK126; clear HB; have HO122 := n0_; have BK126 := n1_; have HB := n2_; have BK131 := n3_; have GW131 := n4_; have GE131 := n5_; have NB126_131 := n6_; have NB131_126 := n7_; clear n0_ n1_ n2_ n3_ n4_ n5_ n6_ n7_; clear hb hbox hg; have hnb22 := NB131_126.out; have hnc22 := NB126_131.out; have hcz23_0 : w21.cell? ⟨gb131, 0, none⟩ = some (.int .i64 0) := (blk_cell BK131.out 0).trans rfl; have hcz23_1 : w21.cell? ⟨gb131, 1, none⟩ = some (.int .i64 0) := (blk_cell BK131.out 1).trans rfl; have hfz23_0 := blk_frozen BK131.out 0; have hfz23_1 := blk_frozen BK131.out 1) | ((with_reducible refine gate_callee (f := 21) rfl ?_); refine goesL_ (some 29) rfl rfl Try.func21 (by kernel_rfl) rfl #[.int .i64 t129] rfl (by (try simp only [List.map_toArray, List.map_cons, List.map_nil]); first | done | rfl | (simp only [List.length_drop, List.length_take]; rfl)) ?_; (with_reducible refine (pairs_Canon.calls k t129 t132 _ A14.out).mono ?_); rintro e w24 ⟨rfl, hb⟩; refine ⟨_, rfl, ?_⟩; have n0_ := Aside0.mk (Kd.R_below (by (with_reducible repeat (first | apply Kd.R_alloc | apply Kd.R_drewN | apply Kd.R_drew)); exact (Kd.R_mono (Kd.R_far (p := ⟨gb131, 1, none⟩) (Kd.R_far (p := ⟨gb131, 0, none⟩) (Kd.R_mono HO122.out (fun k_ hk => (⟨hk, hk.2⟩ : _ ∧ k_ ≠ gb131))) (fun _ hk => hk.2) (.int .i64 t128)) (fun _ hk => hk.2) (.int .i64 t129)) (fun _ h_ => h_.1))) hb); have n1_ := Aside0.mk (blk_below (g := gb126) (o := .cells #[.int .i64 t123, .int .i64 t124] 66 (0, 0)) (by (with_reducible repeat (first | refine blk_drewN ?_ _ | refine blk_drew ?_ | refine blk_alloc ?_ _)); refine blk_far ?_ NB126_131.out _; (with_reducible repeat (first | refine blk_drewN ?_ _ | refine blk_drew ?_ | refine blk_alloc ?_ _)); refine blk_far ?_ NB126_131.out _; (with_reducible repeat (first | refine blk_drewN ?_ _ | refine blk_drew ?_ | refine blk_alloc ?_ _)); exact BK126.out) hb); have n2_ := Aside0.mk (blk_below (g := gb131) (o := .cells #[.int .i64 t128, .int .i64 t129] 66 (0, 0)) (by (with_reducible repeat (first | refine blk_drewN ?_ _ | refine blk_drew ?_ | refine blk_alloc ?_ _)); refine blk_put (cs := #[.int .i64 t128, .int .i64 0]) ?_ 1 _ rfl; (with_reducible repeat (first | refine blk_drewN ?_ _ | refine blk_drew ?_ | refine blk_alloc ?_ _)); refine blk_put (cs := #[.int .i64 0, .int .i64 0]) ?_ 0 _ rfl; (with_reducible repeat (first | refine blk_drewN ?_ _ | refine blk_drew ?_ | refine blk_alloc ?_ _)); exact BK131.out) hb); have n3_ := Aside0.mk (below_step (by repeat (first | (with_reducible first | exact HB.out | apply below_alloc | apply pw_below_drewN | apply below_drew1 | refine below_set ?_ GE126.out | refine below_set ?_ GE131.out) | exact HB.out)) hb); clear HO122; clear BK126; clear BK131; clear HB; have HO122 := n0_; have BK126 := n1_; have BK131 := n2_; have HB := n3_; clear n0_ n1_ n2_ n3_; (try clear hb); (try clear hb2); (try clear hk); (try clear hi)))
      go_ret2
      exact ⟨by first | rfl | (simp [errW_none, errW_some] <;> rfl) | (simp [*, errW_none, errW_some] <;> rfl), by repeat (first | (with_reducible first | exact HB.out | apply below_alloc | apply pw_below_drewN | apply below_drew1 | refine below_set ?_ GE126.out | refine below_set ?_ GE131.out) | exact HB.out)⟩
    · replace c13 := Bool.eq_false_iff.mpr c13
      subst c13
      have H1 : (some (0, 0)) = some (r1, r2) := by rw [if_neg (show ¬ (false = true) by decide)] at H; exact H
      clear H
      have H := H1
      clear H1
      simp only [Option.some.injEq, Prod.mk.injEq] at H
      obtain ⟨rfl, rfl⟩ := H
      go_enter Try.func17, Try.ntmps17
      go_wp2_with (first | ((with_reducible refine gate_callee (f := 46) rfl ?_); refine goesL_ (some 9) rfl rfl Try.func46 (by kernel_rfl) rfl #[] rfl (by (try simp only [List.map_toArray, List.map_cons, List.map_nil]); first | done | rfl | (simp only [List.length_drop, List.length_take]; rfl)) ?_; (with_reducible refine (api_Brackets.calls  t120 _ A2.out).mono ?_); rintro e w25 ⟨v121, rfl, ho0, hb⟩; refine ⟨_, rfl, ?_⟩; have n0_ := Aside0.mk (Kd.R_lower ho0 (below_size (by repeat (first | (with_reducible first | exact HB.out | apply below_alloc | apply pw_below_drewN | apply below_drew1) | exact HB.out)))); have n1_ := Aside0.mk (below_step (by repeat (first | (with_reducible first | exact HB.out | apply below_alloc | apply pw_below_drewN | apply below_drew1) | exact HB.out)) hb); clear HB; have HO122 := n0_; have HB := n1_; clear n0_ n1_; (try clear hb); (try clear hb2); (try clear hk); (try clear hi); (try clear ho0); obtain ⟨Ao26, co26, eo26⟩ := Kd.R_slice HO122.out; subst eo26) | ((with_reducible refine gate_callee (f := 47) rfl ?_); refine goesL_ (some 13) rfl rfl Try.func47 (by kernel_rfl) rfl #[.slice Ao26 t120.length co26, .int .i64 a0] rfl (by (try simp only [List.map_toArray, List.map_cons, List.map_nil]); first | done | rfl | (simp only [List.length_drop, List.length_take]; rfl)) ?_; (with_reducible refine (pairs_list_find.calls k _ _ t120 a0 t123 t124 false _ ?side1 ?side2 A3.out).mono ?_); (case side1 => repeat (first | exact (Kd.R_reads' HO122.out).2.2 | (with_reducible refine Kd.C_alloc ?_ _) | (with_reducible refine Kd.C_drewN ?_ _) | (with_reducible refine Kd.C_drew ?_))); (case side2 => exact (Kd.R_reads' HO122.out).2.1); rintro e w27 ⟨rfl, hb⟩; refine ⟨_, rfl, ?_⟩; have n0_ := Aside0.mk (Kd.R_below (by (with_reducible repeat (first | apply Kd.R_alloc | apply Kd.R_drewN | apply Kd.R_drew)); exact HO122.out) hb); have n1_ := Aside0.mk (below_step (by repeat (first | (with_reducible first | exact HB.out | apply below_alloc | apply pw_below_drewN | apply below_drew1) | exact HB.out)) hb); clear HO122; clear HB; have HO122 := n0_; have HB := n1_; clear n0_ n1_; (try clear hb); (try clear hb2); (try clear hk); (try clear hi)) | ((with_reducible refine gate_dst (N := 5) rfl ?_); refine box_event ?hg (N := 5) ?hd (cs := #[.int .i64 0, .int .i64 0]) (t := 66) ?hr ?_; (case hd => rfl); (case hg => rfl); (case hr => first | (go_simp; done) | (go_simp; rfl)); intro gb126 hg w28 hbox hb; have n0_ := Aside0.mk (Kd.R_below (Kd.R_elderB (by (with_reducible repeat (first | apply Kd.R_alloc | apply Kd.R_drewN | apply Kd.R_drew)); exact HO122.out) gb126 (Nat.le_of_eq hg.symm)) hb); have n1_ := Aside0.mk (below_step (by repeat (first | (with_reducible first | exact HB.out | apply below_alloc | apply pw_below_drewN | apply below_drew1) | exact HB.out)) hb); have n2_ := Aside0.mk (hbox); have n3_ := Aside0.mk ((by rw [hg]; exact (below_size (by repeat (first | (with_reducible first | exact HB.out | apply below_alloc | apply pw_below_drewN | apply below_drew1) | exact HB.out))) : w.heap.size ≤ gb126)); have n4_ := Aside0.mk ((by rw [hg]; exact (below_size (by repeat (first | (with_reducible first | exact HB.out | apply below_alloc | apply pw_below_drewN | apply below_drew1) | exact HB.out))) : w.heap.size ≤ gb126)); clear HO122; clear HB; have HO122 := n0_; have HB := n1_; have BK126 := n2_; have GW126 := n3_; have GE126 := n4_; clear n0_ n1_ n2_ n3_ n4_; clear hb hbox hg; have hcz29_0 : w28.cell? ⟨gb126, 0, none⟩ = some (.int .i64 0) := (blk_cell BK126.out 0).trans rfl; have hcz29_1 : w28.cell? ⟨gb126, 1, none⟩ = some (.int .i64 0) := (blk_cell BK126.out 1).trans rfl; have hfz29_0 := blk_frozen BK126.out 0; have hfz29_1 := blk_frozen BK126.out 1) | ((with_reducible refine gate_callee (f := 48) rfl ?_); refine goesL_ (some 23) rfl rfl Try.func48 (by kernel_rfl) rfl #[.slice Ao26 t120.length co26, .int .i64 a0] rfl (by (try simp only [List.map_toArray, List.map_cons, List.map_nil]); first | done | rfl | (simp only [List.length_drop, List.length_take]; rfl)) ?_; (with_reducible refine (pairs_list_back.calls k _ _ t120 a0 t128 t129 false _ ?side1 ?side2 A12.out).mono ?_); (case side1 => refine (Kd.R_reads' (e := 66) (base := w.heap.size) (ok := fun k_ => (True ∧ k_ ≠ gb126)) (n := t120.length) (c := co26) ?_).2.2; exact (by (with_reducible repeat (first | apply Kd.R_alloc | apply Kd.R_drewN | apply Kd.R_drew)); exact (Kd.R_mono (Kd.R_far (p := ⟨gb126, 1, none⟩) (Kd.R_far (p := ⟨gb126, 0, none⟩) (Kd.R_mono HO122.out (fun k_ hk => (⟨hk, hk.2⟩ : _ ∧ k_ ≠ gb126))) (fun _ hk => hk.2) (.int .i64 t123)) (fun _ hk => hk.2) (.int .i64 t124)) (fun _ h_ => h_.1)))); (case side2 => exact (Kd.R_reads' HO122.out).2.1); rintro e w30 ⟨rfl, hb⟩; refine ⟨_, rfl, ?_⟩; have n0_ := Aside0.mk (Kd.R_below (by (with_reducible repeat (first | apply Kd.R_alloc | apply Kd.R_drewN | apply Kd.R_drew)); exact (Kd.R_mono (Kd.R_far (p := ⟨gb126, 1, none⟩) (Kd.R_far (p := ⟨gb126, 0, none⟩) (Kd.R_mono HO122.out (fun k_ hk => (⟨hk, hk.2⟩ : _ ∧ k_ ≠ gb126))) (fun _ hk => hk.2) (.int .i64 t123)) (fun _ hk => hk.2) (.int .i64 t124)) (fun _ h_ => h_.1))) hb); have n1_ := Aside0.mk (blk_below (g := gb126) (o := .cells #[.int .i64 t123, .int .i64 t124] 66 (0, 0)) (by (with_reducible repeat (first | refine blk_drewN ?_ _ | refine blk_drew ?_ | refine blk_alloc ?_ _)); refine blk_put (cs := #[.int .i64 t123, .int .i64 0]) ?_ 1 _ rfl; (with_reducible repeat (first | refine blk_drewN ?_ _ | refine blk_drew ?_ | refine blk_alloc ?_ _)); refine blk_put (cs := #[.int .i64 0, .int .i64 0]) ?_ 0 _ rfl; (with_reducible repeat (first | refine blk_drewN ?_ _ | refine blk_drew ?_ | refine blk_alloc ?_ _)); exact BK126.out) hb); have n2_ := Aside0.mk (below_step (by repeat (first | (with_reducible first | exact HB.out | apply below_alloc | apply pw_below_drewN | apply below_drew1 | refine below_set ?_ GE126.out) | exact HB.out)) hb); clear HO122; clear BK126; clear HB; have HO122 := n0_; have BK126 := n1_; have HB := n2_; clear n0_ n1_ n2_; (try clear hb); (try clear hb2); (try clear hk); (try clear hi)) | ((with_reducible refine gate_dst (N := 7) rfl ?_); refine box_event ?hg (N := 7) ?hd (cs := #[.int .i64 0, .int .i64 0]) (t := 66) ?hr ?_; (case hd => rfl); (case hg => rfl); (case hr => first | (go_simp; done) | (go_simp; rfl)); intro gb131 hg w31 hbox hb; have n0_ := Aside0.mk (Kd.R_below (Kd.R_elderB (by (with_reducible repeat (first | apply Kd.R_alloc | apply Kd.R_drewN | apply Kd.R_drew)); exact HO122.out) gb131 (Nat.le_of_eq hg.symm)) hb); have n1_ := Aside0.mk (blk_below (g := gb126) (o := .cells #[.int .i64 t123, .int .i64 t124] 66 (0, 0)) (by (with_reducible repeat (first | refine blk_drewN ?_ _ | refine blk_drew ?_ | refine blk_alloc ?_ _)); exact BK126.out) hb); have n2_ := Aside0.mk (below_step (by repeat (first | (with_reducible first | exact HB.out | apply below_alloc | apply pw_below_drewN | apply below_drew1 | refine below_set ?_ GE126.out) | exact HB.out)) hb); have n3_ := Aside0.mk (hbox); have n4_ := Aside0.mk ((by rw [hg]; exact (below_size (by repeat (first | (with_reducible first | exact HB.out | apply below_alloc | apply pw_below_drewN | apply below_drew1 | refine below_set ?_ GE126.out) | exact HB.out))) : w.heap.size ≤ gb131)); have n5_ := Aside0.mk ((by rw [hg]; exact (below_size (by repeat (first | (with_reducible first | exact HB.out | apply below_alloc | apply pw_below_drewN | apply below_drew1 | refine below_set ?_ GE126.out) | exact HB.out))) : w.heap.size ≤ gb131)); have n6_ := Aside0.mk ((by rw [hg]; exact Nat.ne_of_lt (blk_lt (g := gb126) (o := .cells #[.int .i64 t123, .int .i64 t124] 66 (0, 0)) (by (with_reducible repeat (first | refine blk_drewN ?_ _ | refine blk_drew ?_ | refine blk_alloc ?_ _)); exact BK126.out)) : gb126 ≠ gb131)); have n7_ := Aside0.mk ((by rw [hg]; exact Nat.ne_of_gt (blk_lt (g := gb126) (o := .cells #[.int .i64 t123, .int .i64 t124] 66 (0, 0)) (by (with_reducible repeat (first | refine blk_drewN ?_ _ | refine blk_drew ?_ | refine blk_alloc ?_ _)); exact BK126.out)) : gb131 ≠ gb126)); clear HO122; clear BK126; clear HB; have HO122 := n0_; have BK126 := n1_; have HB := n2_; have BK131 := n3_; have GW131 := n4_; have GE131 := n5_; have NB126_131 := n6_; have NB131_126 := n7_; clear n0_ n1_ n2_ n3_ n4_ n5_ n6_ n7_; clear hb hbox hg; have hnb32 := NB131_126.out; have hnc32 := NB126_131.out; have hcz33_0 : w31.cell? ⟨gb131, 0, none⟩ = some (.int .i64 0) := (blk_cell BK131.out 0).trans rfl; have hcz33_1 : w31.cell? ⟨gb131, 1, none⟩ = some (.int .i64 0) := (blk_cell BK131.out 1).trans rfl; have hfz33_0 := blk_frozen BK131.out 0; have hfz33_1 := blk_frozen BK131.out 1))
      go_ret2
      exact ⟨by first | rfl | (simp [errW_none, errW_some] <;> rfl) | (simp [*, errW_none, errW_some] <;> rfl), by repeat (first | (with_reducible first | exact HB.out | apply below_alloc | apply pw_below_drewN | apply below_drew1 | refine below_set ?_ GE126.out | refine below_set ?_ GE131.out) | exact HB.out)⟩

/-! ### api_Mirrors: function 49 -/
def api_Mirrors.f  : Option ((List (S66))) := some (([(⟨40, 41⟩ : S66), (⟨60, 62⟩ : S66), (⟨91, 93⟩ : S66), (⟨123, 125⟩ : S66), (⟨171, 187⟩ : S66), (⟨3898, 3899⟩ : S66), (⟨8249, 8250⟩ : S66), (⟨8261, 8262⟩ : S66), (⟨8317, 8318⟩ : S66), (⟨8333, 8334⟩ : S66), (⟨8712, 8715⟩ : S66), (⟨8804, 8805⟩ : S66), (⟨8810, 8811⟩ : S66), (⟨9001, 9002⟩ : S66), (⟨10088, 10089⟩ : S66), (⟨10090, 10091⟩ : S66), (⟨10092, 10093⟩ : S66), (⟨10094, 10095⟩ : S66), (⟨10096, 10097⟩ : S66), (⟨10098, 10099⟩ : S66), (⟨10100, 10101⟩ : S66), (⟨10214, 10215⟩ : S66), (⟨10216, 10217⟩ : S66), (⟨10218, 10219⟩ : S66), (⟨10220, 10221⟩ : S66), (⟨10222, 10223⟩ : S66), (⟨10627, 10628⟩ : S66), (⟨10629, 10630⟩ : S66), (⟨10631, 10632⟩ : S66), (⟨10633, 10634⟩ : S66), (⟨10635, 10636⟩ : S66), (⟨10641, 10642⟩ : S66), (⟨12296, 12297⟩ : S66), (⟨12298, 12299⟩ : S66), (⟨12300, 12301⟩ : S66), (⟨12302, 12303⟩ : S66), (⟨12304, 12305⟩ : S66), (⟨12308, 12309⟩ : S66), (⟨12310, 12311⟩ : S66), (⟨12312, 12313⟩ : S66), (⟨12314, 12315⟩ : S66), (⟨65113, 65114⟩ : S66), (⟨65115, 65116⟩ : S66), (⟨65117, 65118⟩ : S66), (⟨65124, 65125⟩ : S66), (⟨65288, 65289⟩ : S66), (⟨65308, 65310⟩ : S66), (⟨65339, 65341⟩ : S66), (⟨65371, 65373⟩ : S66), (⟨65375, 65376⟩ : S66), (⟨65378, 65379⟩ : S66)] : List (S66)))
set_option maxHeartbeats 8000000 in
set_option maxRecDepth 100000 in
theorem api_Mirrors.calls  (r : List (S66)) (w : World) (h : api_Mirrors.f  = some r) :
    Calls Try.prog 49 #[] w fun e w' => ∃ v0_ : Value, e = .returned (v0_) ∧ Kd.R k66 66 w' w.heap.size (fun _ => True) v0_ r ∧ Below w.heap.size w w' := by
  have hu66 := Try.underlying66
  have HB := Aside0.mk (Below.refl w.heap.size w)
  have H : (some (([(⟨40, 41⟩ : S66), (⟨60, 62⟩ : S66), (⟨91, 93⟩ : S66), (⟨123, 125⟩ : S66), (⟨171, 187⟩ : S66), (⟨3898, 3899⟩ : S66), (⟨8249, 8250⟩ : S66), (⟨8261, 8262⟩ : S66), (⟨8317, 8318⟩ : S66), (⟨8333, 8334⟩ : S66), (⟨8712, 8715⟩ : S66), (⟨8804, 8805⟩ : S66), (⟨8810, 8811⟩ : S66), (⟨9001, 9002⟩ : S66), (⟨10088, 10089⟩ : S66), (⟨10090, 10091⟩ : S66), (⟨10092, 10093⟩ : S66), (⟨10094, 10095⟩ : S66), (⟨10096, 10097⟩ : S66), (⟨10098, 10099⟩ : S66), (⟨10100, 10101⟩ : S66), (⟨10214, 10215⟩ : S66), (⟨10216, 10217⟩ : S66), (⟨10218, 10219⟩ : S66), (⟨10220, 10221⟩ : S66), (⟨10222, 10223⟩ : S66), (⟨10627, 10628⟩ : S66), (⟨10629, 10630⟩ : S66), (⟨10631, 10632⟩ : S66), (⟨10633, 10634⟩ : S66), (⟨10635, 10636⟩ : S66), (⟨10641, 10642⟩ : S66), (⟨12296, 12297⟩ : S66), (⟨12298, 12299⟩ : S66), (⟨12300, 12301⟩ : S66), (⟨12302, 12303⟩ : S66), (⟨12304, 12305⟩ : S66), (⟨12308, 12309⟩ : S66), (⟨12310, 12311⟩ : S66), (⟨12312, 12313⟩ : S66), (⟨12314, 12315⟩ : S66), (⟨65113, 65114⟩ : S66), (⟨65115, 65116⟩ : S66), (⟨65117, 65118⟩ : S66), (⟨65124, 65125⟩ : S66), (⟨65288, 65289⟩ : S66), (⟨65308, 65310⟩ : S66), (⟨65339, 65341⟩ : S66), (⟨65371, 65373⟩ : S66), (⟨65375, 65376⟩ : S66), (⟨65378, 65379⟩ : S66)] : List (S66)))) = some r := h
  clear h
  obtain ⟨y133, hy133⟩ : ∃ y_ : List (S66), y_ = (([(⟨40, 41⟩ : S66), (⟨60, 62⟩ : S66), (⟨91, 93⟩ : S66), (⟨123, 125⟩ : S66), (⟨171, 187⟩ : S66), (⟨3898, 3899⟩ : S66), (⟨8249, 8250⟩ : S66), (⟨8261, 8262⟩ : S66), (⟨8317, 8318⟩ : S66), (⟨8333, 8334⟩ : S66), (⟨8712, 8715⟩ : S66), (⟨8804, 8805⟩ : S66), (⟨8810, 8811⟩ : S66), (⟨9001, 9002⟩ : S66), (⟨10088, 10089⟩ : S66), (⟨10090, 10091⟩ : S66), (⟨10092, 10093⟩ : S66), (⟨10094, 10095⟩ : S66), (⟨10096, 10097⟩ : S66), (⟨10098, 10099⟩ : S66), (⟨10100, 10101⟩ : S66), (⟨10214, 10215⟩ : S66), (⟨10216, 10217⟩ : S66), (⟨10218, 10219⟩ : S66), (⟨10220, 10221⟩ : S66), (⟨10222, 10223⟩ : S66), (⟨10627, 10628⟩ : S66), (⟨10629, 10630⟩ : S66), (⟨10631, 10632⟩ : S66), (⟨10633, 10634⟩ : S66), (⟨10635, 10636⟩ : S66), (⟨10641, 10642⟩ : S66), (⟨12296, 12297⟩ : S66), (⟨12298, 12299⟩ : S66), (⟨12300, 12301⟩ : S66), (⟨12302, 12303⟩ : S66), (⟨12304, 12305⟩ : S66), (⟨12308, 12309⟩ : S66), (⟨12310, 12311⟩ : S66), (⟨12312, 12313⟩ : S66), (⟨12314, 12315⟩ : S66), (⟨65113, 65114⟩ : S66), (⟨65115, 65116⟩ : S66), (⟨65117, 65118⟩ : S66), (⟨65124, 65125⟩ : S66), (⟨65288, 65289⟩ : S66), (⟨65308, 65310⟩ : S66), (⟨65339, 65341⟩ : S66), (⟨65371, 65373⟩ : S66), (⟨65375, 65376⟩ : S66), (⟨65378, 65379⟩ : S66)] : List (S66))) := ⟨_, rfl⟩
  replace H : (some y133) = some r := by first | (rw [hy133]; with_reducible exact H) | (have H2_ := (Option.bind_some _ _).symm.trans H; rw [hy133]; with_reducible exact H2_) | (have H2_ := (Option.bind_some _ _).symm.trans H; with_reducible exact H2_) | with_reducible exact H | (rw [hy133]; exact H) | exact H
  have Ny133 := Aside0.mk hy133
  clear hy133
  obtain rfl := Option.some.inj H
  go_enter Try.func49, Try.ntmps49
  go_wp2_with (first | ((with_reducible refine gate_dst (N := 52) rfl ?_); refine Kd.R_lit k66 _ 66 ?hg (N := 52) ?hd (xs := ([(⟨40, 41⟩ : S66), (⟨60, 62⟩ : S66), (⟨91, 93⟩ : S66), (⟨123, 125⟩ : S66), (⟨171, 187⟩ : S66), (⟨3898, 3899⟩ : S66), (⟨8249, 8250⟩ : S66), (⟨8261, 8262⟩ : S66), (⟨8317, 8318⟩ : S66), (⟨8333, 8334⟩ : S66), (⟨8712, 8715⟩ : S66), (⟨8804, 8805⟩ : S66), (⟨8810, 8811⟩ : S66), (⟨9001, 9002⟩ : S66), (⟨10088, 10089⟩ : S66), (⟨10090, 10091⟩ : S66), (⟨10092, 10093⟩ : S66), (⟨10094, 10095⟩ : S66), (⟨10096, 10097⟩ : S66), (⟨10098, 10099⟩ : S66), (⟨10100, 10101⟩ : S66), (⟨10214, 10215⟩ : S66), (⟨10216, 10217⟩ : S66), (⟨10218, 10219⟩ : S66), (⟨10220, 10221⟩ : S66), (⟨10222, 10223⟩ : S66), (⟨10627, 10628⟩ : S66), (⟨10629, 10630⟩ : S66), (⟨10631, 10632⟩ : S66), (⟨10633, 10634⟩ : S66), (⟨10635, 10636⟩ : S66), (⟨10641, 10642⟩ : S66), (⟨12296, 12297⟩ : S66), (⟨12298, 12299⟩ : S66), (⟨12300, 12301⟩ : S66), (⟨12302, 12303⟩ : S66), (⟨12304, 12305⟩ : S66), (⟨12308, 12309⟩ : S66), (⟨12310, 12311⟩ : S66), (⟨12312, 12313⟩ : S66), (⟨12314, 12315⟩ : S66), (⟨65113, 65114⟩ : S66), (⟨65115, 65116⟩ : S66), (⟨65117, 65118⟩ : S66), (⟨65124, 65125⟩ : S66), (⟨65288, 65289⟩ : S66), (⟨65308, 65310⟩ : S66), (⟨65339, 65341⟩ : S66), (⟨65371, 65373⟩ : S66), (⟨65375, 65376⟩ : S66), (⟨65378, 65379⟩ : S66)] : List (S66))) (inner := [.int .i64 40, .int .i64 41, .int .i64 60, .int .i64 62, .int .i64 91, .int .i64 93, .int .i64 123, .int .i64 125, .int .i64 171, .int .i64 187, .int .i64 3898, .int .i64 3899, .int .i64 8249, .int .i64 8250, .int .i64 8261, .int .i64 8262, .int .i64 8317, .int .i64 8318, .int .i64 8333, .int .i64 8334, .int .i64 8712, .int .i64 8715, .int .i64 8804, .int .i64 8805, .int .i64 8810, .int .i64 8811, .int .i64 9001, .int .i64 9002, .int .i64 10088, .int .i64 10089, .int .i64 10090, .int .i64 10091, .int .i64 10092, .int .i64 10093, .int .i64 10094, .int .i64 10095, .int .i64 10096, .int .i64 10097, .int .i64 10098, .int .i64 10099, .int .i64 10100, .int .i64 10101, .int .i64 10214, .int .i64 10215, .int .i64 10216, .int .i64 10217, .int .i64 10218, .int .i64 10219, .int .i64 10220, .int .i64 10221, .int .i64 10222, .int .i64 10223, .int .i64 10627, .int .i64 10628, .int .i64 10629, .int .i64 10630, .int .i64 10631, .int .i64 10632, .int .i64 10633, .int .i64 10634, .int .i64 10635, .int .i64 10636, .int .i64 10641, .int .i64 10642, .int .i64 12296, .int .i64 12297, .int .i64 12298, .int .i64 12299, .int .i64 12300, .int .i64 12301, .int .i64 12302, .int .i64 12303, .int .i64 12304, .int .i64 12305, .int .i64 12308, .int .i64 12309, .int .i64 12310, .int .i64 12311, .int .i64 12312, .int .i64 12313, .int .i64 12314, .int .i64 12315, .int .i64 65113, .int .i64 65114, .int .i64 65115, .int .i64 65116, .int .i64 65117, .int .i64 65118, .int .i64 65124, .int .i64 65125, .int .i64 65288, .int .i64 65289, .int .i64 65308, .int .i64 65310, .int .i64 65339, .int .i64 65341, .int .i64 65371, .int .i64 65373, .int .i64 65375, .int .i64 65376, .int .i64 65378, .int .i64 65379]) (ok := fun _ => True) (okp := fun _ => True) ?hr ?hp (fun _ hk => hk) trivial (Below.refl _ _) (Nat.le_refl _) (by simp) ?_; (case hd => rfl); (case hg => rfl); (case hr => first | (go_simp; done) | (go_simp; rfl)); (case hp => exact (Reps.c2 (show Kd.M k66 _ _ _ (⟨40, 41⟩ : S66) [.int .i64 40, .int .i64 41] from (k66_mkM _ _ _ (⟨40, 41⟩ : S66) )) (Reps.c2 (show Kd.M k66 _ _ _ (⟨60, 62⟩ : S66) [.int .i64 60, .int .i64 62] from (k66_mkM _ _ _ (⟨60, 62⟩ : S66) )) (Reps.c2 (show Kd.M k66 _ _ _ (⟨91, 93⟩ : S66) [.int .i64 91, .int .i64 93] from (k66_mkM _ _ _ (⟨91, 93⟩ : S66) )) (Reps.c2 (show Kd.M k66 _ _ _ (⟨123, 125⟩ : S66) [.int .i64 123, .int .i64 125] from (k66_mkM _ _ _ (⟨123, 125⟩ : S66) )) (Reps.c2 (show Kd.M k66 _ _ _ (⟨171, 187⟩ : S66) [.int .i64 171, .int .i64 187] from (k66_mkM _ _ _ (⟨171, 187⟩ : S66) )) (Reps.c2 (show Kd.M k66 _ _ _ (⟨3898, 3899⟩ : S66) [.int .i64 3898, .int .i64 3899] from (k66_mkM _ _ _ (⟨3898, 3899⟩ : S66) )) (Reps.c2 (show Kd.M k66 _ _ _ (⟨8249, 8250⟩ : S66) [.int .i64 8249, .int .i64 8250] from (k66_mkM _ _ _ (⟨8249, 8250⟩ : S66) )) (Reps.c2 (show Kd.M k66 _ _ _ (⟨8261, 8262⟩ : S66) [.int .i64 8261, .int .i64 8262] from (k66_mkM _ _ _ (⟨8261, 8262⟩ : S66) )) (Reps.c2 (show Kd.M k66 _ _ _ (⟨8317, 8318⟩ : S66) [.int .i64 8317, .int .i64 8318] from (k66_mkM _ _ _ (⟨8317, 8318⟩ : S66) )) (Reps.c2 (show Kd.M k66 _ _ _ (⟨8333, 8334⟩ : S66) [.int .i64 8333, .int .i64 8334] from (k66_mkM _ _ _ (⟨8333, 8334⟩ : S66) )) (Reps.c2 (show Kd.M k66 _ _ _ (⟨8712, 8715⟩ : S66) [.int .i64 8712, .int .i64 8715] from (k66_mkM _ _ _ (⟨8712, 8715⟩ : S66) )) (Reps.c2 (show Kd.M k66 _ _ _ (⟨8804, 8805⟩ : S66) [.int .i64 8804, .int .i64 8805] from (k66_mkM _ _ _ (⟨8804, 8805⟩ : S66) )) (Reps.c2 (show Kd.M k66 _ _ _ (⟨8810, 8811⟩ : S66) [.int .i64 8810, .int .i64 8811] from (k66_mkM _ _ _ (⟨8810, 8811⟩ : S66) )) (Reps.c2 (show Kd.M k66 _ _ _ (⟨9001, 9002⟩ : S66) [.int .i64 9001, .int .i64 9002] from (k66_mkM _ _ _ (⟨9001, 9002⟩ : S66) )) (Reps.c2 (show Kd.M k66 _ _ _ (⟨10088, 10089⟩ : S66) [.int .i64 10088, .int .i64 10089] from (k66_mkM _ _ _ (⟨10088, 10089⟩ : S66) )) (Reps.c2 (show Kd.M k66 _ _ _ (⟨10090, 10091⟩ : S66) [.int .i64 10090, .int .i64 10091] from (k66_mkM _ _ _ (⟨10090, 10091⟩ : S66) )) (Reps.c2 (show Kd.M k66 _ _ _ (⟨10092, 10093⟩ : S66) [.int .i64 10092, .int .i64 10093] from (k66_mkM _ _ _ (⟨10092, 10093⟩ : S66) )) (Reps.c2 (show Kd.M k66 _ _ _ (⟨10094, 10095⟩ : S66) [.int .i64 10094, .int .i64 10095] from (k66_mkM _ _ _ (⟨10094, 10095⟩ : S66) )) (Reps.c2 (show Kd.M k66 _ _ _ (⟨10096, 10097⟩ : S66) [.int .i64 10096, .int .i64 10097] from (k66_mkM _ _ _ (⟨10096, 10097⟩ : S66) )) (Reps.c2 (show Kd.M k66 _ _ _ (⟨10098, 10099⟩ : S66) [.int .i64 10098, .int .i64 10099] from (k66_mkM _ _ _ (⟨10098, 10099⟩ : S66) )) (Reps.c2 (show Kd.M k66 _ _ _ (⟨10100, 10101⟩ : S66) [.int .i64 10100, .int .i64 10101] from (k66_mkM _ _ _ (⟨10100, 10101⟩ : S66) )) (Reps.c2 (show Kd.M k66 _ _ _ (⟨10214, 10215⟩ : S66) [.int .i64 10214, .int .i64 10215] from (k66_mkM _ _ _ (⟨10214, 10215⟩ : S66) )) (Reps.c2 (show Kd.M k66 _ _ _ (⟨10216, 10217⟩ : S66) [.int .i64 10216, .int .i64 10217] from (k66_mkM _ _ _ (⟨10216, 10217⟩ : S66) )) (Reps.c2 (show Kd.M k66 _ _ _ (⟨10218, 10219⟩ : S66) [.int .i64 10218, .int .i64 10219] from (k66_mkM _ _ _ (⟨10218, 10219⟩ : S66) )) (Reps.c2 (show Kd.M k66 _ _ _ (⟨10220, 10221⟩ : S66) [.int .i64 10220, .int .i64 10221] from (k66_mkM _ _ _ (⟨10220, 10221⟩ : S66) )) (Reps.c2 (show Kd.M k66 _ _ _ (⟨10222, 10223⟩ : S66) [.int .i64 10222, .int .i64 10223] from (k66_mkM _ _ _ (⟨10222, 10223⟩ : S66) )) (Reps.c2 (show Kd.M k66 _ _ _ (⟨10627, 10628⟩ : S66) [.int .i64 10627, .int .i64 10628] from (k66_mkM _ _ _ (⟨10627, 10628⟩ : S66) )) (Reps.c2 (show Kd.M k66 _ _ _ (⟨10629, 10630⟩ : S66) [.int .i64 10629, .int .i64 10630] from (k66_mkM _ _ _ (⟨10629, 10630⟩ : S66) )) (Reps.c2 (show Kd.M k66 _ _ _ (⟨10631, 10632⟩ : S66) [.int .i64 10631, .int .i64 10632] from (k66_mkM _ _ _ (⟨10631, 10632⟩ : S66) )) (Reps.c2 (show Kd.M k66 _ _ _ (⟨10633, 10634⟩ : S66) [.int .i64 10633, .int .i64 10634] from (k66_mkM _ _ _ (⟨10633, 10634⟩ : S66) )) (Reps.c2 (show Kd.M k66 _ _ _ (⟨10635, 10636⟩ : S66) [.int .i64 10635, .int .i64 10636] from (k66_mkM _ _ _ (⟨10635, 10636⟩ : S66) )) (Reps.c2 (show Kd.M k66 _ _ _ (⟨10641, 10642⟩ : S66) [.int .i64 10641, .int .i64 10642] from (k66_mkM _ _ _ (⟨10641, 10642⟩ : S66) )) (Reps.c2 (show Kd.M k66 _ _ _ (⟨12296, 12297⟩ : S66) [.int .i64 12296, .int .i64 12297] from (k66_mkM _ _ _ (⟨12296, 12297⟩ : S66) )) (Reps.c2 (show Kd.M k66 _ _ _ (⟨12298, 12299⟩ : S66) [.int .i64 12298, .int .i64 12299] from (k66_mkM _ _ _ (⟨12298, 12299⟩ : S66) )) (Reps.c2 (show Kd.M k66 _ _ _ (⟨12300, 12301⟩ : S66) [.int .i64 12300, .int .i64 12301] from (k66_mkM _ _ _ (⟨12300, 12301⟩ : S66) )) (Reps.c2 (show Kd.M k66 _ _ _ (⟨12302, 12303⟩ : S66) [.int .i64 12302, .int .i64 12303] from (k66_mkM _ _ _ (⟨12302, 12303⟩ : S66) )) (Reps.c2 (show Kd.M k66 _ _ _ (⟨12304, 12305⟩ : S66) [.int .i64 12304, .int .i64 12305] from (k66_mkM _ _ _ (⟨12304, 12305⟩ : S66) )) (Reps.c2 (show Kd.M k66 _ _ _ (⟨12308, 12309⟩ : S66) [.int .i64 12308, .int .i64 12309] from (k66_mkM _ _ _ (⟨12308, 12309⟩ : S66) )) (Reps.c2 (show Kd.M k66 _ _ _ (⟨12310, 12311⟩ : S66) [.int .i64 12310, .int .i64 12311] from (k66_mkM _ _ _ (⟨12310, 12311⟩ : S66) )) (Reps.c2 (show Kd.M k66 _ _ _ (⟨12312, 12313⟩ : S66) [.int .i64 12312, .int .i64 12313] from (k66_mkM _ _ _ (⟨12312, 12313⟩ : S66) )) (Reps.c2 (show Kd.M k66 _ _ _ (⟨12314, 12315⟩ : S66) [.int .i64 12314, .int .i64 12315] from (k66_mkM _ _ _ (⟨12314, 12315⟩ : S66) )) (Reps.c2 (show Kd.M k66 _ _ _ (⟨65113, 65114⟩ : S66) [.int .i64 65113, .int .i64 65114] from (k66_mkM _ _ _ (⟨65113, 65114⟩ : S66) )) (Reps.c2 (show Kd.M k66 _ _ _ (⟨65115, 65116⟩ : S66) [.int .i64 65115, .int .i64 65116] from (k66_mkM _ _ _ (⟨65115, 65116⟩ : S66) )) (Reps.c2 (show Kd.M k66 _ _ _ (⟨65117, 65118⟩ : S66) [.int .i64 65117, .int .i64 65118] from (k66_mkM _ _ _ (⟨65117, 65118⟩ : S66) )) (Reps.c2 (show Kd.M k66 _ _ _ (⟨65124, 65125⟩ : S66) [.int .i64 65124, .int .i64 65125] from (k66_mkM _ _ _ (⟨65124, 65125⟩ : S66) )) (Reps.c2 (show Kd.M k66 _ _ _ (⟨65288, 65289⟩ : S66) [.int .i64 65288, .int .i64 65289] from (k66_mkM _ _ _ (⟨65288, 65289⟩ : S66) )) (Reps.c2 (show Kd.M k66 _ _ _ (⟨65308, 65310⟩ : S66) [.int .i64 65308, .int .i64 65310] from (k66_mkM _ _ _ (⟨65308, 65310⟩ : S66) )) (Reps.c2 (show Kd.M k66 _ _ _ (⟨65339, 65341⟩ : S66) [.int .i64 65339, .int .i64 65341] from (k66_mkM _ _ _ (⟨65339, 65341⟩ : S66) )) (Reps.c2 (show Kd.M k66 _ _ _ (⟨65371, 65373⟩ : S66) [.int .i64 65371, .int .i64 65373] from (k66_mkM _ _ _ (⟨65371, 65373⟩ : S66) )) (Reps.c2 (show Kd.M k66 _ _ _ (⟨65375, 65376⟩ : S66) [.int .i64 65375, .int .i64 65376] from (k66_mkM _ _ _ (⟨65375, 65376⟩ : S66) )) (Reps.c2 (show Kd.M k66 _ _ _ (⟨65378, 65379⟩ : S66) [.int .i64 65378, .int .i64 65379] from (k66_mkM _ _ _ (⟨65378, 65379⟩ : S66) )) (Reps.none _ _))))))))))))))))))))))))))))))))))))))))))))))))))))); intro v134 w1 ho2 hb hg_ hnew_; clear hg_ hnew_; (first | rw [← Ny133.out] at ho2 | (simp only [Int.reduceToNat] at ho2; rw [← Ny133.out] at ho2)); have n0_ := Aside0.mk (Kd.R_lower ho2 (below_size (by repeat (first | (with_reducible first | exact HB.out | apply below_alloc | apply pw_below_drewN | apply below_drew1) | exact HB.out)))); have n1_ := Aside0.mk (below_step (by repeat (first | (with_reducible first | exact HB.out | apply below_alloc | apply pw_below_drewN | apply below_drew1) | exact HB.out)) hb); clear HB; have HO135 := n0_; have HB := n1_; clear n0_ n1_; clear hb ho2))
  go_ret
  exact ⟨_, by first | rfl | (simp [errW_none, errW_some] <;> rfl) | (simp [*, errW_none, errW_some] <;> rfl), by (with_reducible repeat (first | apply Kd.R_alloc | apply Kd.R_drewN | apply Kd.R_drew)); exact HO135.out, by repeat (first | (with_reducible first | exact HB.out | apply below_alloc | apply pw_below_drewN | apply below_drew1) | exact HB.out)⟩

/-! ### pairs_Mirror: function 19 -/
def pairs_Mirror.f (k : Nat) (a0 : Int) : Option (Int) := (api_Mirrors.f).bind fun t136 => ((pairs_list_find.f k t136 a0).bind fun bt139 => (if bt139.2.2 = true then (some bt139.2.1) else ((pairs_list_back.f k t136 a0).bind fun bt143 => (if bt143.2.2 = true then (some bt143.1) else (some a0)))))
theorem pairs_Mirror.mono : ∀ a0 k, LeO (pairs_Mirror.f k a0) (pairs_Mirror.f (k + 1) a0) := by
  intro a0 k
  unfold pairs_Mirror.f
  repeat' first
      | (with_reducible exact pairs_list_back.mono _ _ _)
      | (with_reducible exact pairs_list_find.mono _ _ _)
      | (with_reducible exact LeO.refl _)
      | (with_reducible exact LeO.none _)
      | (with_reducible refine LeO.ite ?_ ?_)
      | (with_reducible refine LeO.bind ?_ (fun _ => ?_))
      | exact pairs_list_back.mono _ _ _
      | exact pairs_list_find.mono _ _ _
      | exact LeO.none _
      | refine LeO.ite ?_ ?_
      | refine LeO.bind ?_ (fun _ => ?_)
set_option maxHeartbeats 8000000 in
set_option maxRecDepth 100000 in
theorem pairs_Mirror.calls (k : Nat) (a0 : Int) (r : Int) (w : World) (h : pairs_Mirror.f k a0 = some r) :
    Calls Try.prog 19 #[.int .i64 a0] w fun e w' => e = .returned (.int .i64 r) ∧ Below w.heap.size w w' := by
  have hu66 := Try.underlying66
  have HB := Aside0.mk (Below.refl w.heap.size w)
  have H : ((api_Mirrors.f).bind fun t136 => ((pairs_list_find.f k t136 a0).bind fun bt139 => (if bt139.2.2 = true then (some bt139.2.1) else ((pairs_list_back.f k t136 a0).bind fun bt143 => (if bt143.2.2 = true then (some bt143.1) else (some a0)))))) = some r := h
  clear h
  replace H := Option.bind_eq_some_iff.mp H
  obtain ⟨t136, A20, H⟩ := H
  replace H : ((pairs_list_find.f k t136 a0).bind fun bt139 => (if bt139.2.2 = true then (some bt139.2.1) else ((pairs_list_back.f k t136 a0).bind fun bt143 => (if bt143.2.2 = true then (some bt143.1) else (some a0))))) = some r := H
  have A2 := Aside0.mk A20
  clear A20
  replace H := Option.bind_eq_some_iff.mp H
  obtain ⟨⟨t139, t140, t141⟩, A30, H⟩ := H
  replace H : (if t141 = true then (some t140) else ((pairs_list_back.f k t136 a0).bind fun bt143 => (if bt143.2.2 = true then (some bt143.1) else (some a0)))) = some r := H
  have A3 := Aside0.mk A30
  clear A30
  by_cases c4 : t141 = true
  · subst c4
    have H1 : (some t140) = some r := by rw [if_pos rfl] at H; exact H
    clear H
    have H := H1
    clear H1
    obtain rfl := Option.some.inj H
    go_enter Try.func19, Try.ntmps19
    go_wp2_with (first | ((with_reducible refine gate_callee (f := 49) rfl ?_); refine goesL_ (some 8) rfl rfl Try.func49 (by kernel_rfl) rfl #[] rfl (by (try simp only [List.map_toArray, List.map_cons, List.map_nil]); first | done | rfl | (simp only [List.length_drop, List.length_take]; rfl)) ?_; (with_reducible refine (api_Mirrors.calls  t136 _ A2.out).mono ?_); rintro e w5 ⟨v137, rfl, ho0, hb⟩; refine ⟨_, rfl, ?_⟩; have n0_ := Aside0.mk (Kd.R_lower ho0 (below_size (by repeat (first | (with_reducible first | exact HB.out | apply below_alloc | apply pw_below_drewN | apply below_drew1) | exact HB.out)))); have n1_ := Aside0.mk (below_step (by repeat (first | (with_reducible first | exact HB.out | apply below_alloc | apply pw_below_drewN | apply below_drew1) | exact HB.out)) hb); clear HB; have HO138 := n0_; have HB := n1_; clear n0_ n1_; (try clear hb); (try clear hb2); (try clear hk); (try clear hi); (try clear ho0); obtain ⟨Ao6, co6, eo6⟩ := Kd.R_slice HO138.out; subst eo6) | ((with_reducible refine gate_callee (f := 47) rfl ?_); refine goesL_ (some 12) rfl rfl Try.func47 (by kernel_rfl) rfl #[.slice Ao6 t136.length co6, .int .i64 a0] rfl (by (try simp only [List.map_toArray, List.map_cons, List.map_nil]); first | done | rfl | (simp only [List.length_drop, List.length_take]; rfl)) ?_; (with_reducible refine (pairs_list_find.calls k _ _ t136 a0 t139 t140 true _ ?side1 ?side2 A3.out).mono ?_); (case side1 => repeat (first | exact (Kd.R_reads' HO138.out).2.2 | (with_reducible refine Kd.C_alloc ?_ _) | (with_reducible refine Kd.C_drewN ?_ _) | (with_reducible refine Kd.C_drew ?_))); (case side2 => exact (Kd.R_reads' HO138.out).2.1); rintro e w7 ⟨rfl, hb⟩; refine ⟨_, rfl, ?_⟩; have n0_ := Aside0.mk (Kd.R_below (by (with_reducible repeat (first | apply Kd.R_alloc | apply Kd.R_drewN | apply Kd.R_drew)); exact HO138.out) hb); have n1_ := Aside0.mk (below_step (by repeat (first | (with_reducible first | exact HB.out | apply below_alloc | apply pw_below_drewN | apply below_drew1) | exact HB.out)) hb); clear HO138; clear HB; have HO138 := n0_; have HB := n1_; clear n0_ n1_; (try clear hb); (try clear hb2); (try clear hk); (try clear hi)) | ((with_reducible refine gate_dst (N := 4) rfl ?_); refine box_event ?hg (N := 4) ?hd (cs := #[.int .i64 0, .int .i64 0]) (t := 66) ?hr ?_; (case hd => rfl); (case hg => rfl); (case hr => first | (go_simp; done) | (go_simp; rfl)); intro gb142 hg w8 hbox hb; have n0_ := Aside0.mk (Kd.R_below (Kd.R_elderB (by (with_reducible repeat (first | apply Kd.R_alloc | apply Kd.R_drewN | apply Kd.R_drew)); exact HO138.out) gb142 (Nat.le_of_eq hg.symm)) hb); have n1_ := Aside0.mk (below_step (by repeat (first | (with_reducible first | exact HB.out | apply below_alloc | apply pw_below_drewN | apply below_drew1) | exact HB.out)) hb); have n2_ := Aside0.mk (hbox); have n3_ := Aside0.mk ((by rw [hg]; exact (below_size (by repeat (first | (with_reducible first | exact HB.out | apply below_alloc | apply pw_below_drewN | apply below_drew1) | exact HB.out))) : w.heap.size ≤ gb142)); have n4_ := Aside0.mk ((by rw [hg]; exact (below_size (by repeat (first | (with_reducible first | exact HB.out | apply below_alloc | apply pw_below_drewN | apply below_drew1) | exact HB.out))) : w.heap.size ≤ gb142)); clear HO138; clear HB; have HO138 := n0_; have HB := n1_; have BK142 := n2_; have GW142 := n3_; have GE142 := n4_; clear n0_ n1_ n2_ n3_ n4_; clear hb hbox hg; have hcz9_0 : w8.cell? ⟨gb142, 0, none⟩ = some (.int .i64 0) := (blk_cell BK142.out 0).trans rfl; have hcz9_1 : w8.cell? ⟨gb142, 1, none⟩ = some (.int .i64 0) := (blk_cell BK142.out 1).trans rfl; have hfz9_0 := blk_frozen BK142.out 0; have hfz9_1 := blk_frozen BK142.out 1))
    go_ret
    exact ⟨by first | rfl | (simp [errW_none, errW_some] <;> rfl) | (simp [*, errW_none, errW_some] <;> rfl), by repeat (first | (with_reducible first | exact HB.out | apply below_alloc | apply pw_below_drewN | apply below_drew1 | refine below_set ?_ GE142.out) | exact HB.out)⟩
  · replace c4 := Bool.eq_false_iff.mpr c4
    subst c4
    have H1 : ((pairs_list_back.f k t136 a0).bind fun bt143 => (if bt143.2.2 = true then (some bt143.1) else (some a0))) = some r := by rw [if_neg (show ¬ (false = true) by decide)] at H; exact H
    clear H
    have H := H1
    clear H1
    replace H := Option.bind_eq_some_iff.mp H
    obtain ⟨⟨t143, t144, t145⟩, A100, H⟩ := H
    replace H : (if t145 = true then (some t143) else (some a0)) = some r := H
    have A10 := Aside0.mk A100
    clear A100
    by_cases c11 : t145 = true
    · subst c11
      have H1 : (some t143) = some r := by rw [if_pos rfl] at H; exact H
      clear H
      have H := H1
      clear H1
      obtain rfl := Option.some.inj H
      go_enter Try.func19, Try.ntmps19
      go_wp2_with (first | ((with_reducible refine gate_callee (f := 49) rfl ?_); refine goesL_ (some 8) rfl rfl Try.func49 (by kernel_rfl) rfl #[] rfl (by (try simp only [List.map_toArray, List.map_cons, List.map_nil]); first | done | rfl | (simp only [List.length_drop, List.length_take]; rfl)) ?_; (with_reducible refine (api_Mirrors.calls  t136 _ A2.out).mono ?_); rintro e w12 ⟨v137, rfl, ho0, hb⟩; refine ⟨_, rfl, ?_⟩; have n0_ := Aside0.mk (Kd.R_lower ho0 (below_size (by repeat (first | (with_reducible first | exact HB.out | apply below_alloc | apply pw_below_drewN | apply below_drew1) | exact HB.out)))); have n1_ := Aside0.mk (below_step (by repeat (first | (with_reducible first | exact HB.out | apply below_alloc | apply pw_below_drewN | apply below_drew1) | exact HB.out)) hb); clear HB; have HO138 := n0_; have HB := n1_; clear n0_ n1_; (try clear hb); (try clear hb2); (try clear hk); (try clear hi); (try clear ho0); obtain ⟨Ao13, co13, eo13⟩ := Kd.R_slice HO138.out; subst eo13) | ((with_reducible refine gate_callee (f := 47) rfl ?_); refine goesL_ (some 12) rfl rfl Try.func47 (by kernel_rfl) rfl #[.slice Ao13 t136.length co13, .int .i64 a0] rfl (by (try simp only [List.map_toArray, List.map_cons, List.map_nil]); first | done | rfl | (simp only [List.length_drop, List.length_take]; rfl)) ?_; (with_reducible refine (pairs_list_find.calls k _ _ t136 a0 t139 t140 false _ ?side1 ?side2 A3.out).mono ?_); (case side1 => repeat (first | exact (Kd.R_reads' HO138.out).2.2 | (with_reducible refine Kd.C_alloc ?_ _) | (with_reducible refine Kd.C_drewN ?_ _) | (with_reducible refine Kd.C_drew ?_))); (case side2 => exact (Kd.R_reads' HO138.out).2.1); rintro e w14 ⟨rfl, hb⟩; refine ⟨_, rfl, ?_⟩; have n0_ := Aside0.mk (Kd.R_below (by (with_reducible repeat (first | apply Kd.R_alloc | apply Kd.R_drewN | apply Kd.R_drew)); exact HO138.out) hb); have n1_ := Aside0.mk (below_step (by repeat (first | (with_reducible first | exact HB.out | apply below_alloc | apply pw_below_drewN | apply below_drew1) | exact HB.out)) hb); clear HO138; clear HB; have HO138 := n0_; have HB := n1_; clear n0_ n1_; (try clear hb); (try clear hb2); (try clear hk); (try clear hi)) | ((with_reducible refine gate_dst (N := 4) rfl ?_); refine box_event ?hg (N := 4) ?hd (cs := #[.int .i64 0, .int .i64 0]) (t := 66) ?hr ?_; (case hd => rfl); (case hg => rfl); (case hr => first | (go_simp; done) | (go_simp; rfl)); intro gb142 hg w15 hbox hb; have n0_ := Aside0.mk (Kd.R_below (Kd.R_elderB (by (with_reducible repeat (first | apply Kd.R_alloc | apply Kd.R_drewN | apply Kd.R_drew)); exact HO138.out) gb142 (Nat.le_of_eq hg.symm)) hb); have n1_ := Aside0.mk (below_step (by repeat (first | (with_reducible first | exact HB.out | apply below_alloc | apply pw_below_drewN | apply below_drew1) | exact HB.out)) hb); have n2_ := Aside0.mk (hbox); have n3_ := Aside0.mk ((by rw [hg]; exact (below_size (by repeat (first | (with_reducible first | exact HB.out | apply below_alloc | apply pw_below_drewN | apply below_drew1) | exact HB.out))) : w.heap.size ≤ gb142)); have n4_ := Aside0.mk ((by rw [hg]; exact (below_size (by repeat (first | (with_reducible first | exact HB.out | apply below_alloc | apply pw_below_drewN | apply below_drew1) | exact HB.out))) : w.heap.size ≤ gb142)); clear HO138; clear HB; have HO138 := n0_; have HB := n1_; have BK142 := n2_; have GW142 := n3_; have GE142 := n4_; clear n0_ n1_ n2_ n3_ n4_; clear hb hbox hg; have hcz16_0 : w15.cell? ⟨gb142, 0, none⟩ = some (.int .i64 0) := (blk_cell BK142.out 0).trans rfl; have hcz16_1 : w15.cell? ⟨gb142, 1, none⟩ = some (.int .i64 0) := (blk_cell BK142.out 1).trans rfl; have hfz16_0 := blk_frozen BK142.out 0; have hfz16_1 := blk_frozen BK142.out 1) | ((with_reducible refine gate_callee (f := 48) rfl ?_); refine goesL_ (some 21) rfl rfl Try.func48 (by kernel_rfl) rfl #[.slice Ao13 t136.length co13, .int .i64 a0] rfl (by (try simp only [List.map_toArray, List.map_cons, List.map_nil]); first | done | rfl | (simp only [List.length_drop, List.length_take]; rfl)) ?_; (with_reducible refine (pairs_list_back.calls k _ _ t136 a0 t143 t144 true _ ?side1 ?side2 A10.out).mono ?_); (case side1 => refine (Kd.R_reads' (e := 66) (base := w.heap.size) (ok := fun k_ => (True ∧ k_ ≠ gb142)) (n := t136.length) (c := co13) ?_).2.2; exact (by (with_reducible repeat (first | apply Kd.R_alloc | apply Kd.R_drewN | apply Kd.R_drew)); exact (Kd.R_mono (Kd.R_far (p := ⟨gb142, 1, none⟩) (Kd.R_far (p := ⟨gb142, 0, none⟩) (Kd.R_mono HO138.out (fun k_ hk => (⟨hk, hk.2⟩ : _ ∧ k_ ≠ gb142))) (fun _ hk => hk.2) (.int .i64 t139)) (fun _ hk => hk.2) (.int .i64 t140)) (fun _ h_ => h_.1)))); (case side2 => exact (Kd.R_reads' HO138.out).2.1); rintro e w17 ⟨rfl, hb⟩; refine ⟨_, rfl, ?_⟩; have n0_ := Aside0.mk (Kd.R_below (by (with_reducible repeat (first | apply Kd.R_alloc | apply Kd.R_drewN | apply Kd.R_drew)); exact (Kd.R_mono (Kd.R_far (p := ⟨gb142, 1, none⟩) (Kd.R_far (p := ⟨gb142, 0, none⟩) (Kd.R_mono HO138.out (fun k_ hk => (⟨hk, hk.2⟩ : _ ∧ k_ ≠ gb142))) (fun _ hk => hk.2) (.int .i64 t139)) (fun _ hk => hk.2) (.int .i64 t140)) (fun _ h_ => h_.1))) hb); have n1_ := Aside0.mk (blk_below (g := gb142) (o := .cells #[.int .i64 t139, .int .i64 t140] 66 (0, 0)) (by (with_reducible repeat (first | refine blk_drewN ?_ _ | refine blk_drew ?_ | refine blk_alloc ?_ _)); refine blk_put (cs := #[.int .i64 t139, .int .i64 0]) ?_ 1 _ rfl; (with_reducible repeat (first | refine blk_drewN ?_ _ | refine blk_drew ?_ | refine blk_alloc ?_ _)); refine blk_put (cs := #[.int .i64 0, .int .i64 0]) ?_ 0 _ rfl; (with_reducible repeat (first | refine blk_drewN ?_ _ | refine blk_drew ?_ | refine blk_alloc ?_ _)); exact BK142.out) hb); have n2_ := Aside0.mk (below_step (by repeat (first | (with_reducible first | exact HB.out | apply below_alloc | apply pw_below_drewN | apply below_drew1 | refine below_set ?_ GE142.out) | exact HB.out)) hb); clear HO138; clear BK142; clear HB; have HO138 := n0_; have BK142 := n1_; have HB := n2_; clear n0_ n1_ n2_; (try clear hb); (try clear hb2); (try clear hk); (try clear hi)) | ((with_reducible refine gate_dst (N := 6) rfl ?_); refine box_event ?hg (N := 6) ?hd (cs := #[.int .i64 0, .int .i64 0]) (t := 66) ?hr ?_; (case hd => rfl); (case hg => rfl); (case hr => first | (go_simp; done) | (go_simp; rfl)); intro gb146 hg w18 hbox hb; have n0_ := Aside0.mk (Kd.R_below (Kd.R_elderB (by (with_reducible repeat (first | apply Kd.R_alloc | apply Kd.R_drewN | apply Kd.R_drew)); exact HO138.out) gb146 (Nat.le_of_eq hg.symm)) hb); have n1_ := Aside0.mk (blk_below (g := gb142) (o := .cells #[.int .i64 t139, .int .i64 t140] 66 (0, 0)) (by (with_reducible repeat (first | refine blk_drewN ?_ _ | refine blk_drew ?_ | refine blk_alloc ?_ _)); exact BK142.out) hb); have n2_ := Aside0.mk (below_step (by repeat (first | (with_reducible first | exact HB.out | apply below_alloc | apply pw_below_drewN | apply below_drew1 | refine below_set ?_ GE142.out) | exact HB.out)) hb); have n3_ := Aside0.mk (hbox); have n4_ := Aside0.mk ((by rw [hg]; exact (below_size (by repeat (first | (with_reducible first | exact HB.out | apply below_alloc | apply pw_below_drewN | apply below_drew1 | refine below_set ?_ GE142.out) | exact HB.out))) : w.heap.size ≤ gb146)); have n5_ := Aside0.mk ((by rw [hg]; exact (below_size (by repeat (first | (with_reducible first | exact HB.out | apply below_alloc | apply pw_below_drewN | apply below_drew1 | refine below_set ?_ GE142.out) | exact HB.out))) : w.heap.size ≤ gb146)); have n6_ := Aside0.mk ((by rw [hg]; exact Nat.ne_of_lt (blk_lt (g := gb142) (o := .cells #[.int .i64 t139, .int .i64 t140] 66 (0, 0)) (by (with_reducible repeat (first | refine blk_drewN ?_ _ | refine blk_drew ?_ | refine blk_alloc ?_ _)); exact BK142.out)) : gb142 ≠ gb146)); have n7_ := Aside0.mk ((by rw [hg]; exact Nat.ne_of_gt (blk_lt (g := gb142) (o := .cells #[.int .i64 t139, .int .i64 t140] 66 (0, 0)) (by (with_reducible repeat (first | refine blk_drewN ?_ _ | refine blk_drew ?_ | refine blk_alloc ?_ _)); exact BK142.out)) : gb146 ≠ gb142)); clear HO138; clear BK142; clear HB; have HO138 := n0_; have BK142 := n1_; have HB := n2_; have BK146 := n3_; have GW146 := n4_; have GE146 := n5_; have NB142_146 := n6_; have NB146_142 := n7_; clear n0_ n1_ n2_ n3_ n4_ n5_ n6_ n7_; clear hb hbox hg; have hnb19 := NB146_142.out; have hnc19 := NB142_146.out; have hcz20_0 : w18.cell? ⟨gb146, 0, none⟩ = some (.int .i64 0) := (blk_cell BK146.out 0).trans rfl; have hcz20_1 : w18.cell? ⟨gb146, 1, none⟩ = some (.int .i64 0) := (blk_cell BK146.out 1).trans rfl; have hfz20_0 := blk_frozen BK146.out 0; have hfz20_1 := blk_frozen BK146.out 1))
      go_ret
      exact ⟨by first | rfl | (simp [errW_none, errW_some] <;> rfl) | (simp [*, errW_none, errW_some] <;> rfl), by repeat (first | (with_reducible first | exact HB.out | apply below_alloc | apply pw_below_drewN | apply below_drew1 | refine below_set ?_ GE142.out | refine below_set ?_ GE146.out) | exact HB.out)⟩
    · replace c11 := Bool.eq_false_iff.mpr c11
      subst c11
      have H1 : (some a0) = some r := by rw [if_neg (show ¬ (false = true) by decide)] at H; exact H
      clear H
      have H := H1
      clear H1
      obtain rfl := Option.some.inj H
      go_enter Try.func19, Try.ntmps19
      go_wp2_with (first | ((with_reducible refine gate_callee (f := 49) rfl ?_); refine goesL_ (some 8) rfl rfl Try.func49 (by kernel_rfl) rfl #[] rfl (by (try simp only [List.map_toArray, List.map_cons, List.map_nil]); first | done | rfl | (simp only [List.length_drop, List.length_take]; rfl)) ?_; (with_reducible refine (api_Mirrors.calls  t136 _ A2.out).mono ?_); rintro e w21 ⟨v137, rfl, ho0, hb⟩; refine ⟨_, rfl, ?_⟩; have n0_ := Aside0.mk (Kd.R_lower ho0 (below_size (by repeat (first | (with_reducible first | exact HB.out | apply below_alloc | apply pw_below_drewN | apply below_drew1) | exact HB.out)))); have n1_ := Aside0.mk (below_step (by repeat (first | (with_reducible first | exact HB.out | apply below_alloc | apply pw_below_drewN | apply below_drew1) | exact HB.out)) hb); clear HB; have HO138 := n0_; have HB := n1_; clear n0_ n1_; (try clear hb); (try clear hb2); (try clear hk); (try clear hi); (try clear ho0); obtain ⟨Ao22, co22, eo22⟩ := Kd.R_slice HO138.out; subst eo22) | ((with_reducible refine gate_callee (f := 47) rfl ?_); refine goesL_ (some 12) rfl rfl Try.func47 (by kernel_rfl) rfl #[.slice Ao22 t136.length co22, .int .i64 a0] rfl (by (try simp only [List.map_toArray, List.map_cons, List.map_nil]); first | done | rfl | (simp only [List.length_drop, List.length_take]; rfl)) ?_; (with_reducible refine (pairs_list_find.calls k _ _ t136 a0 t139 t140 false _ ?side1 ?side2 A3.out).mono ?_); (case side1 => repeat (first | exact (Kd.R_reads' HO138.out).2.2 | (with_reducible refine Kd.C_alloc ?_ _) | (with_reducible refine Kd.C_drewN ?_ _) | (with_reducible refine Kd.C_drew ?_))); (case side2 => exact (Kd.R_reads' HO138.out).2.1); rintro e w23 ⟨rfl, hb⟩; refine ⟨_, rfl, ?_⟩; have n0_ := Aside0.mk (Kd.R_below (by (with_reducible repeat (first | apply Kd.R_alloc | apply Kd.R_drewN | apply Kd.R_drew)); exact HO138.out) hb); have n1_ := Aside0.mk (below_step (by repeat (first | (with_reducible first | exact HB.out | apply below_alloc | apply pw_below_drewN | apply below_drew1) | exact HB.out)) hb); clear HO138; clear HB; have HO138 := n0_; have HB := n1_; clear n0_ n1_; (try clear hb); (try clear hb2); (try clear hk); (try clear hi)) | ((with_reducible refine gate_dst (N := 4) rfl ?_); refine box_event ?hg (N := 4) ?hd (cs := #[.int .i64 0, .int .i64 0]) (t := 66) ?hr ?_; (case hd => rfl); (case hg => rfl); (case hr => first | (go_simp; done) | (go_simp; rfl)); intro gb142 hg w24 hbox hb; have n0_ := Aside0.mk (Kd.R_below (Kd.R_elderB (by (with_reducible repeat (first | apply Kd.R_alloc | apply Kd.R_drewN | apply Kd.R_drew)); exact HO138.out) gb142 (Nat.le_of_eq hg.symm)) hb); have n1_ := Aside0.mk (below_step (by repeat (first | (with_reducible first | exact HB.out | apply below_alloc | apply pw_below_drewN | apply below_drew1) | exact HB.out)) hb); have n2_ := Aside0.mk (hbox); have n3_ := Aside0.mk ((by rw [hg]; exact (below_size (by repeat (first | (with_reducible first | exact HB.out | apply below_alloc | apply pw_below_drewN | apply below_drew1) | exact HB.out))) : w.heap.size ≤ gb142)); have n4_ := Aside0.mk ((by rw [hg]; exact (below_size (by repeat (first | (with_reducible first | exact HB.out | apply below_alloc | apply pw_below_drewN | apply below_drew1) | exact HB.out))) : w.heap.size ≤ gb142)); clear HO138; clear HB; have HO138 := n0_; have HB := n1_; have BK142 := n2_; have GW142 := n3_; have GE142 := n4_; clear n0_ n1_ n2_ n3_ n4_; clear hb hbox hg; have hcz25_0 : w24.cell? ⟨gb142, 0, none⟩ = some (.int .i64 0) := (blk_cell BK142.out 0).trans rfl; have hcz25_1 : w24.cell? ⟨gb142, 1, none⟩ = some (.int .i64 0) := (blk_cell BK142.out 1).trans rfl; have hfz25_0 := blk_frozen BK142.out 0; have hfz25_1 := blk_frozen BK142.out 1) | ((with_reducible refine gate_callee (f := 48) rfl ?_); refine goesL_ (some 21) rfl rfl Try.func48 (by kernel_rfl) rfl #[.slice Ao22 t136.length co22, .int .i64 a0] rfl (by (try simp only [List.map_toArray, List.map_cons, List.map_nil]); first | done | rfl | (simp only [List.length_drop, List.length_take]; rfl)) ?_; (with_reducible refine (pairs_list_back.calls k _ _ t136 a0 t143 t144 false _ ?side1 ?side2 A10.out).mono ?_); (case side1 => refine (Kd.R_reads' (e := 66) (base := w.heap.size) (ok := fun k_ => (True ∧ k_ ≠ gb142)) (n := t136.length) (c := co22) ?_).2.2; exact (by (with_reducible repeat (first | apply Kd.R_alloc | apply Kd.R_drewN | apply Kd.R_drew)); exact (Kd.R_mono (Kd.R_far (p := ⟨gb142, 1, none⟩) (Kd.R_far (p := ⟨gb142, 0, none⟩) (Kd.R_mono HO138.out (fun k_ hk => (⟨hk, hk.2⟩ : _ ∧ k_ ≠ gb142))) (fun _ hk => hk.2) (.int .i64 t139)) (fun _ hk => hk.2) (.int .i64 t140)) (fun _ h_ => h_.1)))); (case side2 => exact (Kd.R_reads' HO138.out).2.1); rintro e w26 ⟨rfl, hb⟩; refine ⟨_, rfl, ?_⟩; have n0_ := Aside0.mk (Kd.R_below (by (with_reducible repeat (first | apply Kd.R_alloc | apply Kd.R_drewN | apply Kd.R_drew)); exact (Kd.R_mono (Kd.R_far (p := ⟨gb142, 1, none⟩) (Kd.R_far (p := ⟨gb142, 0, none⟩) (Kd.R_mono HO138.out (fun k_ hk => (⟨hk, hk.2⟩ : _ ∧ k_ ≠ gb142))) (fun _ hk => hk.2) (.int .i64 t139)) (fun _ hk => hk.2) (.int .i64 t140)) (fun _ h_ => h_.1))) hb); have n1_ := Aside0.mk (blk_below (g := gb142) (o := .cells #[.int .i64 t139, .int .i64 t140] 66 (0, 0)) (by (with_reducible repeat (first | refine blk_drewN ?_ _ | refine blk_drew ?_ | refine blk_alloc ?_ _)); refine blk_put (cs := #[.int .i64 t139, .int .i64 0]) ?_ 1 _ rfl; (with_reducible repeat (first | refine blk_drewN ?_ _ | refine blk_drew ?_ | refine blk_alloc ?_ _)); refine blk_put (cs := #[.int .i64 0, .int .i64 0]) ?_ 0 _ rfl; (with_reducible repeat (first | refine blk_drewN ?_ _ | refine blk_drew ?_ | refine blk_alloc ?_ _)); exact BK142.out) hb); have n2_ := Aside0.mk (below_step (by repeat (first | (with_reducible first | exact HB.out | apply below_alloc | apply pw_below_drewN | apply below_drew1 | refine below_set ?_ GE142.out) | exact HB.out)) hb); clear HO138; clear BK142; clear HB; have HO138 := n0_; have BK142 := n1_; have HB := n2_; clear n0_ n1_ n2_; (try clear hb); (try clear hb2); (try clear hk); (try clear hi)) | ((with_reducible refine gate_dst (N := 6) rfl ?_); refine box_event ?hg (N := 6) ?hd (cs := #[.int .i64 0, .int .i64 0]) (t := 66) ?hr ?_; (case hd => rfl); (case hg => rfl); (case hr => first | (go_simp; done) | (go_simp; rfl)); intro gb146 hg w27 hbox hb; have n0_ := Aside0.mk (Kd.R_below (Kd.R_elderB (by (with_reducible repeat (first | apply Kd.R_alloc | apply Kd.R_drewN | apply Kd.R_drew)); exact HO138.out) gb146 (Nat.le_of_eq hg.symm)) hb); have n1_ := Aside0.mk (blk_below (g := gb142) (o := .cells #[.int .i64 t139, .int .i64 t140] 66 (0, 0)) (by (with_reducible repeat (first | refine blk_drewN ?_ _ | refine blk_drew ?_ | refine blk_alloc ?_ _)); exact BK142.out) hb); have n2_ := Aside0.mk (below_step (by repeat (first | (with_reducible first | exact HB.out | apply below_alloc | apply pw_below_drewN | apply below_drew1 | refine below_set ?_ GE142.out) | exact HB.out)) hb); have n3_ := Aside0.mk (hbox); have n4_ := Aside0.mk ((by rw [hg]; exact (below_size (by repeat (first | (with_reducible first | exact HB.out | apply below_alloc | apply pw_below_drewN | apply below_drew1 | refine below_set ?_ GE142.out) | exact HB.out))) : w.heap.size ≤ gb146)); have n5_ := Aside0.mk ((by rw [hg]; exact (below_size (by repeat (first | (with_reducible first | exact HB.out | apply below_alloc | apply pw_below_drewN | apply below_drew1 | refine below_set ?_ GE142.out) | exact HB.out))) : w.heap.size ≤ gb146)); have n6_ := Aside0.mk ((by rw [hg]; exact Nat.ne_of_lt (blk_lt (g := gb142) (o := .cells #[.int .i64 t139, .int .i64 t140] 66 (0, 0)) (by (with_reducible repeat (first | refine blk_drewN ?_ _ | refine blk_drew ?_ | refine blk_alloc ?_ _)); exact BK142.out)) : gb142 ≠ gb146)); have n7_ := Aside0.mk ((by rw [hg]; exact Nat.ne_of_gt (blk_lt (g := gb142) (o := .cells #[.int .i64 t139, .int .i64 t140] 66 (0, 0)) (by (with_reducible repeat (first | refine blk_drewN ?_ _ | refine blk_drew ?_ | refine blk_alloc ?_ _)); exact BK142.out)) : gb146 ≠ gb142)); clear HO138; clear BK142; clear HB; have HO138 := n0_; have BK142 := n1_; have HB := n2_; have BK146 := n3_; have GW146 := n4_; have GE146 := n5_; have NB142_146 := n6_; have NB146_142 := n7_; clear n0_ n1_ n2_ n3_ n4_ n5_ n6_ n7_; clear hb hbox hg; have hnb28 := NB146_142.out; have hnc28 := NB142_146.out; have hcz29_0 : w27.cell? ⟨gb146, 0, none⟩ = some (.int .i64 0) := (blk_cell BK146.out 0).trans rfl; have hcz29_1 : w27.cell? ⟨gb146, 1, none⟩ = some (.int .i64 0) := (blk_cell BK146.out 1).trans rfl; have hfz29_0 := blk_frozen BK146.out 0; have hfz29_1 := blk_frozen BK146.out 1))
      go_ret
      exact ⟨by first | rfl | (simp [errW_none, errW_some] <;> rfl) | (simp [*, errW_none, errW_some] <;> rfl), by repeat (first | (with_reducible first | exact HB.out | apply below_alloc | apply pw_below_drewN | apply below_drew1 | refine below_set ?_ GE142.out | refine below_set ?_ GE146.out) | exact HB.out)⟩

/-! ### pairs_Match: function 23 -/
def pairs_Match.f (k : Nat) (a0 : Int) (a1 : Int) : Option (Bool) := (pairs_Bracket.f k a0).bind fun bt147 => ((pairs_Bracket.f k a1).bind fun bt149 => (if bt147.1 = 1 then (if bt149.1 = 2 then (some (bt147.2 == bt149.2)) else (some false)) else (some false)))
theorem pairs_Match.mono : ∀ a0 a1 k, LeO (pairs_Match.f k a0 a1) (pairs_Match.f (k + 1) a0 a1) := by
  intro a0 a1 k
  unfold pairs_Match.f
  repeat' first
      | (with_reducible exact pairs_Bracket.mono _ _)
      | (with_reducible exact LeO.refl _)
      | (with_reducible exact LeO.none _)
      | (with_reducible refine LeO.ite ?_ ?_)
      | (with_reducible refine LeO.bind ?_ (fun _ => ?_))
      | exact pairs_Bracket.mono _ _
      | exact LeO.none _
      | refine LeO.ite ?_ ?_
      | refine LeO.bind ?_ (fun _ => ?_)
set_option maxHeartbeats 8000000 in
set_option maxRecDepth 100000 in
theorem pairs_Match.calls (k : Nat) (a0 : Int) (a1 : Int) (r : Bool) (w : World) (h : pairs_Match.f k a0 a1 = some r) :
    Calls Try.prog 23 #[.int .i64 a0, .int .i64 a1] w fun e w' => e = .returned (.bool r) ∧ Below w.heap.size w w' := by
  have HB := Aside0.mk (Below.refl w.heap.size w)
  have H : ((pairs_Bracket.f k a0).bind fun bt147 => ((pairs_Bracket.f k a1).bind fun bt149 => (if bt147.1 = 1 then (if bt149.1 = 2 then (some (bt147.2 == bt149.2)) else (some false)) else (some false)))) = some r := h
  clear h
  replace H := Option.bind_eq_some_iff.mp H
  obtain ⟨⟨t147, t148⟩, A30, H⟩ := H
  replace H : ((pairs_Bracket.f k a1).bind fun bt149 => (if t147 = 1 then (if bt149.1 = 2 then (some (t148 == bt149.2)) else (some false)) else (some false))) = some r := H
  have A3 := Aside0.mk A30
  clear A30
  replace H := Option.bind_eq_some_iff.mp H
  obtain ⟨⟨t149, t150⟩, A40, H⟩ := H
  replace H : (if t147 = 1 then (if t149 = 2 then (some (t148 == t150)) else (some false)) else (some false)) = some r := H
  have A4 := Aside0.mk A40
  clear A40
  by_cases c5 : t147 = 1
  · rw [if_pos c5] at H
    have c5b0 : (t147 == 1) = true := beq_iff_eq.mpr c5
    have c5b1 : (t147 != 1) = false := bne_eq_false_iff_eq.mpr c5
    clear c5
    by_cases c6 : t149 = 2
    · rw [if_pos c6] at H
      have c6b0 : (t149 == 2) = true := beq_iff_eq.mpr c6
      have c6b1 : (t149 != 2) = false := bne_eq_false_iff_eq.mpr c6
      clear c6
      obtain rfl := Option.some.inj H
      go_enter Try.func23, Try.ntmps23
      go_wp2_with (first | ((with_reducible refine gate_callee (f := 17) rfl ?_); refine goesL_ (some 11) rfl rfl Try.func17 (by kernel_rfl) rfl #[.int .i64 a0] rfl (by (try simp only [List.map_toArray, List.map_cons, List.map_nil]); first | done | rfl | (simp only [List.length_drop, List.length_take]; rfl)) ?_; (with_reducible refine (pairs_Bracket.calls k a0 t147 t148 _ A3.out).mono ?_); rintro e w7 ⟨rfl, hb⟩; refine ⟨_, rfl, ?_⟩; have n0_ := Aside0.mk (below_step (by repeat (first | (with_reducible first | exact HB.out | apply below_alloc | apply pw_below_drewN | apply below_drew1) | exact HB.out)) hb); clear HB; have HB := n0_; clear n0_; (try clear hb); (try clear hb2); (try clear hk); (try clear hi)) | ((with_reducible refine gate_callee (f := 17) rfl ?_); refine goesL_ (some 16) rfl rfl Try.func17 (by kernel_rfl) rfl #[.int .i64 a1] rfl (by (try simp only [List.map_toArray, List.map_cons, List.map_nil]); first | done | rfl | (simp only [List.length_drop, List.length_take]; rfl)) ?_; (with_reducible refine (pairs_Bracket.calls k a1 t149 t150 _ A4.out).mono ?_); rintro e w8 ⟨rfl, hb⟩; refine ⟨_, rfl, ?_⟩; have n0_ := Aside0.mk (below_step (by repeat (first | (with_reducible first | exact HB.out | apply below_alloc | apply pw_below_drewN | apply below_drew1) | exact HB.out)) hb); clear HB; have HB := n0_; clear n0_; (try clear hb); (try clear hb2); (try clear hk); (try clear hi)))
      go_ret
      exact ⟨by first | rfl | (simp [errW_none, errW_some] <;> rfl) | (simp [*, errW_none, errW_some] <;> rfl), by repeat (first | (with_reducible first | exact HB.out | apply below_alloc | apply pw_below_drewN | apply below_drew1) | exact HB.out)⟩
    · rw [if_neg c6] at H
      have c6b0 : (t149 == 2) = false := beq_eq_false_iff_ne.mpr c6
      have c6b1 : (t149 != 2) = true := bne_iff_ne.mpr c6
      obtain rfl := Option.some.inj H
      go_enter Try.func23, Try.ntmps23
      go_wp2_with (first | ((with_reducible refine gate_callee (f := 17) rfl ?_); refine goesL_ (some 11) rfl rfl Try.func17 (by kernel_rfl) rfl #[.int .i64 a0] rfl (by (try simp only [List.map_toArray, List.map_cons, List.map_nil]); first | done | rfl | (simp only [List.length_drop, List.length_take]; rfl)) ?_; (with_reducible refine (pairs_Bracket.calls k a0 t147 t148 _ A3.out).mono ?_); rintro e w9 ⟨rfl, hb⟩; refine ⟨_, rfl, ?_⟩; have n0_ := Aside0.mk (below_step (by repeat (first | (with_reducible first | exact HB.out | apply below_alloc | apply pw_below_drewN | apply below_drew1) | exact HB.out)) hb); clear HB; have HB := n0_; clear n0_; (try clear hb); (try clear hb2); (try clear hk); (try clear hi)) | ((with_reducible refine gate_callee (f := 17) rfl ?_); refine goesL_ (some 16) rfl rfl Try.func17 (by kernel_rfl) rfl #[.int .i64 a1] rfl (by (try simp only [List.map_toArray, List.map_cons, List.map_nil]); first | done | rfl | (simp only [List.length_drop, List.length_take]; rfl)) ?_; (with_reducible refine (pairs_Bracket.calls k a1 t149 t150 _ A4.out).mono ?_); rintro e w10 ⟨rfl, hb⟩; refine ⟨_, rfl, ?_⟩; have n0_ := Aside0.mk (below_step (by repeat (first | (with_reducible first | exact HB.out | apply below_alloc | apply pw_below_drewN | apply below_drew1) | exact HB.out)) hb); clear HB; have HB := n0_; clear n0_; (try clear hb); (try clear hb2); (try clear hk); (try clear hi)))
      go_ret
      exact ⟨by first | rfl | (simp [errW_none, errW_some] <;> rfl) | (simp [*, errW_none, errW_some] <;> rfl), by repeat (first | (with_reducible first | exact HB.out | apply below_alloc | apply pw_below_drewN | apply below_drew1) | exact HB.out)⟩
  · rw [if_neg c5] at H
    have c5b0 : (t147 == 1) = false := beq_eq_false_iff_ne.mpr c5
    have c5b1 : (t147 != 1) = true := bne_iff_ne.mpr c5
    obtain rfl := Option.some.inj H
    go_enter Try.func23, Try.ntmps23
    go_wp2_with (first | ((with_reducible refine gate_callee (f := 17) rfl ?_); refine goesL_ (some 11) rfl rfl Try.func17 (by kernel_rfl) rfl #[.int .i64 a0] rfl (by (try simp only [List.map_toArray, List.map_cons, List.map_nil]); first | done | rfl | (simp only [List.length_drop, List.length_take]; rfl)) ?_; (with_reducible refine (pairs_Bracket.calls k a0 t147 t148 _ A3.out).mono ?_); rintro e w11 ⟨rfl, hb⟩; refine ⟨_, rfl, ?_⟩; have n0_ := Aside0.mk (below_step (by repeat (first | (with_reducible first | exact HB.out | apply below_alloc | apply pw_below_drewN | apply below_drew1) | exact HB.out)) hb); clear HB; have HB := n0_; clear n0_; (try clear hb); (try clear hb2); (try clear hk); (try clear hi)) | ((with_reducible refine gate_callee (f := 17) rfl ?_); refine goesL_ (some 16) rfl rfl Try.func17 (by kernel_rfl) rfl #[.int .i64 a1] rfl (by (try simp only [List.map_toArray, List.map_cons, List.map_nil]); first | done | rfl | (simp only [List.length_drop, List.length_take]; rfl)) ?_; (with_reducible refine (pairs_Bracket.calls k a1 t149 t150 _ A4.out).mono ?_); rintro e w12 ⟨rfl, hb⟩; refine ⟨_, rfl, ?_⟩; have n0_ := Aside0.mk (below_step (by repeat (first | (with_reducible first | exact HB.out | apply below_alloc | apply pw_below_drewN | apply below_drew1) | exact HB.out)) hb); clear HB; have HB := n0_; clear n0_; (try clear hb); (try clear hb2); (try clear hk); (try clear hi)))
    go_ret
    exact ⟨by first | rfl | (simp [errW_none, errW_some] <;> rfl) | (simp [*, errW_none, errW_some] <;> rfl), by repeat (first | (with_reducible first | exact HB.out | apply below_alloc | apply pw_below_drewN | apply below_drew1) | exact HB.out)⟩

/-! ### naskhlaw08_awake: function 25 -/
def naskhlaw08_awake.f (k : Nat)  : Option (Bool) := (pairs_Mirror.f k 40).bind fun t151 => (if t151 = 41 then ((pairs_Match.f k 9001 12297).bind fun t152 => (if t152 = true then ((pairs_Match.f k 40 93).bind fun t153 => (if t153 = true then (some false) else ((pairs_Canon.f k 9001).bind fun t154 => (some (t154 == 12296))))) else (some false))) else (some false))
theorem naskhlaw08_awake.mono : ∀ k, LeO (naskhlaw08_awake.f k ) (naskhlaw08_awake.f (k + 1) ) := by
  intro  k
  unfold naskhlaw08_awake.f
  repeat' first
      | (with_reducible exact pairs_Canon.mono _ _)
      | (with_reducible exact pairs_Match.mono _ _ _)
      | (with_reducible exact pairs_Mirror.mono _ _)
      | (with_reducible exact LeO.refl _)
      | (with_reducible exact LeO.none _)
      | (with_reducible refine LeO.ite ?_ ?_)
      | (with_reducible refine LeO.bind ?_ (fun _ => ?_))
      | exact pairs_Canon.mono _ _
      | exact pairs_Match.mono _ _ _
      | exact pairs_Mirror.mono _ _
      | exact LeO.none _
      | refine LeO.ite ?_ ?_
      | refine LeO.bind ?_ (fun _ => ?_)
set_option maxHeartbeats 8000000 in
set_option maxRecDepth 100000 in
theorem naskhlaw08_awake.calls (k : Nat)  (r : Bool) (w : World) (h : naskhlaw08_awake.f k  = some r) :
    Calls Try.prog 25 #[] w fun e w' => e = .returned (.bool r) ∧ Below w.heap.size w w' := by
  have HB := Aside0.mk (Below.refl w.heap.size w)
  have H : ((pairs_Mirror.f k 40).bind fun t151 => (if t151 = 41 then ((pairs_Match.f k 9001 12297).bind fun t152 => (if t152 = true then ((pairs_Match.f k 40 93).bind fun t153 => (if t153 = true then (some false) else ((pairs_Canon.f k 9001).bind fun t154 => (some (t154 == 12296))))) else (some false))) else (some false))) = some r := h
  clear h
  replace H := Option.bind_eq_some_iff.mp H
  obtain ⟨t151, A10, H⟩ := H
  replace H : (if t151 = 41 then ((pairs_Match.f k 9001 12297).bind fun t152 => (if t152 = true then ((pairs_Match.f k 40 93).bind fun t153 => (if t153 = true then (some false) else ((pairs_Canon.f k 9001).bind fun t154 => (some (t154 == 12296))))) else (some false))) else (some false)) = some r := H
  have A1 := Aside0.mk A10
  clear A10
  by_cases c2 : t151 = 41
  · rw [if_pos c2] at H
    have c2b0 : (t151 == 41) = true := beq_iff_eq.mpr c2
    have c2b1 : (t151 != 41) = false := bne_eq_false_iff_eq.mpr c2
    clear c2
    replace H := Option.bind_eq_some_iff.mp H
    obtain ⟨t152, A30, H⟩ := H
    replace H : (if t152 = true then ((pairs_Match.f k 40 93).bind fun t153 => (if t153 = true then (some false) else ((pairs_Canon.f k 9001).bind fun t154 => (some (t154 == 12296))))) else (some false)) = some r := H
    have A3 := Aside0.mk A30
    clear A30
    by_cases c4 : t152 = true
    · subst c4
      have H1 : ((pairs_Match.f k 40 93).bind fun t153 => (if t153 = true then (some false) else ((pairs_Canon.f k 9001).bind fun t154 => (some (t154 == 12296))))) = some r := by rw [if_pos rfl] at H; exact H
      clear H
      have H := H1
      clear H1
      replace H := Option.bind_eq_some_iff.mp H
      obtain ⟨t153, A50, H⟩ := H
      replace H : (if t153 = true then (some false) else ((pairs_Canon.f k 9001).bind fun t154 => (some (t154 == 12296)))) = some r := H
      have A5 := Aside0.mk A50
      clear A50
      by_cases c6 : t153 = true
      · subst c6
        have H1 : (some false) = some r := by rw [if_pos rfl] at H; exact H
        clear H
        have H := H1
        clear H1
        obtain rfl := Option.some.inj H
        go_enter Try.func25, Try.ntmps25
        go_wp2_with (first | ((with_reducible refine gate_callee (f := 19) rfl ?_); refine goesL_ (some 1) rfl rfl Try.func19 (by kernel_rfl) rfl #[.int .i64 40] rfl (by (try simp only [List.map_toArray, List.map_cons, List.map_nil]); first | done | rfl | (simp only [List.length_drop, List.length_take]; rfl)) ?_; (with_reducible refine (pairs_Mirror.calls k 40 t151 _ A1.out).mono ?_); rintro e w7 ⟨rfl, hb⟩; refine ⟨_, rfl, ?_⟩; have n0_ := Aside0.mk (below_step (by repeat (first | (with_reducible first | exact HB.out | apply below_alloc | apply pw_below_drewN | apply below_drew1) | exact HB.out)) hb); clear HB; have HB := n0_; clear n0_; (try clear hb); (try clear hb2); (try clear hk); (try clear hi)) | (go_at_call 23; (with_reducible refine (pairs_Match.calls k 9001 12297 true _ A3.out).mono ?_); rintro e w8 ⟨rfl, hb⟩; have n0_ := Aside0.mk (below_step (by repeat (first | (with_reducible first | exact HB.out | apply below_alloc | apply pw_below_drewN | apply below_drew1) | exact HB.out)) hb); clear HB; have HB := n0_; clear n0_; (try clear hb); (try clear hb2); (try clear hk); (try clear hi)) | (go_at_call 23; (with_reducible refine (pairs_Match.calls k 40 93 true _ A5.out).mono ?_); rintro e w9 ⟨rfl, hb⟩; have n0_ := Aside0.mk (below_step (by repeat (first | (with_reducible first | exact HB.out | apply below_alloc | apply pw_below_drewN | apply below_drew1) | exact HB.out)) hb); clear HB; have HB := n0_; clear n0_; (try clear hb); (try clear hb2); (try clear hk); (try clear hi)))
        go_ret
        exact ⟨by first | rfl | (simp [errW_none, errW_some] <;> rfl) | (simp [*, errW_none, errW_some] <;> rfl), by repeat (first | (with_reducible first | exact HB.out | apply below_alloc | apply pw_below_drewN | apply below_drew1) | exact HB.out)⟩
      · replace c6 := Bool.eq_false_iff.mpr c6
        subst c6
        have H1 : ((pairs_Canon.f k 9001).bind fun t154 => (some (t154 == 12296))) = some r := by rw [if_neg (show ¬ (false = true) by decide)] at H; exact H
        clear H
        have H := H1
        clear H1
        replace H := Option.bind_eq_some_iff.mp H
        obtain ⟨t154, A100, H⟩ := H
        replace H : (some (t154 == 12296)) = some r := H
        have A10 := Aside0.mk A100
        clear A100
        obtain rfl := Option.some.inj H
        go_enter Try.func25, Try.ntmps25
        go_wp2_with (first | ((with_reducible refine gate_callee (f := 19) rfl ?_); refine goesL_ (some 1) rfl rfl Try.func19 (by kernel_rfl) rfl #[.int .i64 40] rfl (by (try simp only [List.map_toArray, List.map_cons, List.map_nil]); first | done | rfl | (simp only [List.length_drop, List.length_take]; rfl)) ?_; (with_reducible refine (pairs_Mirror.calls k 40 t151 _ A1.out).mono ?_); rintro e w11 ⟨rfl, hb⟩; refine ⟨_, rfl, ?_⟩; have n0_ := Aside0.mk (below_step (by repeat (first | (with_reducible first | exact HB.out | apply below_alloc | apply pw_below_drewN | apply below_drew1) | exact HB.out)) hb); clear HB; have HB := n0_; clear n0_; (try clear hb); (try clear hb2); (try clear hk); (try clear hi)) | (go_at_call 23; (with_reducible refine (pairs_Match.calls k 9001 12297 true _ A3.out).mono ?_); rintro e w12 ⟨rfl, hb⟩; have n0_ := Aside0.mk (below_step (by repeat (first | (with_reducible first | exact HB.out | apply below_alloc | apply pw_below_drewN | apply below_drew1) | exact HB.out)) hb); clear HB; have HB := n0_; clear n0_; (try clear hb); (try clear hb2); (try clear hk); (try clear hi)) | (go_at_call 23; (with_reducible refine (pairs_Match.calls k 40 93 false _ A5.out).mono ?_); rintro e w13 ⟨rfl, hb⟩; have n0_ := Aside0.mk (below_step (by repeat (first | (with_reducible first | exact HB.out | apply below_alloc | apply pw_below_drewN | apply below_drew1) | exact HB.out)) hb); clear HB; have HB := n0_; clear n0_; (try clear hb); (try clear hb2); (try clear hk); (try clear hi)) | (go_at_call 21; (with_reducible refine (pairs_Canon.calls k 9001 t154 _ A10.out).mono ?_); rintro e w14 ⟨rfl, hb⟩; have n0_ := Aside0.mk (below_step (by repeat (first | (with_reducible first | exact HB.out | apply below_alloc | apply pw_below_drewN | apply below_drew1) | exact HB.out)) hb); clear HB; have HB := n0_; clear n0_; (try clear hb); (try clear hb2); (try clear hk); (try clear hi)))
        go_ret
        exact ⟨by first | rfl | (simp [errW_none, errW_some] <;> rfl) | (simp [*, errW_none, errW_some] <;> rfl), by repeat (first | (with_reducible first | exact HB.out | apply below_alloc | apply pw_below_drewN | apply below_drew1) | exact HB.out)⟩
    · replace c4 := Bool.eq_false_iff.mpr c4
      subst c4
      have H1 : (some false) = some r := by rw [if_neg (show ¬ (false = true) by decide)] at H; exact H
      clear H
      have H := H1
      clear H1
      obtain rfl := Option.some.inj H
      go_enter Try.func25, Try.ntmps25
      go_wp2_with (first | ((with_reducible refine gate_callee (f := 19) rfl ?_); refine goesL_ (some 1) rfl rfl Try.func19 (by kernel_rfl) rfl #[.int .i64 40] rfl (by (try simp only [List.map_toArray, List.map_cons, List.map_nil]); first | done | rfl | (simp only [List.length_drop, List.length_take]; rfl)) ?_; (with_reducible refine (pairs_Mirror.calls k 40 t151 _ A1.out).mono ?_); rintro e w15 ⟨rfl, hb⟩; refine ⟨_, rfl, ?_⟩; have n0_ := Aside0.mk (below_step (by repeat (first | (with_reducible first | exact HB.out | apply below_alloc | apply pw_below_drewN | apply below_drew1) | exact HB.out)) hb); clear HB; have HB := n0_; clear n0_; (try clear hb); (try clear hb2); (try clear hk); (try clear hi)) | (go_at_call 23; (with_reducible refine (pairs_Match.calls k 9001 12297 false _ A3.out).mono ?_); rintro e w16 ⟨rfl, hb⟩; have n0_ := Aside0.mk (below_step (by repeat (first | (with_reducible first | exact HB.out | apply below_alloc | apply pw_below_drewN | apply below_drew1) | exact HB.out)) hb); clear HB; have HB := n0_; clear n0_; (try clear hb); (try clear hb2); (try clear hk); (try clear hi)))
      go_ret
      exact ⟨by first | rfl | (simp [errW_none, errW_some] <;> rfl) | (simp [*, errW_none, errW_some] <;> rfl), by repeat (first | (with_reducible first | exact HB.out | apply below_alloc | apply pw_below_drewN | apply below_drew1) | exact HB.out)⟩
  · rw [if_neg c2] at H
    have c2b0 : (t151 == 41) = false := beq_eq_false_iff_ne.mpr c2
    have c2b1 : (t151 != 41) = true := bne_iff_ne.mpr c2
    obtain rfl := Option.some.inj H
    go_enter Try.func25, Try.ntmps25
    go_wp2_with (first | ((with_reducible refine gate_callee (f := 19) rfl ?_); refine goesL_ (some 1) rfl rfl Try.func19 (by kernel_rfl) rfl #[.int .i64 40] rfl (by (try simp only [List.map_toArray, List.map_cons, List.map_nil]); first | done | rfl | (simp only [List.length_drop, List.length_take]; rfl)) ?_; (with_reducible refine (pairs_Mirror.calls k 40 t151 _ A1.out).mono ?_); rintro e w17 ⟨rfl, hb⟩; refine ⟨_, rfl, ?_⟩; have n0_ := Aside0.mk (below_step (by repeat (first | (with_reducible first | exact HB.out | apply below_alloc | apply pw_below_drewN | apply below_drew1) | exact HB.out)) hb); clear HB; have HB := n0_; clear n0_; (try clear hb); (try clear hb2); (try clear hk); (try clear hi)))
    go_ret
    exact ⟨by first | rfl | (simp [errW_none, errW_some] <;> rfl) | (simp [*, errW_none, errW_some] <;> rfl), by repeat (first | (with_reducible first | exact HB.out | apply below_alloc | apply pw_below_drewN | apply below_drew1) | exact HB.out)⟩

end Go.Proofs.Ytljcohjafcjgdaa.PPairsBack
