import Derived.Test.YtknghhlielhleaaDoorSpP9
import Derived.Test.YtknghhlielhleaaDoorPSpellTwicex1
import Derived.Test.YtknghhlielhleaaDoorMy3
namespace Go.Proofs.YtknghhlielhleaaDoor.Stk
open Go.RowKit Go.Proofs.YtknghhlielhleaaDoorW.PrintWords Go.Proofs.YtknghhlielhleaaDoorW.PrintLast Go.Proofs.YtknghhlielhleaaDoorW.PrintMore
attribute [local go_sem] max2_int min2_int max_two min_two max_three min_three max_four min_four   -- for this text's walks alone
set_option linter.unusedVariables false
set_option linter.unusedSimpArgs false
open Go.Proofs.YtknghhlielhleaaDoor.PSpellTwice Go.Proofs.YtknghhlielhleaaDoorM
theorem info5b : (Tryd.prog.info? 5).map (fun i => (i.zero, i.size, i.bytes)) = some (some (.int .u8 0), 1, 1) := by kernel_rfl
def rep8.f (l0 : List Int) (a1 : Int) : Option (List Int) := if l0.length = 1 then (if 0 ≤ a1 then (if a1.toNat ≤ 35184372088832 then some (List.replicate a1.toNat (rd l0 0)) else none) else none) else none
theorem rep8.mul (n : Int) (h0 : 0 ≤ n) (h1 : n ≤ 35184372088832) : bits_Mul.f 1 n = some (0, n) := by
  have w : ∀ x : Int, 0 ≤ x → x < 18446744073709551616 → IntKind.u64.wrap x = x := fun x a b => by simp [IntKind.wrap_u64]; omega
  have ww : ∀ x : Int, 0 ≤ x → x < 2 ^ 62 → IntKind.u64.wrap x = x := fun x a b => w x a (by omega)
  have m1 : Go.bits .and .u64 n 4294967295 = n % 4294967296 := bits_mask .u64 62 (by decide) ww 32 (by decide) n h0 (by omega)
  have m2 : Go.bits .and .u64 1 4294967295 = 1 := by decide +kernel
  have m3 : ∀ x : Int, 0 ≤ x → x < 2 ^ 62 → Go.bits .and .u64 x 4294967295 = x % 4294967296 := fun x a b => bits_mask .u64 62 (by decide) ww 32 (by decide) x a b
  unfold bits_Mul.f bits_Mul64.f
  simp only [m1, m2, Option.bind_some]
  have e0 : (1 : Int) / 4294967296 = 0 := by decide
  rw [e0, Int.zero_mul, w 0 (by omega) (by omega), Int.one_mul, w (n % 4294967296) (by omega) (by omega)]
  have e1 : n % 4294967296 / 4294967296 = 0 := by omega
  have z0 : IntKind.u64.wrap 0 = 0 := by decide
  have z1 : Go.bits .and .u64 0 4294967295 = 0 := by decide +kernel
  have e2 : (0 : Int) / 4294967296 = 0 := by decide
  have e3 : n / 4294967296 / 4294967296 = 0 := by omega
  simp only [Int.zero_mul, z0, e1, Int.add_zero, Int.zero_add, z1, e2, Int.one_mul, w (n / 4294967296) (by omega) (by omega), e3, w n h0 (by omega)]
set_option maxHeartbeats 8000000 in
set_option maxRecDepth 100000 in
theorem rep8.calls (A0 : Option Addr) (c0 : Nat) (l0 : List Int) (a1 : Int) (r : List Int) (w : World) (hr0 : Kd.C (Kd.int .u8) w A0 l0.length l0) (hc0 : l0.length ≤ c0) (h : rep8.f l0 a1 = some r) :
    Calls Tryd.prog 11 #[.slice A0 l0.length c0, .int .i64 a1] w fun e w' => ∃ v0_ : Value, e = .returned (v0_) ∧ Kd.R (Kd.int .u8) 5 w' w.heap.size (fun _ => True) v0_ r ∧ Below w.heap.size w w' := by
  have HR0 := Aside0.mk hr0
  have HC0 := Aside0.mk hc0
  clear hr0 hc0
  have HB := Aside0.mk (Below.refl w.heap.size w)
  unfold rep8.f at h
  by_cases hl : l0.length = 1
  case neg => rw [if_neg hl] at h; cases h
  rw [if_pos hl] at h
  by_cases hn0 : 0 ≤ a1
  case neg => rw [if_neg hn0] at h; cases h
  rw [if_pos hn0] at h
  by_cases hn1 : a1.toNat ≤ 35184372088832
  case neg => rw [if_neg hn1] at h; cases h
  rw [if_pos hn1] at h
  obtain rfl := Option.some.inj h
  clear h
  obtain ⟨x, rfl⟩ : ∃ x, l0 = [x] := by
    match l0, hl with
    | [x], _ => exact ⟨x, rfl⟩
  obtain ⟨m, rfl⟩ := Int.eq_ofNat_of_zero_le hn0
  clear hl hn0
  have hm : m ≤ 35184372088832 := by omega
  clear hn1
  have hMUL := Aside0.mk (rep8.mul (m : Int) (by omega) (by omega))
  have hwr : IntKind.u64.wrap (m : Int) = m := by simp [IntKind.wrap_u64]; omega
  have hw64 : wrap64 (m : Int) = m := by unfold wrap64; omega
  have hd0 : decide ((m : Int) < 0) = false := decide_eq_false (by omega)
  have hd1 : decide (9223372036854775807 < (m : Int)) = false := decide_eq_false (by omega)
  have hA0 := Kd.at_int HR0.out 0 (by omega) (by simp)
  have hrd : rd [x] 0 = x := rfl
  rw [hrd] at hA0 ⊢
  rw [Int.toNat_natCast]
  obtain ⟨ad0, rfl, hx0⟩ := hA0
  have HX0 := Aside0.mk hx0
  clear hx0 hrd HR0 HC0
  have hm' := Aside0.mk hm
  clear hm
  have hi3 : (Tryd.prog.info? 5).map (·.size) = some 1 := by kernel_rfl
  have HI3 := Aside0.mk hi3
  clear hi3
  rcases Nat.eq_zero_or_pos m with hz | hp
  · subst hz
    have e0 : ((0 : Nat) : Int) = 0 := rfl
    rw [e0] at hMUL ⊢
    have hw0 : IntKind.u64.wrap 0 = 0 := by decide
    clear hwr hw64 hd0 hd1 e0
    go_enter Tryd.func11, Tryd.ntmps11
    go_wp2_with (first | (go_at_call 25; (with_reducible refine (bits_Mul.calls 1 0 0 0 _ hMUL.out).mono ?_); rintro e w2 ⟨rfl, nd, rfl⟩) | ((with_reducible refine gate_dst (N := 30) rfl ?_); refine Kd.R_make (Kd.int .u8) (w0 := w) w.heap.size 5 rfl (N := 30) rfl 31 _ _ rfl (0 : Int) (by first | rfl | (simp; done) | (go_simp; rfl)) (by first | rfl | (simp; done) | (go_simp; rfl)) Tryd.underlying31 (.int .u8 0) 1 info5b rfl (by decide) (by omega) 0 (ok := fun _ => True) (okp := fun _ => True) rfl (fun _ hk => hk) trivial (by omega) (by omega) (pw_below_drewN (Below.refl _ _) _) (Nat.le_refl _) ?_; intro v104 w4 ho5 hb hg_ hnew_; rw [Int.toNat_zero, List.replicate_zero] at ho5; clear hg_ hnew_; obtain ⟨A12, co12, eo12⟩ := Kd.R_slice ho5; rw [List.length_nil] at eo12; subst eo12; have HO := Aside0.mk ho5; have HB1 := Aside0.mk hb; clear ho5 hb) | ((with_reducible refine gate_builtin (b := .copy) (xs := #[.tmp 31, .tmp 32]) rfl ?_); refine wpList_copy_nothing rfl (.tmp 31) (.tmp 32) 31 31 rfl 5 Tryd.underlying31 HI3.out A12 (some ad0) 0 co12 1 c0 rfl rfl rfl ?_))
    go_loopg [8] 0 (fun kq v8 w' => v8 = .int .i64 0 ∧ Aside0 (Kd.R (Kd.int .u8) 5 w' w.heap.size (fun _ => True) (.slice A12 0 co12) ([] : List Int)) ∧ Aside0 (Below w.heap.size w w'))
    case atStart => exact ⟨rfl, HO, HB1⟩
    case round =>
      obtain ⟨rfl, HOj, HBj⟩ := hrel
      go_wp2
      go_ret
      exact ⟨_, rfl, HOj.out, HBj.out⟩
  · have HP := Aside0.mk hp
    clear hp
    go_enter Tryd.func11, Tryd.ntmps11
    go_wp2_with (first | (go_at_call 25; (with_reducible refine (bits_Mul.calls 1 (m : Int) 0 (m : Int) _ hMUL.out).mono ?_); rintro e w2 ⟨rfl, nd, rfl⟩) | ((with_reducible refine gate_dst (N := 30) rfl ?_); refine Kd.R_make (Kd.int .u8) (w0 := w) w.heap.size 5 rfl (N := 30) rfl 31 _ _ rfl (m : Int) (congrArg (Value.int .i64) hw64) (congrArg (Value.int .i64) hw64) Tryd.underlying31 (.int .u8 0) 1 info5b rfl (by decide) (by omega) 0 (ok := fun _ => True) (okp := fun _ => True) rfl (fun _ hk => hk) trivial (by omega) (by have := hm'.out; omega) (pw_below_drewN (Below.refl _ _) _) (Nat.le_refl _) ?_; intro v104 w4 ho5 hb hg_ hnew_; rw [Int.toNat_natCast] at ho5; clear hg_ hnew_; obtain ⟨go12, co12, eo12, gb12, gl12, cl12, HG12⟩ := Kd.R_form ho5 (by have := HP.out; simpa using this); rw [List.length_replicate] at eo12; subst eo12; have HO := Aside0.mk ho5; have HB1 := Aside0.mk hb; clear ho5 hb gb12 gl12 HG12) | ((with_reducible refine gate_builtin (b := .copy) (xs := #[.tmp 31, .tmp 32]) rfl ?_); refine Kd.R_copy (w0 := w) rfl (.tmp 31) (.tmp 32) 31 31 rfl 5 Tryd.underlying31 HI3.out 0 m co12 1 c0 ad0 rfl rfl HO.out [x] (Eq.symm (Nat.min_eq_left HP.out)) (by have := HP.out; simp; omega) (by intro j y hj; match j, hj with | 0, hj => (obtain rfl := Option.some.inj hj; exact (HB1.out.cell (World.block_lt_of_cell? w _ HX0.out)).trans HX0.out)) HB1.out ?_; intro w5 ho6 hb6; have HO6 := Aside0.mk ho6; have HB6 := Aside0.mk hb6; clear ho6 hb6 HO HB1))
    have hrow : List.take 0 (List.replicate m (0 : Int)) ++ ([x] ++ List.drop (0 + [x].length) (List.replicate m 0)) = List.replicate 1 x ++ List.replicate (m - 1) 0 := by simp
    rw [hrow] at HO6
    clear hrow
    go_loopg [8] (m - 1) (fun kq v8 w' => ∃ (j : Nat), v8 = .int .i64 (j : Int) ∧ Aside0 (1 ≤ j ∧ j ≤ m ∧ m - j = kq) ∧ Aside0 (Kd.R (Kd.int .u8) 5 w' w.heap.size (fun _ => True) (.slice (some ⟨go12, 0, none⟩) m co12) (List.replicate j x ++ List.replicate (m - j) 0)) ∧ Aside0 (Below w.heap.size w w'))
    case atStart => exact ⟨1, rfl, ⟨Nat.le_refl _, HP.out, rfl⟩, HO6, HB6⟩
    case round =>
      obtain ⟨j, rfl, HJ, HOj, HBj⟩ := hrel
      have hcap := Kd.R_cap HOj.out
      by_cases hjm : j < m
      · have hb : decide ((j : Int) < (m : Int)) = true := decide_eq_true (by omega)
        have hb2 : decide (j < m) = true := decide_eq_true hjm
        have hc41 := cut_own_from (P := Tryd.prog) 31 5 .i64 Tryd.underlying31 HI3.out go12 m co12 j hjm hcap
        have hc44 := cut_own_to (P := Tryd.prog) 31 5 .i64 Tryd.underlying31 HI3.out (some ⟨go12, 0, none⟩) m co12 j (Nat.le_of_lt hjm) hcap
        obtain ⟨q, hq⟩ : ∃ q, Nat.min j (m - j) = q := ⟨_, rfl⟩
        have HQ := Aside0.mk (show Nat.min j (m - j) = q ∧ q ≤ j ∧ j + q ≤ m ∧ 1 ≤ q from by
          have h1 := HJ.out
          have h2 : Nat.min j (m - j) ≤ m - j := Nat.min_le_right _ _
          have h3 : Nat.min j (m - j) ≤ j := Nat.min_le_left _ _
          have h4 : 1 ≤ Nat.min j (m - j) := Nat.le_min.mpr ⟨h1.1, by omega⟩
          omega)
        clear hq
        have HSRC : Aside0 (∀ (j' : Nat) (y : Int), (List.replicate q x)[j']? = some y → wr.cell? (Addr.add ⟨go12, 0, none⟩ j') = some (Value.int .u8 y)) := ⟨fun j' y hy => by
          rw [List.getElem?_replicate] at hy
          split at hy
          case isFalse => cases hy
          rename_i hj'
          obtain rfl := Option.some.inj hy
          have hjj : j' < j := Nat.lt_of_lt_of_le hj' HQ.out.2.1
          have hc := (Kd.R_celln (0 : Int) HOj.out (j' : Int) (by omega) (by omega)).1
          have ha : Addr.add ⟨go12, 0, none⟩ j' = ⟨go12, j', none⟩ := by simp [Addr.add]; intro h; exact h.symm
          rw [ha]
          simpa [rdOf, List.getElem?_append, hjj] using hc⟩
        have hwj : wrap64 ((j : Int) + (q : Int)) = ((j + q : Nat) : Int) := by have := HQ.out; have := hm'.out; unfold wrap64; omega
        clear hjm hcap
        have HOd := Aside0.mk (Kd.R_drew HOj.out)
        have HBd := Aside0.mk (below_drew1 HBj.out)
        have HSRCd : Aside0 (∀ (j' : Nat) (y : Int), (List.replicate q x)[j']? = some y → wr.drew.cell? (Addr.add ⟨go12, 0, none⟩ j') = some (Value.int .u8 y)) := ⟨HSRC.out⟩
        clear HSRC HOj HBj
        go_wp2
        refine start_ (n := 10) (S := fun _ => True) (ds := [7]) #[false, false, false, false, false, false, false, false, false, false] (by kernel_rfl) rfl rfl trivial (fun _ => ?_)
        generalize wr.drew = w10 at HOd HBd HSRCd ⊢
        refine pure_ (i := 0) (N := some 38) (v := ?_) (a' := ?_) #[true, false, false, false, false, false, false, false, false, false] rfl rfl (by kernel_rfl) (fun _ _ _ h => h) (Or.inl ⟨by rfl, ?_⟩) ?_ ?_
        rotate_left
        · intro w'
          go_simp
          with_reducible rfl
        rotate_left
        · simp only [Act.put, List.setIfInBounds_toArray, List.set_cons_zero, List.set_cons_succ, i64_w, i32_w]
          rfl
        refine pure_ (i := 1) (N := some 39) (v := ?_) (a' := ?_) #[true, true, false, false, false, false, false, false, false, false] rfl rfl (by kernel_rfl) (fun _ _ _ h => h) (Or.inl ⟨by rfl, ?_⟩) ?_ ?_
        rotate_left
        · intro w'
          go_simp
          with_reducible rfl
        rotate_left
        · simp only [Act.put, List.setIfInBounds_toArray, List.set_cons_zero, List.set_cons_succ, i64_w, i32_w]
          rfl
        refine pure_ (i := 2) (N := some 40) (v := ?_) (a' := ?_) #[true, true, true, false, false, false, false, false, false, false] rfl rfl (by kernel_rfl) (fun _ _ _ h => h) (Or.inl ⟨by rfl, ?_⟩) ?_ ?_
        rotate_left
        · intro w'
          go_simp
          with_reducible rfl
        rotate_left
        · simp only [Act.put, List.setIfInBounds_toArray, List.set_cons_zero, List.set_cons_succ, i64_w, i32_w]
          rfl
        refine pure_ (i := 3) (N := some 41) (v := ?_) (a' := ?_) #[true, true, true, true, false, false, false, false, false, false] rfl rfl (by kernel_rfl) (fun _ _ _ h => h) (Or.inl ⟨by rfl, ?_⟩) ?_ ?_
        rotate_left
        · intro w'
          go_simp
          with_reducible rfl
        rotate_left
        · simp only [Act.put, List.setIfInBounds_toArray, List.set_cons_zero, List.set_cons_succ, i64_w, i32_w]
          rfl
        refine pure_ (i := 4) (N := some 42) (v := ?_) (a' := ?_) #[true, true, true, true, true, false, false, false, false, false] rfl rfl (by kernel_rfl) (fun _ _ _ h => h) (Or.inl ⟨by rfl, ?_⟩) ?_ ?_
        rotate_left
        · intro w'
          go_simp
          with_reducible rfl
        rotate_left
        · simp only [Act.put, List.setIfInBounds_toArray, List.set_cons_zero, List.set_cons_succ, i64_w, i32_w]
          rfl
        refine pure_ (i := 5) (N := some 43) (v := ?_) (a' := ?_) #[true, true, true, true, true, true, false, false, false, false] rfl rfl (by kernel_rfl) (fun _ _ _ h => h) (Or.inl ⟨by rfl, ?_⟩) ?_ ?_
        rotate_left
        · intro w'
          go_simp
          with_reducible rfl
        rotate_left
        · simp only [Act.put, List.setIfInBounds_toArray, List.set_cons_zero, List.set_cons_succ, i64_w, i32_w]
          rfl
        refine pure_ (i := 6) (N := some 44) (v := ?_) (a' := ?_) #[true, true, true, true, true, true, true, false, false, false] rfl rfl (by kernel_rfl) (fun _ _ _ h => h) (Or.inl ⟨by rfl, ?_⟩) ?_ ?_
        rotate_left
        · intro w'
          go_simp
          with_reducible rfl
        rotate_left
        · simp only [Act.put, List.setIfInBounds_toArray, List.set_cons_zero, List.set_cons_succ, i64_w, i32_w]
          rfl
        refine last_ (i := 7) (N := some 45) #[true, true, true, true, true, true, true, true, false, false] rfl rfl (by kernel_rfl) (by decide) (fun K hK => ?_)
        refine Kd.R_copy_step (w0 := w) (N := 45) rfl rfl (.tmp 41) (.tmp 44) 31 31 rfl 5 Tryd.underlying31 HI3.out j (m - j) (co12 - j) j co12 ⟨go12, 0, none⟩ rfl rfl HOd.out (List.replicate q x) (by rw [List.length_replicate]; exact HQ.out.1.symm) (by have h1 := HQ.out; rw [List.length_replicate]; omega) HSRCd.out HBd.out ?_
        intro w7 ho7 hb7
        have HO7 := Aside0.mk ho7
        have HB7 := Aside0.mk hb7
        clear ho7 hb7
        refine hK.out _ _ ?_
        clear hK K
        simp only [Act.put, List.setIfInBounds_toArray, List.set_cons_zero, List.set_cons_succ, goInt, List.length_replicate]
        refine pure_ (i := 8) (N := some 46) (v := ?_) (a' := ?_) #[true, true, true, true, true, true, true, true, true, false] rfl rfl (by kernel_rfl) (fun _ _ _ h => h) (Or.inl ⟨by rfl, ?_⟩) ?_ ?_
        rotate_left
        · intro w'
          go_simp
          with_reducible rfl
        rotate_left
        · simp only [Act.put, List.setIfInBounds_toArray, List.set_cons_zero, List.set_cons_succ, i64_w, i32_w]
          rfl
        refine pure_ (i := 9) (N := some 8) (v := ?_) (a' := ?_) #[true, true, true, true, true, true, true, true, true, true] rfl rfl (by kernel_rfl) (fun _ _ _ h => h) (Or.inl ⟨by rfl, ?_⟩) ?_ ?_
        rotate_left
        · intro w'
          go_simp
          with_reducible rfl
        rotate_left
        · simp only [Act.put, List.setIfInBounds_toArray, List.set_cons_zero, List.set_cons_succ, i64_w, i32_w]
          rfl
        refine done_ (by kernel_rfl) ?_
        go_wp2
        go_roundg (m - (j + q))
        case measure => have h1 := HJ.out; have h2 := HQ.out; omega
        case rel =>
          have h2 := HQ.out
          have hrow : List.take j (List.replicate j x ++ List.replicate (m - j) 0) ++ (List.replicate q x ++ List.drop (j + (List.replicate q x).length) (List.replicate j x ++ List.replicate (m - j) 0)) = List.replicate (j + q) x ++ List.replicate (m - (j + q)) (0 : Int) := by
            rw [List.length_replicate, List.take_append_of_le_length (by simp), List.take_of_length_le (by simp), List.drop_append, List.length_replicate, List.drop_eq_nil_of_le (by simp), List.nil_append, List.drop_replicate, ← List.append_assoc, List.replicate_append_replicate]
            congr 2
            omega
          rw [hrow] at HO7
          exact ⟨j + q, rfl, ⟨by omega, by omega, rfl⟩, HO7, HB7⟩
      · have hb : decide ((j : Int) < (m : Int)) = false := decide_eq_false (by omega)
        have hb2 : decide (j < m) = false := decide_eq_false hjm
        have hj : j = m := by have := HJ.out; omega
        subst hj
        rw [Nat.sub_self, List.replicate_zero, List.append_nil] at HOj
        clear hjm hcap
        go_wp2
        go_ret
        exact ⟨_, rfl, HOj.out, HBj.out⟩
end Go.Proofs.YtknghhlielhleaaDoor.Stk
