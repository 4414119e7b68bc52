import Derived.Test.YtknghhlielhleaaDoorSpT1
import Derived.Test.YtknghhlielhleaaDoorSpB1
import Derived.Test.YtknghhlielhleaaDoorSpR2
namespace Go.Proofs.YtknghhlielhleaaDoor.Stk
open Go.RowKit Go.Proofs.YtknghhlielhleaaDoorW.PrintWords Go.Proofs.YtknghhlielhleaaDoorW.PrintLast Go.Proofs.YtknghhlielhleaaDoorW.PrintMore
attribute [local go_sem] max2_int min2_int max_two min_two max_three min_three max_four min_four   -- for this text's walks alone
set_option linter.unusedVariables false
set_option linter.unusedSimpArgs false
open Go.Proofs.YtknghhlielhleaaDoor.PSpellTwice Go.Proofs.YtknghhlielhleaaDoorM
def bl (k : Nat) : ByteArray := ⟨(List.replicate k 32).toArray⟩
theorem nums_bl (k : Nat) : strOfNums (List.replicate k (32 : Int)) = bl k := by
  unfold strOfNums bl
  rw [List.map_replicate]
  rfl
theorem c8 {w : World} {g : Nat} (h : w.heap[g]? = some (.cells #[.int .u8 32] 5 (0, 0))) : Kd.C (Kd.int .u8) w (some ⟨g, 0, none⟩) ([(32 : Int)] : List Int).length [32] :=
  ⟨rfl, by decide, fun _ => ⟨_, rfl, fun j p hp => ⟨[.int .u8 p], rfl, rfl, fun i u hu => by
    have h1 : i < [Value.int .u8 p].length := (List.getElem?_eq_some_iff.1 hu).1
    have h2 : i = 0 := by simpa using h1
    subst h2
    cases hu
    have hj : j < [(32 : Int)].length := (List.getElem?_eq_some_iff.1 hp).1
    have hj0 : j = 0 := by simpa using hj
    subst hj0
    cases hp
    exact (blk_cell h 0).trans rfl⟩⟩⟩
theorem rep_at {w : World} {g k : Nat} (hk : k ≤ 35184372088832) (h : w.heap[g]? = some (.cells #[.int .u8 32] 5 (0, 0))) :
    Calls Tryd.prog 11 #[.slice (some ⟨g, 0, none⟩) 1 1, .int .i64 (k : Int)] w fun e w' => ∃ v0_ : Value, e = .returned (v0_) ∧ Kd.R (Kd.int .u8) 5 w' w.heap.size (fun _ => True) v0_ (List.replicate k 32) ∧ Below w.heap.size w w' :=
  rep8.calls (some ⟨g, 0, none⟩) 1 [32] (k : Int) (List.replicate k 32) w (c8 h) (by decide) (by
    unfold rep8.f
    rw [if_pos (show [(32 : Int)].length = 1 from rfl), if_pos (by omega), if_pos (by omega), Int.toNat_natCast]
    rfl)
theorem all_wd : ∀ m, m < 26 → fF ((allTo 14).getD m ⟨#[]⟩) < 14 ∧ ((allTo 14).getD m ⟨#[]⟩).data.toList ≠ [] ∧ (32 : UInt8) ∉ ((allTo 14).getD m ⟨#[]⟩).data.toList ∧ ((allTo 14).getD m ⟨#[]⟩).size ≤ 20 := by decide +kernel
theorem spW_bl : ∀ (k : Nat) (r : List UInt8), spW (List.replicate k 32 ++ r) [] = spW r []
  | 0, r => rfl
  | k + 1, r => by
    rw [List.replicate_succ, List.cons_append, spW, if_pos rfl, if_pos rfl]
    exact spW_bl k r
theorem bl_size (k : Nat) : (bl k).size = k := by show (List.replicate k (32 : UInt8)).toArray.size = k; simp
theorem twice_parse {x : ByteArray} (h0 : fF x < 14) (h1 : x.data.toList ≠ []) (h2 : (32 : UInt8) ∉ x.data.toList) (h3 : x.size ≤ 20) (k1 k2 : Nat) (hk1 : k1 ≤ 10) (hk2 : 1 ≤ k2 ∧ k2 ≤ 10) : (parseW (bl k1 ++ x ++ bl k2 ++ x)).1 = 12 := by
  have hsz : (bl k1 ++ x ++ bl k2 ++ x).size = k1 + x.size + k2 + x.size := by
    rw [ByteArray.size_append, ByteArray.size_append, ByteArray.size_append, bl_size, bl_size]
  have hl : wsL (bl k1 ++ x ++ bl k2 ++ x) = [x, x] := by
    rw [wsL_spW]
    have e : (bl k1 ++ x ++ bl k2 ++ x).data.toList = List.replicate k1 32 ++ (x.data.toList ++ (List.replicate k2 32 ++ x.data.toList)) := by
      simp [bl]
    obtain ⟨k, rfl⟩ : ∃ k, k2 = k + 1 := ⟨k2 - 1, by omega⟩
    rw [e, spW_bl, spW_app _ h2, List.nil_append, List.replicate_succ, List.cons_append, spW, if_pos rfl, if_neg h1, spW_bl, ← List.append_nil x.data.toList, spW_app _ h2, spW, List.append_nil, List.nil_append, if_neg h1, ba_eta]
  unfold parseW
  rw [if_neg (by omega), hl, run_cons, if_pos h0, if_neg (by decide), run_cons, if_pos h0, if_pos (by unfold upd; rw [if_pos rfl])]
set_option maxHeartbeats 8000000 in
set_option maxRecDepth 100000 in
theorem spellTwice_walk (a b : Int) (hab : 0 ≤ a ∧ a ≤ 255) (hbb : 0 ≤ b ∧ b ≤ 255) (w : World) : Calls Tryd.prog 4 #[.int .u8 a, .int .u8 b] w fun e w' => e = .returned (.bool true) ∧ Below w.heap.size w w' := by
  have hu := Tryd.underlying24
  obtain ⟨m, hm⟩ : ∃ m : Nat, a % 26 = (m : Int) := ⟨(a % 26).toNat, by omega⟩
  have hm26 : m < 26 := by omega
  have hl26 : (allTo 14).length = 26 := by decide
  obtain ⟨x, hx⟩ : ∃ x, (allTo 14)[m]? = some x := ⟨_, List.getElem?_eq_getElem (by omega)⟩
  have HX := Aside0.mk hx
  have hw := all_wd m hm26
  rw [List.getD_eq_getElem?_getD, hx, Option.getD_some] at hw
  obtain ⟨k1, hk1⟩ : ∃ k1 : Nat, b % 5 = (k1 : Int) := ⟨(b % 5).toNat, by omega⟩
  obtain ⟨k2, hk2⟩ : ∃ k2 : Nat, 1 + b % 7 = (k2 : Int) := ⟨(1 + b % 7).toNat, by omega⟩
  have HK := Aside0.mk (show k1 ≤ 10 ∧ 1 ≤ k2 ∧ k2 ≤ 10 by omega)
  have h25 : wrap64 (b.tmod 5) = (k1 : Int) := by rw [Int.tmod_eq_emod_of_nonneg hbb.1]; unfold wrap64; omega
  have h34 : wrap64 (1 + wrap64 (b.tmod 7)) = (k2 : Int) := by rw [Int.tmod_eq_emod_of_nonneg hbb.1]; unfold wrap64; omega
  have H25 := Aside0.mk h25
  have H34 := Aside0.mk h34
  have cp : ∀ w, Calls Tryd.prog 8 #[.string (bl k1 ++ x ++ bl k2 ++ x)] w fun e w' => e = .returned (.tuple #[.agg (ovc (parseW (bl k1 ++ x ++ bl k2 ++ x)).2), .int .i64 12]) ∧ Below w.heap.size w w' := fun w => by
    have h := p_parse (bl k1 ++ x ++ bl k2 ++ x) w
    rw [twice_parse hw.1 hw.2.1 hw.2.2.1 hw.2.2.2 k1 k2 HK.out.1 HK.out.2] at h
    exact h
  obtain ⟨z1, hz1⟩ : ∃ z, bl k1 = z := ⟨_, rfl⟩
  obtain ⟨z2, hz2⟩ : ∃ z, bl k2 = z := ⟨_, rfl⟩
  have HZ1 := Aside0.mk ((nums_bl k1).trans hz1)
  have HZ2 := Aside0.mk ((nums_bl k2).trans hz2)
  have y1 : z1.size = k1 := by rw [← hz1]; exact bl_size k1
  have y2 : z2.size = k2 := by rw [← hz2]; exact bl_size k2
  rw [hz1, hz2] at cp
  obtain ⟨s1, hs1⟩ : ∃ s, z1 ++ x = s := ⟨_, rfl⟩
  rw [hs1] at cp
  have y3 : s1.size = z1.size + x.size := by rw [← hs1, ByteArray.size_append]
  obtain ⟨s2, hs2⟩ : ∃ s, s1 ++ z2 = s := ⟨_, rfl⟩
  rw [hs2] at cp
  have y4 : s2.size = s1.size + z2.size := by rw [← hs2, ByteArray.size_append]
  obtain ⟨s3, hs3⟩ : ∃ s, s2 ++ x = s := ⟨_, rfl⟩
  rw [hs3] at cp
  have HS1 := Aside0.mk hs1
  have HS2 := Aside0.mk hs2
  have HS3 := Aside0.mk hs3
  have hkk := HK.out
  have e1c : (9223372036854775807 < z1.size + x.size) = False := eq_false (by omega)
  have e2c : (9223372036854775807 < s1.size + z2.size) = False := eq_false (by omega)
  have e3c : (9223372036854775807 < s2.size + x.size) = False := eq_false (by omega)
  have q1 := decide_eq_true (show (m : Int) < 26 by omega)
  have q2 := decide_eq_true hm26
  have r1 := eq_true (show (m : Int) < 26 by omega)
  have r2 := eq_true hm26
  have r3 := eq_true (show (0 : Int) ≤ (m : Int) by omega)
  have wa : IntKind.i64.wrap a = a := (i64_w _).trans (by unfold wrap64; omega)
  have ta : Int.tmod a 26 = (m : Int) := by rw [Int.tmod_eq_emod_of_nonneg hab.1]; exact hm
  have wm : IntKind.i64.wrap (m : Int) = (m : Int) := (i64_w _).trans (by unfold wrap64; omega)
  clear hab hbb hm hm26 hx hw hk1 hk2 h25 h34 hz1 hz2 y1 y2 y3 y4 hs1 hs2 hs3 hkk
  go_enter Tryd.func4, Tryd.ntmps4
  go_wp2_with (first | (go_at_call 10; (with_reducible refine (p_allwords _).mono ?_); go_loud (rintro e w1 ⟨v0, rfl, hR, hb⟩; obtain ⟨ga, ca, rfl, _, _, hcell⟩ := R_strs hR (by decide); have HB1 := Aside0.mk hb; have c_ := hcell m x HX.out; rw [Nat.zero_add] at c_; clear hcell hR hb)))
  refine start_ (n := 19) (S := fun _ => True) (ds := []) #[false, false, false, false, false, false, false, false, false, false, false, false, false, false, false, false, false, false, false] (by kernel_rfl) rfl rfl trivial (fun hHeld => ?_)
  refine pure_ (i := 1) (N := some 23) (v := ?_) (a' := ?_) #[false, true, false, false, false, false, false, false, false, false, false, false, false, false, false, false, false, false, false] rfl rfl (by kernel_rfl) (fun _ _ _ h => h) (Or.inl ⟨by rfl, ?_⟩) ?_ ?_
  rotate_left
  · intro w'
    go_simp
    with_reducible rfl
  rotate_left
  · simp only [Act.put, List.setIfInBounds_toArray, List.set_cons_zero, List.set_cons_succ, i64_w, i32_w]
    rfl
  refine pure_ (i := 2) (N := some 24) (v := ?_) (a' := ?_) #[false, true, true, false, false, false, false, false, false, false, false, false, false, false, false, false, false, false, false] rfl rfl (by kernel_rfl) (fun _ _ _ h => h) (Or.inl ⟨by rfl, ?_⟩) ?_ ?_
  rotate_left
  · intro w'
    go_simp
    with_reducible rfl
  rotate_left
  · simp only [Act.put, List.setIfInBounds_toArray, List.set_cons_zero, List.set_cons_succ, i64_w, i32_w]
    rfl
  refine pure_ (i := 3) (N := some 25) (v := ?_) (a' := ?_) #[false, true, true, true, false, false, false, false, false, false, false, false, false, false, false, false, false, false, false] rfl rfl (by kernel_rfl) (fun _ _ _ h => h) (Or.inl ⟨by rfl, ?_⟩) ?_ ?_
  rotate_left
  · intro w'
    go_simp
    with_reducible rfl
  rotate_left
  · simp only [Act.put, List.setIfInBounds_toArray, List.set_cons_zero, List.set_cons_succ, i64_w, i32_w]
    rfl
  refine pure_ (i := 6) (N := some 28) (v := ?_) (a' := ?_) #[false, true, true, true, false, false, true, false, false, false, false, false, false, false, false, false, false, false, false] rfl rfl (by kernel_rfl) (fun _ _ _ h => h) (Or.inl ⟨by rfl, ?_⟩) ?_ ?_
  rotate_left
  · intro w'
    go_simp
    with_reducible rfl
  rotate_left
  · simp only [Act.put, List.setIfInBounds_toArray, List.set_cons_zero, List.set_cons_succ, i64_w, i32_w]
    rfl
  refine pure_ (i := 9) (N := some 31) (v := ?_) (a' := ?_) #[false, true, true, true, false, false, true, false, false, true, false, false, false, false, false, false, false, false, false] rfl rfl (by kernel_rfl) (fun _ _ _ h => h) (Or.inl ⟨by rfl, ?_⟩) ?_ ?_
  rotate_left
  · intro w'
    go_simp
    with_reducible rfl
  rotate_left
  · simp only [Act.put, List.setIfInBounds_toArray, List.set_cons_zero, List.set_cons_succ, i64_w, i32_w]
    rfl
  refine pure_ (i := 10) (N := some 32) (v := ?_) (a' := ?_) #[false, true, true, true, false, false, true, false, false, true, true, false, false, false, false, false, false, false, false] rfl rfl (by kernel_rfl) (fun _ _ _ h => h) (Or.inl ⟨by rfl, ?_⟩) ?_ ?_
  rotate_left
  · intro w'
    go_simp
    with_reducible rfl
  rotate_left
  · simp only [Act.put, List.setIfInBounds_toArray, List.set_cons_zero, List.set_cons_succ, i64_w, i32_w]
    rfl
  refine pure_ (i := 11) (N := some 33) (v := ?_) (a' := ?_) #[false, true, true, true, false, false, true, false, false, true, true, true, false, false, false, false, false, false, false] rfl rfl (by kernel_rfl) (fun _ _ _ h => h) (Or.inl ⟨by rfl, ?_⟩) ?_ ?_
  rotate_left
  · intro w'
    go_simp
    with_reducible rfl
  rotate_left
  · simp only [Act.put, List.setIfInBounds_toArray, List.set_cons_zero, List.set_cons_succ, i64_w, i32_w]
    rfl
  refine pure_ (i := 12) (N := some 34) (v := ?_) (a' := ?_) #[false, true, true, true, false, false, true, false, false, true, true, true, true, false, false, false, false, false, false] rfl rfl (by kernel_rfl) (fun _ _ _ h => h) (Or.inl ⟨by rfl, ?_⟩) ?_ ?_
  rotate_left
  · intro w'
    go_simp
    with_reducible rfl
  rotate_left
  · simp only [Act.put, List.setIfInBounds_toArray, List.set_cons_zero, List.set_cons_succ, i64_w, i32_w]
    rfl
  refine pure_ (i := 16) (N := some 38) (v := ?_) (a' := ?_) #[false, true, true, true, false, false, true, false, false, true, true, true, true, false, false, false, true, false, false] rfl rfl (by kernel_rfl) (fun _ _ _ h => h) (Or.inl ⟨by rfl, ?_⟩) ?_ ?_
  rotate_left
  · intro w'
    go_simp
    with_reducible rfl
  rotate_left
  · simp only [Act.put, List.setIfInBounds_toArray, List.set_cons_zero, List.set_cons_succ, i64_w, i32_w]
    rfl
  rw [H25.out, H34.out]
  have hB : Below w1.heap.size w1 w1.drew := below_drew (Below.refl _ _)
  generalize hws : w1 = ws at hB HB1 ⊢
  generalize ws.drew = w3 at hB hHeld ⊢
  refine join_ (σ := Nat × Nat × Value × Value) 3 #[true, true, true, true, true, true, true, true, true, true, true, true, true, true, true, false, true, false, false] (fun | (g1, g2, v1, v2) => [(22, .slice (some ⟨g1, 0, none⟩) 1 1), (26, v1), (27, .string z1), (29, .string s1), (30, .slice (some ⟨g2, 0, none⟩) 1 1), (35, v2), (36, .string z2)]) (fun s w' => match s with | (g1, g2, v1, v2) => Below ws.heap.size ws w') ?_ (fun st3_3 => ?_)
  · rintro ⟨g1, g2, v1, v2⟩ w3 hF
    have hB := hF
    refine norm_ (a' := ?_) ?_ ?_
    rotate_left
    · simp only [putAll, Act.put, List.setIfInBounds_toArray, List.set_cons_zero, List.set_cons_succ]
      rfl
    refine pure_ (i := 15) (N := some 37) (v := .string s2) (a' := ?_) #[true, true, true, true, true, true, true, true, true, true, true, true, true, true, true, true, true, false, false] rfl rfl (by kernel_rfl) (fun _ _ _ h => h) (Or.inl ⟨by rfl, ?_⟩) ?_ ?_
    · intro w'
      go_simp; simp only [e2c, if_false, HS2.out]; try rfl
    rotate_left
    · simp only [putAll, Act.put, List.setIfInBounds_toArray, List.set_cons_zero, List.set_cons_succ]
      rfl
    refine pure_ (i := 17) (N := some 39) (v := .string s3) (a' := ?_) #[true, true, true, true, true, true, true, true, true, true, true, true, true, true, true, true, true, true, false] rfl rfl (by kernel_rfl) (fun _ _ _ h => h) (Or.inl ⟨by rfl, ?_⟩) ?_ ?_
    · intro w'
      go_simp; simp only [e3c, if_false, HS3.out]; try rfl
    rotate_left
    · simp only [putAll, Act.put, List.setIfInBounds_toArray, List.set_cons_zero, List.set_cons_succ]
      rfl
    refine pure_ (i := 18) (N := some 7) (v := .string s3) (a' := ?_) #[true, true, true, true, true, true, true, true, true, true, true, true, true, true, true, true, true, true, true] rfl rfl (by kernel_rfl) (fun _ _ _ h => h) (Or.inl ⟨by rfl, ?_⟩) ?_ ?_
    · intro w'
      go_simp
    rotate_left
    · simp only [putAll, Act.put, List.setIfInBounds_toArray, List.set_cons_zero, List.set_cons_succ]
      rfl
    refine done_ (by kernel_rfl) ?_
    have HB3 := Aside0.mk hB
    clear hB
    go_wp2_with (first | (go_at_call 8; (with_reducible refine (cp _).mono ?_); go_loud (rintro e w4 ⟨rfl, hb⟩; have HB4 := Aside0.mk (below_then (below_step HB1.out HB3.out) (Nat.le_trans HB1.out.size HB3.out.size) hb); clear hb)) | ((with_reducible refine gate_dst (N := 8) rfl ?_); go_loud (refine wp_alloc_cells rfl 24 rfl _ infoTO ?_; intro g8 hg w5 hb5 hB5; have H8 := Aside0.mk hb5; have HG8 := Aside0.mk (show w.heap.size ≤ g8 by have := HB4.out.size; omega); have HB5 := Aside0.mk (below_step HB4.out hB5); clear hg hb5 hB5)) | ((with_reducible refine gate_store (t := 24) (p := 8) rfl ?_); go_loud (refine wp_store_cells rfl 24 _ _ rfl rfl g8 (ovc (parseW s3).2) rfl rfl 24 _ H8.out (size_ovc _) rfl (ovc_one _) ?_; intro w6 hb6 hW6; have HB6 := Aside0.mk (hW6.below HB5.out HG8.out); clear hb6 hW6)) | (go_at_call 7; (with_reducible refine (p_awake _).mono ?_); go_loud (rintro e w7 ⟨rfl, hb⟩; have HBE := Aside0.mk (below_step HB6.out hb); clear hb)))
    go_ret
    exact ⟨rfl, HBE.out⟩
  refine join_ (σ := Nat × Nat × Value × Value) 5 #[true, true, true, true, true, false, true, false, true, true, true, true, true, true, true, false, true, false, false] (fun | (g1, g2, v1, v2) => [(22, .slice (some ⟨g1, 0, none⟩) 1 1), (26, v1), (30, .slice (some ⟨g2, 0, none⟩) 1 1), (35, v2), (36, .string z2)]) (fun s w' => match s with | (g1, g2, v1, v2) => Below ws.heap.size ws w' ∧ Kd.R (Kd.int .u8) 5 w' ws.heap.size (fun _ => True) v1 (List.replicate k1 32)) ?_ (fun st2_3 => ?_)
  · rintro ⟨g1, g2, v1, v2⟩ w3 hF
    obtain ⟨hB, hra⟩ := hF
    refine norm_ (a' := ?_) ?_ ?_
    rotate_left
    · simp only [putAll, Act.put, List.setIfInBounds_toArray, List.set_cons_zero, List.set_cons_succ]
      rfl
    refine wpAnyLast_ready (rs := [5]) (by kernel_rfl) (by simp) (AllReadyL.cons rfl (by decide) (fun K hK => ?_) (AllReadyL.nil))
    · have hst := own_string (P := Tryd.prog) (src := 31) (dst := 9) Tryd.underlying31 Tryd.underlying5 Tryd.underlying9 (Kd.own_of_R hra)
      rw [HZ1.out] at hst
      go_simp
      refine hK.out _ _ trivial (fun _ => ?_)
      refine pure_ (i := 7) (N := some 29) (v := .string s1) (a' := ?_) #[true, true, true, true, true, true, true, true, true, true, true, true, true, true, true, false, true, false, false] rfl rfl (by kernel_rfl) (fun _ _ _ h => h) (Or.inl ⟨by rfl, ?_⟩) ?_ ?_
      · intro w'
        go_simp; simp only [e1c, if_false, HS1.out]; try rfl
      rotate_left
      · simp only [putAll, Act.put, List.setIfInBounds_toArray, List.set_cons_zero, List.set_cons_succ]
        rfl
      refine norm_ ?_ (st3_3 (g1, g2, v1, v2) _ ?_)
      · simp only [putAll, Act.put, List.setIfInBounds_toArray, List.set_cons_zero, List.set_cons_succ]
      · exact hB
  refine join_ (σ := Nat × Nat × Value × Value) 4 #[true, true, true, true, true, true, true, true, true, true, true, true, true, true, false, false, true, false, false] (fun | (g1, g2, v1, v2) => [(22, .slice (some ⟨g1, 0, none⟩) 1 1), (26, v1), (27, .string z1), (29, .string s1), (30, .slice (some ⟨g2, 0, none⟩) 1 1), (35, v2)]) (fun s w' => match s with | (g1, g2, v1, v2) => Below ws.heap.size ws w' ∧ Kd.R (Kd.int .u8) 5 w' ws.heap.size (fun _ => True) v2 (List.replicate k2 32)) ?_ (fun st3_2 => ?_)
  · rintro ⟨g1, g2, v1, v2⟩ w3 hF
    obtain ⟨hB, hrb⟩ := hF
    refine norm_ (a' := ?_) ?_ ?_
    rotate_left
    · simp only [putAll, Act.put, List.setIfInBounds_toArray, List.set_cons_zero, List.set_cons_succ]
      rfl
    refine wpAnyLast_ready (rs := [14]) (by kernel_rfl) (by simp) (AllReadyL.cons rfl (by decide) (fun K hK => ?_) (AllReadyL.nil))
    · have hst := own_string (P := Tryd.prog) (src := 31) (dst := 9) Tryd.underlying31 Tryd.underlying5 Tryd.underlying9 (Kd.own_of_R hrb)
      rw [HZ2.out] at hst
      go_simp
      refine hK.out _ _ trivial (fun _ => ?_)
      refine norm_ ?_ (st3_3 (g1, g2, v1, v2) _ ?_)
      · simp only [putAll, Act.put, List.setIfInBounds_toArray, List.set_cons_zero, List.set_cons_succ]
      · exact hB
  refine join_ (σ := Nat × Nat × Value × Value) 6 #[true, true, true, true, true, false, true, false, true, true, true, true, true, true, false, false, true, false, false] (fun | (g1, g2, v1, v2) => [(22, .slice (some ⟨g1, 0, none⟩) 1 1), (26, v1), (30, .slice (some ⟨g2, 0, none⟩) 1 1), (35, v2)]) (fun s w' => match s with | (g1, g2, v1, v2) => Below ws.heap.size ws w' ∧ Kd.R (Kd.int .u8) 5 w' ws.heap.size (fun _ => True) v1 (List.replicate k1 32) ∧ Kd.R (Kd.int .u8) 5 w' ws.heap.size (fun _ => True) v2 (List.replicate k2 32)) ?_ (fun st2_2 => ?_)
  · rintro ⟨g1, g2, v1, v2⟩ w3 hF
    obtain ⟨hB, hra, hrb⟩ := hF
    refine norm_ (a' := ?_) ?_ ?_
    rotate_left
    · simp only [putAll, Act.put, List.setIfInBounds_toArray, List.set_cons_zero, List.set_cons_succ]
      rfl
    refine wpAnyLast_ready (rs := [5, 14]) (by kernel_rfl) (by simp) (AllReadyL.cons rfl (by decide) (fun K hK => ?_) (AllReadyL.cons rfl (by decide) (fun K hK => ?_) (AllReadyL.nil)))
    · have hst := own_string (P := Tryd.prog) (src := 31) (dst := 9) Tryd.underlying31 Tryd.underlying5 Tryd.underlying9 (Kd.own_of_R hra)
      rw [HZ1.out] at hst
      go_simp
      refine hK.out _ _ trivial (fun _ => ?_)
      refine pure_ (i := 7) (N := some 29) (v := .string s1) (a' := ?_) #[true, true, true, true, true, true, true, true, true, true, true, true, true, true, false, false, true, false, false] rfl rfl (by kernel_rfl) (fun _ _ _ h => h) (Or.inl ⟨by rfl, ?_⟩) ?_ ?_
      · intro w'
        go_simp; simp only [e1c, if_false, HS1.out]; try rfl
      rotate_left
      · simp only [putAll, Act.put, List.setIfInBounds_toArray, List.set_cons_zero, List.set_cons_succ]
        rfl
      refine norm_ ?_ (st3_2 (g1, g2, v1, v2) _ ?_)
      · simp only [putAll, Act.put, List.setIfInBounds_toArray, List.set_cons_zero, List.set_cons_succ]
      · exact ⟨hB, hrb⟩
    · have hst := own_string (P := Tryd.prog) (src := 31) (dst := 9) Tryd.underlying31 Tryd.underlying5 Tryd.underlying9 (Kd.own_of_R hrb)
      rw [HZ2.out] at hst
      go_simp
      refine hK.out _ _ trivial (fun _ => ?_)
      refine norm_ ?_ (st2_3 (g1, g2, v1, v2) _ ?_)
      · simp only [putAll, Act.put, List.setIfInBounds_toArray, List.set_cons_zero, List.set_cons_succ]
      · exact ⟨hB, hra⟩
  refine join_ (σ := Nat × Nat × Value × Value) 5 #[true, true, true, true, true, true, true, true, true, true, true, true, true, false, false, false, true, false, false] (fun | (g1, g2, v1, v2) => [(22, .slice (some ⟨g1, 0, none⟩) 1 1), (26, v1), (27, .string z1), (29, .string s1), (30, .slice (some ⟨g2, 0, none⟩) 1 1)]) (fun s w' => match s with | (g1, g2, v1, v2) => Below ws.heap.size ws w' ∧ w'.heap[g2]? = some (.cells #[.int .u8 32] 5 (0, 0))) ?_ (fun st3_1 => ?_)
  · rintro ⟨g1, g2, v1, v2⟩ w3 hF
    obtain ⟨hB, hgb⟩ := hF
    refine norm_ (a' := ?_) ?_ ?_
    rotate_left
    · simp only [putAll, Act.put, List.setIfInBounds_toArray, List.set_cons_zero, List.set_cons_succ]
      rfl
    refine wpAnyLast_ready (rs := [13]) (by kernel_rfl) (by simp) (AllReadyL.cons rfl (by decide) (fun K hK => ?_) (AllReadyL.nil))
    · refine (goes_ Tryd.func11 (by kernel_rfl) rfl #[.slice (some ⟨g2, 0, none⟩) 1 1, .int .i64 (k2 : Int)] (by rfl) rfl rfl (by (try simp only [List.map_toArray, List.map_cons, List.map_nil]); first | done | rfl) ?_)
      refine (rep_at (by have := HK.out; omega) hgb).mono ?_
      rintro e w4 ⟨v2', rfl, hr, hb⟩
      refine ⟨_, rfl, ?_⟩
      refine hK.out _ _ trivial (fun _ => ?_)
      refine norm_ ?_ (st3_2 (g1, g2, v1, v2') _ ?_)
      · show Act.put _ (some 35) _ = _
        simp only [putAll, Act.put, List.setIfInBounds_toArray, List.set_cons_zero, List.set_cons_succ]
      · exact ⟨below_then hB hB.size hb, Kd.R_lower hr hB.size⟩
  refine join_ (σ := Nat × Nat × Value × Value) 7 #[true, true, true, true, true, false, true, false, true, true, true, true, true, false, false, false, true, false, false] (fun | (g1, g2, v1, v2) => [(22, .slice (some ⟨g1, 0, none⟩) 1 1), (26, v1), (30, .slice (some ⟨g2, 0, none⟩) 1 1)]) (fun s w' => match s with | (g1, g2, v1, v2) => Below ws.heap.size ws w' ∧ Kd.R (Kd.int .u8) 5 w' ws.heap.size (fun _ => True) v1 (List.replicate k1 32) ∧ w'.heap[g2]? = some (.cells #[.int .u8 32] 5 (0, 0))) ?_ (fun st2_1 => ?_)
  · rintro ⟨g1, g2, v1, v2⟩ w3 hF
    obtain ⟨hB, hra, hgb⟩ := hF
    refine norm_ (a' := ?_) ?_ ?_
    rotate_left
    · simp only [putAll, Act.put, List.setIfInBounds_toArray, List.set_cons_zero, List.set_cons_succ]
      rfl
    refine wpAnyLast_ready (rs := [5, 13]) (by kernel_rfl) (by simp) (AllReadyL.cons rfl (by decide) (fun K hK => ?_) (AllReadyL.cons rfl (by decide) (fun K hK => ?_) (AllReadyL.nil)))
    · have hst := own_string (P := Tryd.prog) (src := 31) (dst := 9) Tryd.underlying31 Tryd.underlying5 Tryd.underlying9 (Kd.own_of_R hra)
      rw [HZ1.out] at hst
      go_simp
      refine hK.out _ _ trivial (fun _ => ?_)
      refine pure_ (i := 7) (N := some 29) (v := .string s1) (a' := ?_) #[true, true, true, true, true, true, true, true, true, true, true, true, true, false, false, false, true, false, false] rfl rfl (by kernel_rfl) (fun _ _ _ h => h) (Or.inl ⟨by rfl, ?_⟩) ?_ ?_
      · intro w'
        go_simp; simp only [e1c, if_false, HS1.out]; try rfl
      rotate_left
      · simp only [putAll, Act.put, List.setIfInBounds_toArray, List.set_cons_zero, List.set_cons_succ]
        rfl
      refine norm_ ?_ (st3_1 (g1, g2, v1, v2) _ ?_)
      · simp only [putAll, Act.put, List.setIfInBounds_toArray, List.set_cons_zero, List.set_cons_succ]
      · exact ⟨hB, hgb⟩
    · refine (goes_ Tryd.func11 (by kernel_rfl) rfl #[.slice (some ⟨g2, 0, none⟩) 1 1, .int .i64 (k2 : Int)] (by rfl) rfl rfl (by (try simp only [List.map_toArray, List.map_cons, List.map_nil]); first | done | rfl) ?_)
      refine (rep_at (by have := HK.out; omega) hgb).mono ?_
      rintro e w4 ⟨v2', rfl, hr, hb⟩
      refine ⟨_, rfl, ?_⟩
      refine hK.out _ _ trivial (fun _ => ?_)
      refine norm_ ?_ (st2_2 (g1, g2, v1, v2') _ ?_)
      · show Act.put _ (some 35) _ = _
        simp only [putAll, Act.put, List.setIfInBounds_toArray, List.set_cons_zero, List.set_cons_succ]
      · exact ⟨below_then hB hB.size hb, Kd.R_below hra hb, Kd.R_lower hr hB.size⟩
  refine join_ (σ := Nat × Nat × Value × Value) 6 #[true, true, true, true, true, true, true, true, false, true, true, true, true, false, false, false, true, false, false] (fun | (g1, g2, v1, v2) => [(22, .slice (some ⟨g1, 0, none⟩) 1 1), (26, v1), (27, .string z1), (29, .string s1)]) (fun s w' => match s with | (g1, g2, v1, v2) => Below ws.heap.size ws w') ?_ (fun st3_0 => ?_)
  · rintro ⟨g1, g2, v1, v2⟩ w3 hF
    have hB := hF
    refine norm_ (a' := ?_) ?_ ?_
    rotate_left
    · simp only [putAll, Act.put, List.setIfInBounds_toArray, List.set_cons_zero, List.set_cons_succ]
      rfl
    refine wpAnyLast_ready (rs := [8]) (by kernel_rfl) (by simp) (AllReadyL.cons rfl (by decide) (fun K hK => ?_) (AllReadyL.nil))
    · go_simp
      refine hK.out _ _ trivial (fun _ => ?_)
      refine norm_ ?_ (st3_1 (g1, w3.heap.size, v1, v2) _ ?_)
      · simp only [putAll, Act.put, List.setIfInBounds_toArray, List.set_cons_zero, List.set_cons_succ]
      · exact ⟨below_alloc hB _, blk_new w3 _⟩
  refine join_ (σ := Nat × Nat × Value × Value) 8 #[true, true, true, true, false, false, true, false, true, true, true, true, true, false, false, false, true, false, false] (fun | (g1, g2, v1, v2) => [(22, .slice (some ⟨g1, 0, none⟩) 1 1), (30, .slice (some ⟨g2, 0, none⟩) 1 1)]) (fun s w' => match s with | (g1, g2, v1, v2) => Below ws.heap.size ws w' ∧ w'.heap[g1]? = some (.cells #[.int .u8 32] 5 (0, 0)) ∧ w'.heap[g2]? = some (.cells #[.int .u8 32] 5 (0, 0))) ?_ (fun st1_1 => ?_)
  · rintro ⟨g1, g2, v1, v2⟩ w3 hF
    obtain ⟨hB, hga, hgb⟩ := hF
    refine norm_ (a' := ?_) ?_ ?_
    rotate_left
    · simp only [putAll, Act.put, List.setIfInBounds_toArray, List.set_cons_zero, List.set_cons_succ]
      rfl
    refine wpAnyLast_ready (rs := [4]) (by kernel_rfl) (by simp) (AllReadyL.cons rfl (by decide) (fun K hK => ?_) (AllReadyL.nil))
    · refine (goes_ Tryd.func11 (by kernel_rfl) rfl #[.slice (some ⟨g1, 0, none⟩) 1 1, .int .i64 (k1 : Int)] (by rfl) rfl rfl (by (try simp only [List.map_toArray, List.map_cons, List.map_nil]); first | done | rfl) ?_)
      refine (rep_at (by have := HK.out; omega) hga).mono ?_
      rintro e w4 ⟨v1', rfl, hr, hb⟩
      refine ⟨_, rfl, ?_⟩
      refine hK.out _ _ trivial (fun _ => ?_)
      refine norm_ ?_ (st2_1 (g1, g2, v1', v2) _ ?_)
      · show Act.put _ (some 26) _ = _
        simp only [putAll, Act.put, List.setIfInBounds_toArray, List.set_cons_zero, List.set_cons_succ]
      · exact ⟨below_then hB hB.size hb, Kd.R_lower hr hB.size, blk_below hgb hb⟩
  refine join_ (σ := Nat × Nat × Value × Value) 8 #[true, true, true, true, true, false, true, false, false, true, true, true, true, false, false, false, true, false, false] (fun | (g1, g2, v1, v2) => [(22, .slice (some ⟨g1, 0, none⟩) 1 1), (26, v1)]) (fun s w' => match s with | (g1, g2, v1, v2) => Below ws.heap.size ws w' ∧ Kd.R (Kd.int .u8) 5 w' ws.heap.size (fun _ => True) v1 (List.replicate k1 32)) ?_ (fun st2_0 => ?_)
  · rintro ⟨g1, g2, v1, v2⟩ w3 hF
    obtain ⟨hB, hra⟩ := hF
    refine norm_ (a' := ?_) ?_ ?_
    rotate_left
    · simp only [putAll, Act.put, List.setIfInBounds_toArray, List.set_cons_zero, List.set_cons_succ]
      rfl
    refine wpAnyLast_ready (rs := [5, 8]) (by kernel_rfl) (by simp) (AllReadyL.cons rfl (by decide) (fun K hK => ?_) (AllReadyL.cons rfl (by decide) (fun K hK => ?_) (AllReadyL.nil)))
    · have hst := own_string (P := Tryd.prog) (src := 31) (dst := 9) Tryd.underlying31 Tryd.underlying5 Tryd.underlying9 (Kd.own_of_R hra)
      rw [HZ1.out] at hst
      go_simp
      refine hK.out _ _ trivial (fun _ => ?_)
      refine pure_ (i := 7) (N := some 29) (v := .string s1) (a' := ?_) #[true, true, true, true, true, true, true, true, false, true, true, true, true, false, false, false, true, false, false] rfl rfl (by kernel_rfl) (fun _ _ _ h => h) (Or.inl ⟨by rfl, ?_⟩) ?_ ?_
      · intro w'
        go_simp; simp only [e1c, if_false, HS1.out]; try rfl
      rotate_left
      · simp only [putAll, Act.put, List.setIfInBounds_toArray, List.set_cons_zero, List.set_cons_succ]
        rfl
      refine norm_ ?_ (st3_0 (g1, g2, v1, v2) _ ?_)
      · simp only [putAll, Act.put, List.setIfInBounds_toArray, List.set_cons_zero, List.set_cons_succ]
      · exact hB
    · go_simp
      refine hK.out _ _ trivial (fun _ => ?_)
      refine norm_ ?_ (st2_1 (g1, w3.heap.size, v1, v2) _ ?_)
      · simp only [putAll, Act.put, List.setIfInBounds_toArray, List.set_cons_zero, List.set_cons_succ]
      · exact ⟨below_alloc hB _, Kd.R_alloc hra _, blk_new w3 _⟩
  refine join_ (σ := Nat × Nat × Value × Value) 9 #[false, true, true, true, false, false, true, false, true, true, true, true, true, false, false, false, true, false, false] (fun | (g1, g2, v1, v2) => [(30, .slice (some ⟨g2, 0, none⟩) 1 1)]) (fun s w' => match s with | (g1, g2, v1, v2) => Below ws.heap.size ws w' ∧ w'.heap[g2]? = some (.cells #[.int .u8 32] 5 (0, 0))) ?_ (fun st0_1 => ?_)
  · rintro ⟨g1, g2, v1, v2⟩ w3 hF
    obtain ⟨hB, hgb⟩ := hF
    refine norm_ (a' := ?_) ?_ ?_
    rotate_left
    · simp only [putAll, Act.put, List.setIfInBounds_toArray, List.set_cons_zero, List.set_cons_succ]
      rfl
    refine wpAnyLast_ready (rs := [0]) (by kernel_rfl) (by simp) (AllReadyL.cons rfl (by decide) (fun K hK => ?_) (AllReadyL.nil))
    · go_simp
      refine hK.out _ _ trivial (fun _ => ?_)
      refine norm_ ?_ (st1_1 (w3.heap.size, g2, v1, v2) _ ?_)
      · simp only [putAll, Act.put, List.setIfInBounds_toArray, List.set_cons_zero, List.set_cons_succ]
      · exact ⟨below_alloc hB _, blk_new w3 _, blk_alloc hgb _⟩
  refine join_ (σ := Nat × Nat × Value × Value) 9 #[true, true, true, true, false, false, true, false, false, true, true, true, true, false, false, false, true, false, false] (fun | (g1, g2, v1, v2) => [(22, .slice (some ⟨g1, 0, none⟩) 1 1)]) (fun s w' => match s with | (g1, g2, v1, v2) => Below ws.heap.size ws w' ∧ w'.heap[g1]? = some (.cells #[.int .u8 32] 5 (0, 0))) ?_ (fun st1_0 => ?_)
  · rintro ⟨g1, g2, v1, v2⟩ w3 hF
    obtain ⟨hB, hga⟩ := hF
    refine norm_ (a' := ?_) ?_ ?_
    rotate_left
    · simp only [putAll, Act.put, List.setIfInBounds_toArray, List.set_cons_zero, List.set_cons_succ]
      rfl
    refine wpAnyLast_ready (rs := [4, 8]) (by kernel_rfl) (by simp) (AllReadyL.cons rfl (by decide) (fun K hK => ?_) (AllReadyL.cons rfl (by decide) (fun K hK => ?_) (AllReadyL.nil)))
    · refine (goes_ Tryd.func11 (by kernel_rfl) rfl #[.slice (some ⟨g1, 0, none⟩) 1 1, .int .i64 (k1 : Int)] (by rfl) rfl rfl (by (try simp only [List.map_toArray, List.map_cons, List.map_nil]); first | done | rfl) ?_)
      refine (rep_at (by have := HK.out; omega) hga).mono ?_
      rintro e w4 ⟨v1', rfl, hr, hb⟩
      refine ⟨_, rfl, ?_⟩
      refine hK.out _ _ trivial (fun _ => ?_)
      refine norm_ ?_ (st2_0 (g1, g2, v1', v2) _ ?_)
      · show Act.put _ (some 26) _ = _
        simp only [putAll, Act.put, List.setIfInBounds_toArray, List.set_cons_zero, List.set_cons_succ]
      · exact ⟨below_then hB hB.size hb, Kd.R_lower hr hB.size⟩
    · go_simp
      refine hK.out _ _ trivial (fun _ => ?_)
      refine norm_ ?_ (st1_1 (g1, w3.heap.size, v1, v2) _ ?_)
      · simp only [putAll, Act.put, List.setIfInBounds_toArray, List.set_cons_zero, List.set_cons_succ]
      · exact ⟨below_alloc hB _, blk_alloc hga _, blk_new w3 _⟩
  refine wpAnyLast_ready (rs := [0, 8]) (by kernel_rfl) (by simp) (AllReadyL.cons rfl (by decide) (fun K hK => ?_) (AllReadyL.cons rfl (by decide) (fun K hK => ?_) (AllReadyL.nil)))
  · go_simp
    refine hK.out _ _ trivial (fun _ => ?_)
    refine norm_ ?_ (st1_0 (w3.heap.size, 0, undef, undef) _ ?_)
    · simp only [putAll, Act.put, List.setIfInBounds_toArray, List.set_cons_zero, List.set_cons_succ]
    · exact ⟨below_alloc hB _, blk_new w3 _⟩
  · go_simp
    refine hK.out _ _ trivial (fun _ => ?_)
    refine norm_ ?_ (st0_1 (0, w3.heap.size, undef, undef) _ ?_)
    · simp only [putAll, Act.put, List.setIfInBounds_toArray, List.set_cons_zero, List.set_cons_succ]
    · exact ⟨below_alloc hB _, blk_new w3 _⟩
end Go.Proofs.YtknghhlielhleaaDoor.Stk
