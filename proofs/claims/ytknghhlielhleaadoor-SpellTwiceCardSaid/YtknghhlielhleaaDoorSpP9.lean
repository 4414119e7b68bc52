import Derived.Test.YtknghhlielhleaaDoorSpP7
namespace Go.Proofs.YtknghhlielhleaaDoor.Stk
open Go.RowKit Go.Proofs.YtknghhlielhleaaDoorW.PrintWords Go.Proofs.YtknghhlielhleaaDoorW.PrintLast Go.Proofs.YtknghhlielhleaaDoorW.PrintMore
attribute [local go_sem] max2_int min2_int max_two min_two max_three min_three max_four min_four   -- for this text's walks alone
set_option linter.unusedVariables false
set_option linter.unusedSimpArgs false
theorem eqTO (d : Nat) (w : World) (v : Nat → Int) : (Op.equalIn (d + 2) 24 (.agg (ovc v)) (.agg (ovc v))).run Tryd.prog w = .ok true w := by
  refine eqA_of Tryd.underlying24 (by kernel_rfl) ?_
  unfold ovc
  refine eqf_cons (r := true) (by rfl) (by go_simp; rfl) (by go_simp; rfl) (by go_simp) ?_
  refine eqf_cons (r := true) (by rfl) (by go_simp; rfl) (by go_simp; rfl) (by go_simp) ?_
  refine eqf_cons (r := true) (by rfl) (by go_simp; rfl) (by go_simp; rfl) (by go_simp) ?_
  refine eqf_cons (r := true) (by rfl) (by go_simp; rfl) (by go_simp; rfl) (by go_simp) ?_
  refine eqf_cons (r := true) (by rfl) (by go_simp; rfl) (by go_simp; rfl) (by go_simp) ?_
  refine eqf_cons (r := true) (by rfl) (by go_simp; rfl) (by go_simp; rfl) (by go_simp) ?_
  refine eqf_cons (r := true) (by rfl) (by go_simp; rfl) (by go_simp; rfl) (by go_simp) ?_
  refine eqf_cons (r := true) (by rfl) (by go_simp; rfl) (by go_simp; rfl) (by go_simp) ?_
  refine eqf_cons (r := true) (by rfl) (by go_simp; rfl) (by go_simp; rfl) (by go_simp) ?_
  refine eqf_cons (r := true) (by rfl) (by go_simp; rfl) (by go_simp; rfl) (by go_simp) ?_
  refine eqf_cons (r := true) (by rfl) (by go_simp; rfl) (by go_simp; rfl) (by go_simp) ?_
  refine eqf_cons (r := true) (by rfl) (by go_simp; rfl) (by go_simp; rfl) (by go_simp) ?_
  refine eqf_cons (r := true) (by rfl) (by go_simp; rfl) (by go_simp; rfl) (by go_simp) ?_
  exact eqf_last (by rfl) (by go_simp; rfl) (by go_simp; rfl) (by go_simp)
def allTo (i : Nat) : List ByteArray := (List.range i).flatMap W
theorem allTo_succ (i : Nat) : allTo (i + 1) = allTo i ++ W i := by
  unfold allTo
  rw [List.range_succ, List.flatMap_append]
  simp
theorem allTo_len (i : Nat) (hi : i < 14) : (allTo i).length + (W i).length ≤ 26 := by
  obtain rfl | rfl | rfl | rfl | rfl | rfl | rfl | rfl | rfl | rfl | rfl | rfl | rfl | rfl : i = 0 ∨ i = 1 ∨ i = 2 ∨ i = 3 ∨ i = 4 ∨ i = 5 ∨ i = 6 ∨ i = 7 ∨ i = 8 ∨ i = 9 ∨ i = 10 ∨ i = 11 ∨ i = 12 ∨ i = 13 := by omega
  all_goals decide
theorem c_row {w : World} {g : Nat} {ws : List ByteArray} (h : w.heap[g]? = some (.cells (ws.map Value.string).toArray 9 (0, 0))) (hl : ws.length ≤ 9223372036854775807) : Kd.string.C w (some ⟨g, 0, none⟩) ws.length ws :=
  ⟨rfl, hl, fun _ => ⟨_, rfl, fun j p hp => ⟨[.string p], rfl, rfl, fun i u hu => by
    have h1 : i < [Value.string p].length := (List.getElem?_eq_some_iff.1 hu).1
    have h2 : i = 0 := by simpa using h1
    subst h2
    cases hu
    show w.cell? (Addr.add ⟨g, 0, none⟩ (j * 1 + 0)) = _
    rw [show Addr.add ⟨g, 0, none⟩ (j * 1 + 0) = ⟨g, j, none⟩ by unfold Addr.add; split <;> simp_all]
    refine (blk_cell h j).trans ?_
    simp [hp]⟩⟩⟩
set_option maxHeartbeats 8000000 in
set_option maxRecDepth 100000 in
theorem p_allwords (w : World) :
    Calls Tryd.prog 10 #[] w fun e w' => ∃ v0_ : Value, e = .returned v0_ ∧ Kd.R Kd.string 9 w' w.heap.size (fun _ => True) v0_ (allTo 14) ∧ Below w.heap.size w w' := by
  have hu := Tryd.underlying49
  go_enter Tryd.func10, Tryd.ntmps10
  go_wp2_with (first | ((with_reducible refine gate_dst (N := 1) rfl ?_); refine wp_alloc_cells rfl 24 rfl _ infoTO ?_; intro o ho w2 hb2 hB2; have HB2 := Aside0.mk hB2; have HLO := Aside0.mk (show o < w2.heap.size from blk_lt hb2); clear ho hb2 hB2) | (go_at_call 18; (with_reducible refine (p_fields o _ HLO.out).mono ?_); rintro e w3 ⟨gA, r, rfl, hF, hb, hle⟩; have HB3 := Aside0.mk (below_step HB2.out hb); have HF3 := Aside0.mk hF; clear hF hb hle))
  go_loopg [2, 7] 15 (fun kq v2 v7 w' => ∃ j : Nat, v7 = .int .i64 (j : Int) ∧ Aside0 (15 - j ≤ kq ∧ j ≤ 14) ∧ Aside0 (Kd.R Kd.string 9 w' w3.heap.size (fun _ => True) v2 (allTo j)) ∧ Aside0 (Below w3.heap.size w3 w'))
  case atStart => exact ⟨0, rfl, ⟨by omega, by omega⟩, ⟨Kd.R_nil _ _ _ _ _⟩, ⟨Below.refl _ _⟩⟩
  case round =>
    obtain ⟨j, rfl, HI, HR, HBR⟩ := hrel
    by_cases hj : j < 14
    · have q2 := decide_eq_true (show (j : Int) < 14 by omega)
      have r3 := eq_true (show (j : Int) < 14 by omega)
      have r4 := eq_true (show (0 : Int) ≤ (j : Int) by omega)
      have r5 := eq_true hj
      have HJT := Aside0.mk hj
      have HLN := Aside0.mk (allTo_len j hj)
      have hwj : IntKind.i64.wrap ((j : Int) + 1) = ((j + 1 : Nat) : Int) := (i64_w _).trans (by have := HJT.out; unfold wrap64; omega)
      clear hj
      go_wp2_with (first | ((with_reducible refine gate_dst (N := 4) rfl ?_); refine wp_alloc_cells rfl 49 rfl _ info49 ?_; intro g4 hg4 w6 hb6 hB6; have H4 := Aside0.mk hb6; have HB6 := Aside0.mk hB6; have HG4 := Aside0.mk (show wr.heap.size ≤ g4 by omega); clear hg4 hb6 hB6) | ((with_reducible refine gate_dst (N := 10) rfl ?_); refine wpList_load_mid rfl 49 _ rfl gA (j * 4) rfl [cS (r j) j, cN o j, cF o j, .int .i64 (cFr j)] _ (fat_range (HF3.out.below HBR.out) j HJT.out) Tryd.underlying49 rfl size49 ?_) | ((with_reducible refine gate_store (t := 49) (p := 4) rfl ?_); refine wp_store_cells rfl 49 _ _ rfl rfl g4 #[cS (r j) j, cN o j, cF o j, .int .i64 (cFr j)] rfl rfl 49 _ H4.out size49 rfl (one_fc r o j) ?_; intro w7 hb7 hW7; have k7 := (blk_cell hb7 0).trans rfl; have HB7 := Aside0.mk (hW7.below HB6.out HG4.out); have HR7 := Aside0.mk (Kd.R_below HR.out HB7.out); have HBR7 := Aside0.mk (below_step HBR.out HB7.out); clear hb7 hW7) | ((with_reducible refine gate_builtin (b := .append) (xs := #[.tmp 11, .tmp 13]) rfl ?_); at_builtin; refine Kd.R_append_row Value.string ByteArray.empty (h1 := fun _ => rfl) (w0 := w3) w3.heap.size rfl (.tmp 11) (.tmp 13) 29 9 (.string ByteArray.empty) 16 rfl Tryd.underlying29 info9s rfl (by omega) _ (allTo j) (W j) (some ⟨r j, 0, none⟩) (W j).length (W j).length (fun _ => True) rfl rfl ?aF ?aO ?aR ?aB ?aS ?aL ?_; (case aF => exact fun _ _ => trivial); (case aO => exact HR7.out); (case aR => exact c_row ((HF3.out.below HBR7.out).2.1 j HJT.out) (by have := HLN.out; omega)); (case aB => exact HBR7.out); (case aS => exact HBR7.out.size); (case aL => have := HLN.out; omega); intro v8 w8 ho hb hg hat; have HR8 := Aside0.mk (show Kd.R Kd.string 9 w8 w3.heap.size (fun _ => True) v8 (allTo j ++ W j) from ho); have HB8 := Aside0.mk hb; clear ho hb hg hat))
      go_roundg (15 - (j + 1))
      case measure => have h1_ := HI.out.1; have h2_ := HJT.out; omega
      case rel => exact ⟨j + 1, by first | rfl | go_num | rw [hwj], ⟨Nat.le_refl _, HJT.out⟩, ⟨by rw [allTo_succ]; exact HR8.out⟩, HB8⟩
    · have q2 := decide_eq_false (show ¬ (j : Int) < 14 by omega)
      have HE := Aside0.mk (show j = 14 by have := HI.out; omega)
      clear hj
      go_wp2
      go_ret
      exact ⟨_, rfl, by rw [← HE.out]; exact Kd.R_lower HR.out HB3.out.size, below_step HB3.out HBR.out⟩
def awV : Nat → Int := fun i => if i = 0 then 1 else if i = 1 then 2 else if i = 5 then 1 else 0
theorem aw_parse : (parseW ⟨#[114, 116, 108, 32, 108, 101, 116, 116, 101, 114, 115, 32, 32, 108, 97, 109, 45, 110, 101, 97, 114]⟩).1 = 0 ∧ ∀ i, i < 14 → (parseW ⟨#[114, 116, 108, 32, 108, 101, 116, 116, 101, 114, 115, 32, 32, 108, 97, 109, 45, 110, 101, 97, 114]⟩).2 i = awV i := by decide +kernel
theorem ovc_ext {v v' : Nat → Int} (h : ∀ i, i < 14 → v i = v' i) : ovc v = ovc v' := by
  unfold ovc
  rw [h 0 (by omega), h 1 (by omega), h 2 (by omega), h 3 (by omega), h 4 (by omega), h 5 (by omega), h 6 (by omega), h 7 (by omega), h 8 (by omega), h 9 (by omega), h 10 (by omega), h 11 (by omega), h 12 (by omega), h 13 (by omega)]
theorem eqAW (d : Nat) (w : World) : (Op.equalIn (d + 2) 24 (.agg (ovc awV)) (.agg #[.int .i64 1, .int .i64 2, .int .i64 0, .int .i64 0, .bool false, .bool true, .bool false, .bool false, .bool false, .bool false, .bool false, .bool false, .bool false, .bool false])).run Tryd.prog w = .ok true w := eqTO d w awV
attribute [local go_sem high] eqAW
set_option maxHeartbeats 8000000 in
set_option maxRecDepth 100000 in
theorem p_awake (w : World) : Calls Tryd.prog 7 #[] w fun e w' => e = .returned (.bool true) ∧ Below w.heap.size w w' := by
  have hu := Tryd.underlying24
  have HAW := Aside0.mk (show ovc (parseW ⟨#[114, 116, 108, 32, 108, 101, 116, 116, 101, 114, 115, 32, 32, 108, 97, 109, 45, 110, 101, 97, 114]⟩).2 = ovc awV ∧ (parseW ⟨#[114, 116, 108, 32, 108, 101, 116, 116, 101, 114, 115, 32, 32, 108, 97, 109, 45, 110, 101, 97, 114]⟩).1 = 0 from ⟨ovc_ext aw_parse.2, aw_parse.1⟩)
  go_enter Tryd.func7, Tryd.ntmps7
  go_wp2_with (first | (go_at_call 8; (with_reducible refine (p_parse ⟨#[114, 116, 108, 32, 108, 101, 116, 116, 101, 114, 115, 32, 32, 108, 97, 109, 45, 110, 101, 97, 114]⟩ _).mono ?_); rintro e w1 ⟨rfl, hb⟩; rw [HAW.out.1, HAW.out.2]; have HB1 := Aside0.mk hb; clear hb) | ((with_reducible refine gate_dst (N := 1) rfl ?_); refine wp_alloc_cells rfl 24 rfl _ infoTO ?_; intro o ho w2 hb2 hB2; have HB2 := Aside0.mk (below_step HB1.out hB2); have H2 := Aside0.mk hb2; have HGO := Aside0.mk (show w.heap.size ≤ o by have := HB1.out.size; omega); clear ho hb2 hB2) | ((with_reducible refine gate_store (t := 24) (p := 1) rfl ?_); refine wp_store_cells rfl 24 _ _ rfl rfl o (ovc awV) rfl rfl 24 _ H2.out (size_ovc _) rfl (ovc_one _) ?_; intro w3 hb3 hW3; have H3 := Aside0.mk hb3; have HB3 := Aside0.mk (hW3.below HB2.out HGO.out); clear hb3 hW3) | ((with_reducible refine gate_dst (N := 10) rfl ?_); (try (refine gate_guard (by rfl) ?_; dsimp only)); refine wpList_load_row rfl 24 _ rfl o rfl 24 (ovc awV) (0, 0) _ H3.out Tryd.underlying24 rfl (size_ovc _) ?_) | (go_at_call 10; (with_reducible refine (p_allwords _).mono ?_); rintro e w4 ⟨v0, rfl, hR, hb⟩; obtain ⟨A, c, rfl, hlc, hC⟩ := Kd.R_reads hR; rw [show (allTo 14).length = 26 by decide]; have HB4 := Aside0.mk (below_step HB3.out hb); clear hR hlc hC hb))
  go_ret
  exact ⟨rfl, HB4.out⟩
end Go.Proofs.YtknghhlielhleaaDoor.Stk
