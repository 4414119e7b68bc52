import Derived.Test.YtknghhlielhleaaDoorSpR3
import Derived.Test.YtknghhlielhleaaDoorSpL
namespace Go.Proofs.YtknghhlielhleaaDoor.Stk
open Go.RowKit Go.Proofs.YtknghhlielhleaaDoorW.PrintWords Go.Proofs.YtknghhlielhleaaDoorW.PrintLast Go.Proofs.YtknghhlielhleaaDoorW.PrintMore
attribute [local go_sem] max2_int min2_int max_two min_two max_three min_three max_four min_four   -- for this text's walks alone
set_option linter.unusedVariables false
set_option linter.unusedSimpArgs false
theorem c_part {w : World} {g off : Nat} {ws : List ByteArray} (h : ∀ k, k < ws.length → w.cell? ⟨g, off + k, none⟩ = some (.string (ws.getD k ⟨#[]⟩))) (hl : ws.length ≤ 9223372036854775807) : Kd.string.C w (some ⟨g, off, none⟩) ws.length ws :=
  ⟨rfl, hl, fun _ => ⟨_, rfl, fun j p hp => ⟨[.string p], rfl, rfl, fun i u hu => by
    have h1 : i < [Value.string p].length := (List.getElem?_eq_some_iff.1 hu).1
    have h2 : i = 0 := by simpa using h1
    subst h2
    cases hu
    have hj : j < ws.length := (List.getElem?_eq_some_iff.1 hp).1
    show w.cell? (Addr.add ⟨g, off, none⟩ (j * 1 + 0)) = _
    rw [show Addr.add ⟨g, off, none⟩ (j * 1 + 0) = ⟨g, off + j, none⟩ by unfold Addr.add; split <;> simp_all, h j hj]
    simp [List.getD_eq_getElem?_getD, hp]⟩⟩⟩
theorem R_cells {w : World} {base n c g : Nat} {ok : Nat → Prop} {xs : List ByteArray} (h : Kd.R Kd.string 9 w base ok (.slice (some ⟨g, 0, none⟩) n c) xs) : ∀ j, j < xs.length → w.cell? ⟨g, 0 + j, none⟩ = some (.string (xs.getD j ByteArray.empty)) := by
  intro j hj
  obtain ⟨hn, hlc, hC⟩ := Kd.R_reads' h
  obtain ⟨ad, e2, hc⟩ := Kd.at_string hC (j : Int) (by omega) (by omega)
  cases e2
  rw [Int.toNat_natCast] at hc
  have e3 : (⟨g, 0, none⟩ : Addr).add j = ⟨g, 0 + j, none⟩ := by unfold Addr.add; split <;> simp_all
  rw [e3] at hc
  rw [hc]
  simp [rdOf]
set_option maxHeartbeats 8000000 in
set_option maxRecDepth 100000 in
theorem p_rallwords (w : World) :
    Calls Tryd.prog 17 #[] w fun e w' => ∃ v0_ : Value, e = .returned v0_ ∧ Kd.R Kd.string 9 w' w.heap.size (fun _ => True) v0_ (allTo 14) ∧ Below w.heap.size w w' := by
  go_enter Tryd.func17, Tryd.ntmps17
  go_wp2
  go_loopg [1, 2] 15 (fun kq v1 v2 w' => ∃ j : Nat, v2 = .int .i64 (j : Int) ∧ Aside0 (15 - j ≤ kq ∧ j ≤ 14) ∧ Aside0 (Kd.R Kd.string 9 w' w.heap.size (fun _ => True) v1 (allTo j)) ∧ Aside0 (Below w.heap.size w w'))
  case atStart => exact ⟨0, rfl, ⟨by omega, by omega⟩, ⟨Kd.R_nil _ _ _ _ _⟩, ⟨Below.refl _ _⟩⟩
  case round =>
    obtain ⟨j, rfl, HI, HR, HBR⟩ := hrel
    by_cases hj : j < 14
    · have q2 := decide_eq_true (show (j : Int) < 14 by omega)
      have r3 := eq_true (show (j : Int) < 14 by omega)
      have HJT := Aside0.mk hj
      have HLN := Aside0.mk (allTo_len j hj)
      have cw := p_rwords j hj
      have hwj : IntKind.i64.wrap ((j : Int) + 1) = ((j + 1 : Nat) : Int) := (i64_w _).trans (by have := HJT.out; unfold wrap64; omega)
      clear hj
      go_wp2_with (first | (go_at_call 31; (with_reducible refine (cw _).mono ?_); go_loud (rintro e w4 ⟨g, off, cap, rfl, hc, hb⟩; have HC4 := Aside0.mk (c_part hc (by have := HLN.out; omega)); have HR4 := Aside0.mk (Kd.R_below HR.out hb); have HB4 := Aside0.mk (below_step HBR.out hb); clear hc hb)) | ((with_reducible refine gate_builtin (b := .append) (xs := #[.tmp 7, .tmp 9]) rfl ?_); go_loud (at_builtin; refine Kd.R_append_row Value.string ByteArray.empty (h1 := fun _ => rfl) (w0 := w) w.heap.size rfl (.tmp 7) (.tmp 9) 29 9 (.string ByteArray.empty) 16 rfl Tryd.underlying29 info9s rfl (by omega) _ (allTo j) (W j) (some ⟨g, off, none⟩) (W j).length cap (fun _ => True) rfl rfl ?aF ?aO ?aR ?aB ?aS ?aL ?_; (case aF => exact fun _ _ => trivial); (case aO => exact HR4.out); (case aR => exact HC4.out); (case aB => exact HB4.out); (case aS => exact HB4.out.size); (case aL => have := HLN.out; omega); intro v8 w8 ho hb hg hat; have HR8 := Aside0.mk (show Kd.R Kd.string 9 w8 w.heap.size (fun _ => True) v8 (allTo j ++ W j) from ho); have HB8 := Aside0.mk hb; clear ho hb hg hat)))
      go_roundg (15 - (j + 1))
      case measure => have h1_ := HI.out.1; have h2_ := HJT.out; omega
      case rel => exact ⟨j + 1, by first | rfl | go_num | rw [hwj], ⟨Nat.le_refl _, HJT.out⟩, ⟨by rw [allTo_succ]; exact HR8.out⟩, HB8⟩
    · have q2 := decide_eq_false (show ¬ (j : Int) < 14 by omega)
      obtain rfl : j = 14 := by have := HI.out; omega
      clear hj
      go_wp2
      go_ret
      exact ⟨_, rfl, HR.out, HBR.out⟩
set_option maxHeartbeats 8000000 in
set_option maxRecDepth 100000 in
theorem spellPrints_walk (v : Nat → Int) (w : World) : Calls Tryd.prog 6 #[.agg (ovc v)] w fun e w' => e = .returned (.bool true) ∧ Below w.heap.size w w' := by
  have hu := Tryd.underlying24
  have c1 := p_print v
  have c2 := p_rprint v
  generalize prS v = s at c1 c2
  generalize chkF v = e at c1 c2
  have n0 : (e == e) = true := by simp
  have n1 : (s.toList == s.toList) = true := by simp
  go_enter Tryd.func6, Tryd.ntmps6
  go_wp2_with (first | ((with_reducible refine gate_dst (N := 1) rfl ?_); go_loud (refine box_event ?hg (N := 1) ?hd (cs := ovc v) (t := 24) ?hr ?_; (case hd => rfl); (case hg => rfl); (case hr => first | (go_simp; done) | (go_simp; rfl)); intro o hg w1 hbox hb; have HO1 := Aside0.mk hbox; have HB1 := Aside0.mk hb; clear hg hbox hb)) | ((with_reducible refine gate_dst (N := 8) rfl ?_); go_loud (refine wpList_load_row rfl 24 _ rfl o rfl 24 (ovc v) (0, 0) _ HO1.out Tryd.underlying24 rfl (size_ovc _) ?_)) | (go_at_call 13; (with_reducible refine (c1 _).mono ?_); go_loud (rintro e w2 ⟨rfl, hb⟩; have HO2 := Aside0.mk (blk_below HO1.out hb); have HB2 := Aside0.mk (below_step HB1.out hb); clear hb)) | ((with_reducible refine gate_dst (N := 13) rfl ?_); go_loud (refine wpList_load_row rfl 24 _ rfl o rfl 24 (ovc v) (0, 0) _ HO2.out Tryd.underlying24 rfl (size_ovc _) ?_)) | (go_at_call 15; (with_reducible refine (c2 _).mono ?_); go_loud (rintro e w3 ⟨rfl, hb⟩; have HB3 := Aside0.mk (below_step HB2.out hb); clear hb)) | (go_at_call 10; (with_reducible refine (p_allwords _).mono ?_); go_loud (rintro e w4 ⟨v0, rfl, hR, hb⟩; obtain ⟨ga, ca, rfl, _, _, _⟩ := R_strs hR (by decide); have HRA := Aside0.mk hR; have HB4 := Aside0.mk (below_step HB3.out hb); clear hR hb)) | (go_at_call 17; (with_reducible refine (p_rallwords _).mono ?_); go_loud (rintro e w5 ⟨v0, rfl, hR, hb⟩; obtain ⟨gb, cb, rfl, _, _, _⟩ := R_strs hR (by decide); have HRB := Aside0.mk hR; have HRA5 := Aside0.mk (Kd.R_below HRA.out hb); have HB5 := Aside0.mk (below_step HB4.out hb); clear hR hb)) | (go_at_call 16; (with_reducible refine (Tryd.slices_Equal_string ga 0 (allTo 14).length ca gb 0 (allTo 14).length cb (allTo 14) (allTo 14) _ (Nat.le_refl _) (Nat.le_refl _) (by decide) (by decide) (R_cells HRA5.out) (R_cells HRB.out)).mono ?_); go_loud (rintro e w6 ⟨rfl, q, hq⟩; rw [decide_eq_true (rfl : (allTo 14).take (allTo 14).length = (allTo 14).take (allTo 14).length)]; have HB6 := Aside0.mk (show Below w.heap.size w w6 by rw [hq]; exact pw_below_drewN HB5.out q); clear hq)) | (go_at_call 7; (with_reducible refine (p_awake _).mono ?_); go_loud (rintro e w7 ⟨rfl, hb⟩; have HBE := Aside0.mk (below_step HB6.out hb); clear hb)))
  go_ret
  exact ⟨rfl, HBE.out⟩
end Go.Proofs.YtknghhlielhleaaDoor.Stk
