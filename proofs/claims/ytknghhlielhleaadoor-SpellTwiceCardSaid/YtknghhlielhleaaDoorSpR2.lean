import Derived.Test.YtknghhlielhleaaDoorSpR1
import Derived.Test.YtknghhlielhleaaDoorSpL
import Derived.Lib.Join
namespace Go.Proofs.YtknghhlielhleaaDoor.Stk
open Go.RowKit Go.Proofs.YtknghhlielhleaaDoorW.PrintWords Go.Proofs.YtknghhlielhleaaDoorW.PrintLast Go.Proofs.YtknghhlielhleaaDoorW.PrintMore
attribute [local go_sem] max2_int min2_int max_two min_two max_three min_three max_four min_four   -- for this text's walks alone
set_option linter.unusedVariables false
set_option linter.unusedSimpArgs false
def sayL (v : Nat → Int) (j : Nat) : List ByteArray := ((List.range j).filter (sayB v)).map (sayS v)
def joinS (xs : List ByteArray) : ByteArray := ⟨(Lib.join (xs.map (·.data.toList)) [32]).toArray⟩
def prS (v : Nat → Int) : ByteArray := if chkF v = 0 then joinS (sayL v 14) else ⟨#[]⟩
theorem sayL_yes {v : Nat → Int} {j : Nat} (h : sayB v j = true) : sayL v (j + 1) = sayL v j ++ [sayS v j] := by
  unfold sayL
  rw [List.range_succ, List.filter_append]
  simp [h]
theorem sayL_no {v : Nat → Int} {j : Nat} (h : sayB v j = false) : sayL v (j + 1) = sayL v j := by
  unfold sayL
  rw [List.range_succ, List.filter_append]
  simp [h]
theorem sayL_len (v : Nat → Int) (j : Nat) : (sayL v j).length ≤ j := by
  unfold sayL
  rw [List.length_map]
  have := List.length_filter_le (sayB v) (List.range j)
  rw [List.length_range] at this
  exact this
theorem sayL_pos {v : Nat → Int} (h : okN v) : 0 < (sayL v 14).length := by
  unfold sayL
  rw [List.length_map]
  refine List.length_pos_of_mem (a := 0) (List.mem_filter.2 ⟨by simp, ?_⟩)
  unfold sayB
  rw [if_pos (by decide)]
  exact decide_eq_true (show 0 ≤ v 0 - 0 by have := h.1; omega)
theorem W_small (i : Nat) (hi : i < 14) : ∀ x ∈ W i, x.size ≤ 20 := by
  obtain rfl | rfl | rfl | rfl | rfl | rfl | rfl | rfl | rfl | rfl | rfl | rfl | rfl | rfl : i = 0 ∨ i = 1 ∨ i = 2 ∨ i = 3 ∨ i = 4 ∨ i = 5 ∨ i = 6 ∨ i = 7 ∨ i = 8 ∨ i = 9 ∨ i = 10 ∨ i = 11 ∨ i = 12 ∨ i = 13 := by omega
  all_goals decide
theorem getD_small {ws : List ByteArray} (h : ∀ x ∈ ws, x.size ≤ 20) (k : Nat) : (ws.getD k ⟨#[]⟩).size ≤ 20 := by
  rw [List.getD_eq_getElem?_getD]
  rcases Nat.lt_or_ge k ws.length with hk | hk
  · rw [List.getElem?_eq_getElem hk]; exact h _ (List.getElem_mem hk)
  · rw [List.getElem?_eq_none hk]; decide
theorem sayS_small (v : Nat → Int) (i : Nat) (hi : i < 14) : (sayS v i).size ≤ 20 := by
  unfold sayS
  split
  · split
    · exact getD_small (W_small i hi) _
    · decide
  · exact getD_small (W_small i hi) _
theorem sayL_small (v : Nat → Int) (j : Nat) (hj : j ≤ 14) : ∀ x ∈ sayL v j, x.size ≤ 20 := by
  intro x hx
  unfold sayL at hx
  obtain ⟨i, hi, rfl⟩ := List.mem_map.1 hx
  have := List.mem_range.1 (List.mem_filter.1 hi).1
  exact sayS_small v i (by omega)
theorem join_len (sep : List UInt8) (m : Nat) : ∀ xs : List (List UInt8), (∀ x ∈ xs, x.length ≤ m) → (Lib.join xs sep).length ≤ xs.length * (m + sep.length)
  | [], _ => by rw [Lib.join_nil]; simp
  | x :: r, h => by
    rw [Lib.join_cons, List.length_append]
    have h1 : ∀ r : List (List UInt8), (∀ x ∈ r, x.length ≤ m) → (Lib.joinTail sep r).length ≤ r.length * (m + sep.length) := by
      intro r
      induction r with
      | nil => intro _; simp [Lib.joinTail]
      | cons y r ih =>
        intro h
        have h2 := ih (fun z hz => h z (List.mem_cons_of_mem _ hz))
        have h3 := h y List.mem_cons_self
        have e : Lib.joinTail sep (y :: r) = (sep ++ y) ++ Lib.joinTail sep r := by simp [Lib.joinTail]
        rw [e, List.length_append, List.length_append, List.length_cons, Nat.add_mul]
        omega
    have h2 := h1 r (fun z hz => h z (List.mem_cons_of_mem _ hz))
    have h3 := h x List.mem_cons_self
    rw [List.length_cons, Nat.add_mul]
    omega
theorem sayL_join (v : Nat → Int) (j : Nat) (hj : j ≤ 14) : (Lib.join ((sayL v j).map (·.data.toList)) [32]).length ≤ 300 := by
  have h := join_len [32] 20 ((sayL v j).map (·.data.toList)) (by
    intro x hx
    obtain ⟨y, hy, rfl⟩ := List.mem_map.1 hx
    have := sayL_small v j hj y hy
    rw [Array.length_toList]
    exact this)
  have h1 := sayL_len v j
  rw [List.length_map] at h
  have h2 : (sayL v j).length * (20 + [(32 : UInt8)].length) ≤ 14 * 21 := Nat.mul_le_mul (by omega) (Nat.le_refl _)
  omega
theorem R_strs {w : World} {base : Nat} {ok : Nat → Prop} {v : Value} {xs : List ByteArray} (h : Kd.R Kd.string 9 w base ok v xs) (hp : 0 < xs.length) :
    ∃ g c, v = .slice (some ⟨g, 0, none⟩) xs.length c ∧ xs.length ≤ c ∧ g < w.heap.size ∧ ∀ (j : Nat) x, xs[j]? = some x → w.cell? ⟨g, 0 + j, none⟩ = some (.string x) := by
  obtain ⟨A, c, e, hlc, hC⟩ := Kd.R_reads h
  obtain ⟨inner, ho⟩ := Kd.R_own h
  rcases ho.2 with ⟨rfl, h0⟩ | ⟨g, cap, cur, rfl, hg, hh, r⟩
  · injection e with e1 e2 e3; omega
  · injection e with e1 e2 e3
    subst e1 e3
    refine ⟨g, cap, rfl, hlc, blk_lt hh, fun j x hx => ?_⟩
    have hj : j < xs.length := (List.getElem?_eq_some_iff.1 hx).1
    obtain ⟨ad, e2, hc⟩ := Kd.at_string hC (j : Int) (by omega) (by omega)
    cases e2
    rw [Int.toNat_natCast] at hc
    have e3 : (⟨g, 0, none⟩ : Addr).add j = ⟨g, 0 + j, none⟩ := by unfold Addr.add; split <;> simp_all
    rw [e3] at hc
    rw [hc]
    simp [rdOf, List.getD_eq_getElem?_getD, hx]
set_option maxHeartbeats 8000000 in
set_option maxRecDepth 100000 in
theorem p_print (v : Nat → Int) (w : World) :
    Calls Tryd.prog 13 #[.agg (ovc v)] w fun e w' => e = .returned (.tuple #[.string (prS v), .int .i64 (chkF v)]) ∧ Below w.heap.size w w' := by
  have hu := Tryd.underlying24
  have hu2 := Tryd.underlying49
  unfold prS
  by_cases hck : chkF v = 0
  · have HOK := Aside0.mk (okN_chk hck)
    have HCK := Aside0.mk hck
    rw [if_pos hck, hck]
    obtain ⟨res, hres⟩ : ∃ res, joinS (sayL v 14) = res := ⟨_, rfl⟩
    rw [hres]
    have HRS := Aside0.mk hres
    clear hck hres
    go_enter Tryd.func13, Tryd.ntmps13
    go_wp2_with (first | ((with_reducible refine gate_dst (N := 1) rfl ?_); go_loud (refine box_event ?hg (N := 1) ?hd (cs := ovc v) (t := 24) ?hr ?_; (case hd => rfl); (case hg => rfl); (case hr => first | (go_simp; done) | (go_simp; rfl)); intro o hg w1 hbox hb; have HO1 := Aside0.mk hbox; have HB1 := Aside0.mk hb; clear hg hbox hb)) | ((with_reducible refine gate_dst (N := 10) rfl ?_); go_loud (refine wpList_load_row rfl 24 _ rfl o rfl 24 (ovc v) (0, 0) _ HO1.out Tryd.underlying24 rfl (size_ovc _) ?_)) | (go_at_call 21; (with_reducible refine (p_check v _).mono ?_); go_loud (rintro e w2 ⟨rfl, hb⟩; rw [HCK.out]; have HO2 := Aside0.mk (blk_below HO1.out hb); have HB2 := Aside0.mk (below_step HB1.out hb); have HLO := Aside0.mk (blk_lt HO2.out); clear hb)) | (go_at_call 18; (with_reducible refine (p_fields o _ HLO.out).mono ?_); go_loud (rintro e w3 ⟨gA, r, rfl, hF, hb, hle⟩; have HB3 := Aside0.mk (below_step HB2.out hb); have HO3 := Aside0.mk (blk_below HO2.out hb); have HF3 := Aside0.mk hF; clear hF hb hle)))
    go_loopg [5, 17] 15 (fun kq v5 v17 w' => ∃ j : Nat, v17 = .int .i64 (j : Int) ∧ Aside0 (15 - j ≤ kq ∧ j ≤ 14) ∧ Aside0 (Kd.R Kd.string 9 w' w3.heap.size (fun _ => True) v5 (sayL v j)) ∧ Aside0 (Below w3.heap.size w3 w'))
    case atStart => exact ⟨0, rfl, ⟨by omega, by omega⟩, ⟨Kd.R_nil _ _ _ _ _⟩, ⟨Below.refl _ _⟩⟩
    case round =>
      obtain ⟨j, rfl, HI, HR, HBR⟩ := hrel
      by_cases hj : j < 14
      · have q2 := decide_eq_true (show (j : Int) < 14 by omega)
        have r3 := eq_true (show (j : Int) < 14 by omega)
        have r4 := eq_true (show (0 : Int) ≤ (j : Int) by omega)
        have r5 := eq_true hj
        have HJT := Aside0.mk hj
        have HLN := Aside0.mk (show (sayL v j).length ≤ 14 by have := sayL_len v j; omega)
        have hwj : IntKind.i64.wrap ((j : Int) + 1) = ((j + 1 : Nat) : Int) := (i64_w _).trans (by have := HJT.out; unfold wrap64; omega)
        clear hj
        by_cases hsb : sayB v j = true
        · have HSB := Aside0.mk hsb
          clear hsb
          go_wp2_with (first | ((with_reducible refine gate_dst (N := 7) rfl ?_); go_loud (refine wp_alloc_cells rfl 49 rfl _ info49 ?_; intro g4 hg4 w6 hb6 hB6; have H4 := Aside0.mk hb6; have HB6 := Aside0.mk hB6; have HG4 := Aside0.mk (show wr.heap.size ≤ g4 by omega); clear hg4 hb6 hB6)) | ((with_reducible refine gate_dst (N := 20) rfl ?_); go_loud (refine wpList_load_mid rfl 49 _ rfl gA (j * 4) rfl [cS (r j) j, cN o j, cF o j, .int .i64 (cFr j)] _ (fat_range (HF3.out.below HBR.out) j HJT.out) Tryd.underlying49 rfl size49 ?_)) | ((with_reducible refine gate_store (t := 49) (p := 7) rfl ?_); go_loud (refine wp_store_cells rfl 49 _ _ rfl rfl g4 #[cS (r j) j, cN o j, cF o j, .int .i64 (cFr j)] rfl rfl 49 _ H4.out size49 rfl (one_fc r o j) ?_; intro w7 hb7 hW7; have H47 := Aside0.mk hb7; have HB7 := Aside0.mk (hW7.below HB6.out HG4.out); have HR7 := Aside0.mk (Kd.R_below HR.out HB7.out); have HBR7 := Aside0.mk (below_step HBR.out HB7.out); clear hb7 hW7)) | ((with_reducible refine gate_dst (N := 22) rfl ?_); go_loud (refine wpList_load_row rfl 49 _ rfl g4 rfl 49 #[cS (r j) j, cN o j, cF o j, .int .i64 (cFr j)] (0, 0) _ H47.out Tryd.underlying49 rfl size49 ?_)) | (go_at_call 27; (with_reducible refine (p_said (HF3.out.below HBR7.out) (blk_below HO3.out HBR7.out) HOK.out j HJT.out).mono ?_); go_loud (rintro e w8 ⟨rfl, hb⟩; rw [HSB.out]; have HR8 := Aside0.mk (Kd.R_below HR7.out hb); have HBR8 := Aside0.mk (below_step HBR7.out hb); clear hb)) | ((with_reducible refine gate_builtin (b := .append) (xs := #[.tmp 27, .tmp 29]) rfl ?_); go_loud (at_builtin; refine Kd.R_append Kd.string (w0 := w3) w3.heap.size rfl (.tmp 27) (.tmp 29) 29 9 (.string ByteArray.empty) 16 rfl Tryd.underlying29 info9s rfl (by decide) (by omega) _ (sayL v j) (sayS v j) [.string (sayS v j)] (fun _ => True) (fun _ => False) rfl rfl ?aP (fun _ hk => hk.elim) ?aF ?aO ?aB ?aS ?aL ?_; (case aP => exact rfl); (case aB => exact HBR8.out); (case aF => exact fun _ _ => trivial); (case aO => exact HR8.out); (case aS => exact HBR8.out.size); (case aL => have := HLN.out; omega); intro v9 w9 ho hb hg hat; have HR9 := Aside0.mk ho; have HBR9 := Aside0.mk hb; clear ho hb hg hat)))
          go_roundg (15 - (j + 1))
          case measure => have h1_ := HI.out.1; have h2_ := HJT.out; omega
          case rel => exact ⟨j + 1, by first | rfl | go_num | rw [hwj], ⟨Nat.le_refl _, HJT.out⟩, ⟨by rw [sayL_yes HSB.out]; exact HR9.out⟩, HBR9⟩
        · have HSB := Aside0.mk (show sayB v j = false by simpa using hsb)
          clear hsb
          go_wp2_with (first | ((with_reducible refine gate_dst (N := 7) rfl ?_); go_loud (refine wp_alloc_cells rfl 49 rfl _ info49 ?_; intro g4 hg4 w6 hb6 hB6; have H4 := Aside0.mk hb6; have HB6 := Aside0.mk hB6; have HG4 := Aside0.mk (show wr.heap.size ≤ g4 by omega); clear hg4 hb6 hB6)) | ((with_reducible refine gate_dst (N := 20) rfl ?_); go_loud (refine wpList_load_mid rfl 49 _ rfl gA (j * 4) rfl [cS (r j) j, cN o j, cF o j, .int .i64 (cFr j)] _ (fat_range (HF3.out.below HBR.out) j HJT.out) Tryd.underlying49 rfl size49 ?_)) | ((with_reducible refine gate_store (t := 49) (p := 7) rfl ?_); go_loud (refine wp_store_cells rfl 49 _ _ rfl rfl g4 #[cS (r j) j, cN o j, cF o j, .int .i64 (cFr j)] rfl rfl 49 _ H4.out size49 rfl (one_fc r o j) ?_; intro w7 hb7 hW7; have H47 := Aside0.mk hb7; have HB7 := Aside0.mk (hW7.below HB6.out HG4.out); have HR7 := Aside0.mk (Kd.R_below HR.out HB7.out); have HBR7 := Aside0.mk (below_step HBR.out HB7.out); clear hb7 hW7)) | ((with_reducible refine gate_dst (N := 22) rfl ?_); go_loud (refine wpList_load_row rfl 49 _ rfl g4 rfl 49 #[cS (r j) j, cN o j, cF o j, .int .i64 (cFr j)] (0, 0) _ H47.out Tryd.underlying49 rfl size49 ?_)) | (go_at_call 27; (with_reducible refine (p_said (HF3.out.below HBR7.out) (blk_below HO3.out HBR7.out) HOK.out j HJT.out).mono ?_); go_loud (rintro e w8 ⟨rfl, hb⟩; rw [HSB.out]; have HR8 := Aside0.mk (Kd.R_below HR7.out hb); have HBR8 := Aside0.mk (below_step HBR7.out hb); clear hb)))
          go_roundg (15 - (j + 1))
          case measure => have h1_ := HI.out.1; have h2_ := HJT.out; omega
          case rel => exact ⟨j + 1, by first | rfl | go_num | rw [hwj], ⟨Nat.le_refl _, HJT.out⟩, ⟨by rw [sayL_no HSB.out]; exact HR8.out⟩, HBR8⟩
      · have q2 := decide_eq_false (show ¬ (j : Int) < 14 by omega)
        obtain rfl : j = 14 := by have := HI.out; omega
        clear hj
        obtain ⟨g, c, rfl, h1, h2, h3⟩ := R_strs HR.out (sayL_pos HOK.out)
        have HCL := Aside0.mk (show (sayL v 14).length ≤ c ∧ g < wr.heap.size ∧ ∀ (j : Nat) x, (sayL v 14)[j]? = some x → wr.cell? ⟨g, 0 + j, none⟩ = some (.string x) from ⟨h1, h2, h3⟩)
        clear h1 h2 h3
        go_wp2_with (first | (go_at_call 28; (with_reducible refine (Tryd.strings_Join g 0 c (sayL v 14) ⟨#[32]⟩ _ HCL.out.2.2 HCL.out.2.1 (by have := sayL_len v 14; omega) HCL.out.1 (by have := sayL_join v 14 (Nat.le_refl _); exact Nat.le_trans this (by decide))).mono ?_); go_loud (rintro e w5 ⟨rfl, hb⟩; have HB5 := Aside0.mk (below_step (below_step HB3.out HBR.out) hb); clear hb)))
        go_ret2
        exact ⟨by rw [← HRS.out]; rfl, HB5.out⟩
  · have HCK := Aside0.mk (show chkF v = chkF v from rfl)
    rw [if_neg hck]
    have n8 : (chkF v != 0) = true := by simp [hck]
    have n9 : (chkF v == 0) = false := by simp [hck]
    clear hck
    go_enter Tryd.func13, Tryd.ntmps13
    go_wp2_with (first | ((with_reducible refine gate_dst (N := 1) rfl ?_); go_loud (refine box_event ?hg (N := 1) ?hd (cs := ovc v) (t := 24) ?hr ?_; (case hd => rfl); (case hg => rfl); (case hr => first | (go_simp; done) | (go_simp; rfl)); intro o hg w1 hbox hb; have HO1 := Aside0.mk hbox; have HB1 := Aside0.mk hb; clear hg hbox hb)) | ((with_reducible refine gate_dst (N := 10) rfl ?_); go_loud (refine wpList_load_row rfl 24 _ rfl o rfl 24 (ovc v) (0, 0) _ HO1.out Tryd.underlying24 rfl (size_ovc _) ?_)) | (go_at_call 21; (with_reducible refine (p_check v _).mono ?_); go_loud (rintro e w2 ⟨rfl, hb⟩; have HO2 := Aside0.mk (blk_below HO1.out hb); have HB2 := Aside0.mk (below_step HB1.out hb); have HLO := Aside0.mk (blk_lt HO2.out); clear hb)))
    go_ret2
    exact ⟨rfl, HB2.out⟩
end Go.Proofs.YtknghhlielhleaaDoor.Stk
