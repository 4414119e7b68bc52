import Derived.Test.YtknghhlielhleaaDoorSpP1
import Derived.Lib.Strings
namespace Go.Proofs.YtknghhlielhleaaDoor.Stk
open Go.RowKit Go.Proofs.YtknghhlielhleaaDoorW.PrintWords Go.Proofs.YtknghhlielhleaaDoorW.PrintLast Go.Proofs.YtknghhlielhleaaDoorW.PrintMore
attribute [local go_sem] max2_int min2_int max_two min_two max_three min_three max_four min_four   -- for this text's walks alone
set_option linter.unusedVariables false
set_option linter.unusedSimpArgs false
theorem row_str {w : World} {r : Nat} {ws : List ByteArray} (h : w.heap[r]? = some (.cells (ws.map Value.string).toArray 9 (0, 0))) (i : Nat) (hi : i < ws.length) : w.cell? ⟨r, i, none⟩ = some (.string (ws.getD i ⟨#[]⟩)) := by
  refine (blk_cell h i).trans ?_
  simp [hi, List.getD]
def ixW (ws : List ByteArray) (word : ByteArray) : Nat := ws.findIdx (fun x => decide (x = word))
def SaysP (w : World) (o j : Nat) (cells : Array Value) (v : Nat → Value) (ws : List ByteArray) (word : ByteArray) (e : Ending) (w' : World) : Prop :=
  (ixW ws word < ws.length ∧ e = .returned (.bool true) ∧ w'.heap[o]? = some (.cells (cells.setIfInBounds j (v (ixW ws word))) 24 (0, 0)) ∧ Up w w' o) ∨ (¬ ixW ws word < ws.length ∧ e = .returned (.bool false) ∧ Below w.heap.size w w')
theorem str_eq (x y : ByteArray) : (x.toList == y.toList) = decide (x = y) := by
  rw [Lib.toList_data, Lib.toList_data]
  by_cases h : x = y
  · subst h; simp
  · rw [decide_eq_false h, beq_eq_false_iff_ne]
    intro e
    apply h
    cases x; cases y
    simp only [ByteArray.mk.injEq]
    exact Array.ext' e
theorem idx_at {ws : List ByteArray} {word : ByteArray} {i : Nat} (hi : i < ws.length) (hj : i ≤ ixW ws word) (h : ws.getD i ⟨#[]⟩ = word) : ixW ws word = i := by
  unfold ixW at *
  rcases Nat.lt_or_ge i (ws.findIdx (fun x => decide (x = word))) with h1 | h1
  · have h2 := List.not_of_lt_findIdx h1
    rw [List.getD_eq_getElem?_getD, List.getElem?_eq_getElem hi, Option.getD_some] at h
    simp [h] at h2
  · omega
theorem idx_no {ws : List ByteArray} {word : ByteArray} {i : Nat} (hi : i < ws.length) (hj : i ≤ ixW ws word) (h : ¬ ws.getD i ⟨#[]⟩ = word) : i + 1 ≤ ixW ws word := by
  unfold ixW at *
  rcases Nat.lt_or_ge i (ws.findIdx (fun x => decide (x = word))) with h1 | h1
  · omega
  · have e : ws.findIdx (fun x => decide (x = word)) = i := by omega
    exfalso
    apply h
    have := List.findIdx_getElem (xs := ws) (p := fun x => decide (x = word)) (w := by omega)
    rw [List.getD_eq_getElem?_getD, List.getElem?_eq_getElem hi, Option.getD_some]
    simpa [e] using this
set_option maxHeartbeats 8000000 in
set_option maxRecDepth 100000 in
theorem p_says_f {w : World} {r o j : Nat} {ws : List ByteArray} {word : ByteArray} {cells : Array Value} {f : Int} {b0 : Bool} (hr : w.heap[r]? = some (.cells (ws.map Value.string).toArray 9 (0, 0))) (hl : ws.length ≤ 100) (ho : w.heap[o]? = some (.cells cells 24 (0, 0))) (hc : cells[j]? = some (.bool b0)) (hf : 0 ≤ f ∧ f ≤ 1) :
    Calls Tryd.prog 20 #[.agg #[.slice (some ⟨r, 0, none⟩) ws.length ws.length, .pointer none, .pointer (some ⟨o, j, none⟩), .int .i64 f], .string word] w (SaysP w o j cells (fun i => .bool true) ws word) := by
  have hu := Tryd.underlying49
  have HR := Aside0.mk hr
  have HO := Aside0.mk ho
  have HL := Aside0.mk hl
  have HC := Aside0.mk hc
  have HF := Aside0.mk hf
  clear hr ho hl hc hf
  go_enter Tryd.func20, Tryd.ntmps20
  go_wp2_with (first | ((with_reducible refine gate_dst (N := 2) rfl ?_); refine box_event ?hg (N := 2) ?hd (cs := #[.slice (some ⟨r, 0, none⟩) ws.length ws.length, .pointer none, .pointer (some ⟨o, j, none⟩), .int .i64 f]) (t := 49) ?hr ?_; (case hd => rfl); (case hg => rfl); (case hr => first | (go_simp; done) | (go_simp; rfl)); intro g hg w1 hbox hb; have HB := Aside0.mk hb; have HR1 := Aside0.mk (blk_below HR.out hb); have HO1 := Aside0.mk (blk_below HO.out hb); have k0 := (blk_cell hbox 0).trans rfl; have k1 := (blk_cell hbox 1).trans rfl; have k2 := (blk_cell hbox 2).trans rfl; have k3 := (blk_cell hbox 3).trans rfl; clear hg hbox hb))
  go_loopg [10] (ws.length + 1) (fun kq v10 w' => ∃ (i : Nat), v10 = .int .i64 (i : Int) ∧ w' = w1 ∧ Aside0 (ws.length + 1 - i ≤ kq ∧ i ≤ ws.length ∧ i ≤ ixW ws word))
  case atStart => exact ⟨0, rfl, rfl, ⟨by omega, Nat.zero_le _, Nat.zero_le _⟩⟩
  case round =>
    obtain ⟨i, rfl, rfl, HI⟩ := hrel
    by_cases hlt : i < ws.length
    · have q0 := decide_eq_true (show (i : Int) < (ws.length : Int) by omega)
      have q1 := decide_eq_true hlt
      have r0 := eq_true (show (i : Int) < (ws.length : Int) by omega)
      have r1 := eq_true hlt
      have r2 := eq_true (show (0 : Int) ≤ (i : Int) by omega)
      have c_ := row_str HR1.out i hlt
      have HLT := Aside0.mk hlt
      have hwi : IntKind.i64.wrap ((i : Int) + 1) = ((i + 1 : Nat) : Int) := (i64_w _).trans (by have := HL.out; unfold wrap64; omega)
      have hwf : IntKind.i64.wrap (f + (i : Int)) = f + (i : Int) := (i64_w _).trans (by have := HL.out; have := HF.out; unfold wrap64; omega)
      by_cases heq : ws.getD i ⟨#[]⟩ = word
      · have HE := Aside0.mk (idx_at hlt HI.out.2.2 heq)
        rw [heq] at c_
        have kc := (blk_cell HO1.out j).trans HC.out
        have kf := blk_frozen HO1.out j
        clear hlt heq
        go_wp2
        go_ret
        exact .inl ⟨by rw [HE.out]; exact HLT.out, rfl, by rw [HE.out]; exact blk_set HO1.out j _, (Up.of_below HB.out o).trans (Up.of_wrote (Wrote.set _ _ _ _))⟩
      · have HE := Aside0.mk (idx_no hlt HI.out.2.2 heq)
        generalize ws.getD i ⟨#[]⟩ = x at c_ heq
        have n0 : (x.toList == word.toList) = false := (str_eq x word).trans (decide_eq_false heq)
        clear hlt heq
        go_wp2
        go_roundg (ws.length + 1 - (i + 1))
        case measure => have h1_ := HI.out.1; have h2_ := HLT.out; omega
        case rel => exact ⟨i + 1, by first | rfl | go_num | rw [hwi], rfl, ⟨Nat.le_refl _, HLT.out, HE.out⟩⟩
    · have q0 := decide_eq_false (show ¬ (i : Int) < (ws.length : Int) by omega)
      have q1 := decide_eq_false hlt
      have HE := Aside0.mk (show ¬ ixW ws word < ws.length by have := HI.out; omega)
      clear hlt
      go_wp2
      go_ret
      exact .inr ⟨HE.out, by first | rfl | (simp; done), HB.out⟩
set_option maxHeartbeats 8000000 in
set_option maxRecDepth 100000 in
theorem p_says_n {w : World} {r o j : Nat} {ws : List ByteArray} {word : ByteArray} {cells : Array Value} {f : Int} {n0 : Int} (hr : w.heap[r]? = some (.cells (ws.map Value.string).toArray 9 (0, 0))) (hl : ws.length ≤ 100) (ho : w.heap[o]? = some (.cells cells 24 (0, 0))) (hc : cells[j]? = some (.int .i64 n0)) (hf : 0 ≤ f ∧ f ≤ 1) :
    Calls Tryd.prog 20 #[.agg #[.slice (some ⟨r, 0, none⟩) ws.length ws.length, .pointer (some ⟨o, j, none⟩), .pointer none, .int .i64 f], .string word] w (SaysP w o j cells (fun i => .int .i64 (f + (i : Int))) ws word) := by
  have hu := Tryd.underlying49
  have HR := Aside0.mk hr
  have HO := Aside0.mk ho
  have HL := Aside0.mk hl
  have HC := Aside0.mk hc
  have HF := Aside0.mk hf
  clear hr ho hl hc hf
  go_enter Tryd.func20, Tryd.ntmps20
  go_wp2_with (first | ((with_reducible refine gate_dst (N := 2) rfl ?_); refine box_event ?hg (N := 2) ?hd (cs := #[.slice (some ⟨r, 0, none⟩) ws.length ws.length, .pointer (some ⟨o, j, none⟩), .pointer none, .int .i64 f]) (t := 49) ?hr ?_; (case hd => rfl); (case hg => rfl); (case hr => first | (go_simp; done) | (go_simp; rfl)); intro g hg w1 hbox hb; have HB := Aside0.mk hb; have HR1 := Aside0.mk (blk_below HR.out hb); have HO1 := Aside0.mk (blk_below HO.out hb); have k0 := (blk_cell hbox 0).trans rfl; have k1 := (blk_cell hbox 1).trans rfl; have k2 := (blk_cell hbox 2).trans rfl; have k3 := (blk_cell hbox 3).trans rfl; clear hg hbox hb))
  go_loopg [10] (ws.length + 1) (fun kq v10 w' => ∃ (i : Nat), v10 = .int .i64 (i : Int) ∧ w' = w1 ∧ Aside0 (ws.length + 1 - i ≤ kq ∧ i ≤ ws.length ∧ i ≤ ixW ws word))
  case atStart => exact ⟨0, rfl, rfl, ⟨by omega, Nat.zero_le _, Nat.zero_le _⟩⟩
  case round =>
    obtain ⟨i, rfl, rfl, HI⟩ := hrel
    by_cases hlt : i < ws.length
    · have q0 := decide_eq_true (show (i : Int) < (ws.length : Int) by omega)
      have q1 := decide_eq_true hlt
      have r0 := eq_true (show (i : Int) < (ws.length : Int) by omega)
      have r1 := eq_true hlt
      have r2 := eq_true (show (0 : Int) ≤ (i : Int) by omega)
      have c_ := row_str HR1.out i hlt
      have HLT := Aside0.mk hlt
      have hwi : IntKind.i64.wrap ((i : Int) + 1) = ((i + 1 : Nat) : Int) := (i64_w _).trans (by have := HL.out; unfold wrap64; omega)
      have hwf : IntKind.i64.wrap (f + (i : Int)) = f + (i : Int) := (i64_w _).trans (by have := HL.out; have := HF.out; unfold wrap64; omega)
      by_cases heq : ws.getD i ⟨#[]⟩ = word
      · have HE := Aside0.mk (idx_at hlt HI.out.2.2 heq)
        rw [heq] at c_
        have kc := (blk_cell HO1.out j).trans HC.out
        have kf := blk_frozen HO1.out j
        clear hlt heq
        go_wp2
        go_ret
        exact .inl ⟨by rw [HE.out]; exact HLT.out, rfl, by rw [HE.out]; exact blk_set HO1.out j _, (Up.of_below HB.out o).trans (Up.of_wrote (Wrote.set _ _ _ _))⟩
      · have HE := Aside0.mk (idx_no hlt HI.out.2.2 heq)
        generalize ws.getD i ⟨#[]⟩ = x at c_ heq
        have n0 : (x.toList == word.toList) = false := (str_eq x word).trans (decide_eq_false heq)
        clear hlt heq
        go_wp2
        go_roundg (ws.length + 1 - (i + 1))
        case measure => have h1_ := HI.out.1; have h2_ := HLT.out; omega
        case rel => exact ⟨i + 1, by first | rfl | go_num | rw [hwi], rfl, ⟨Nat.le_refl _, HLT.out, HE.out⟩⟩
    · have q0 := decide_eq_false (show ¬ (i : Int) < (ws.length : Int) by omega)
      have q1 := decide_eq_false hlt
      have HE := Aside0.mk (show ¬ ixW ws word < ws.length by have := HI.out; omega)
      clear hlt
      go_wp2
      go_ret
      exact .inr ⟨HE.out, by first | rfl | (simp; done), HB.out⟩
end Go.Proofs.YtknghhlielhleaaDoor.Stk
