import Derived.Test.YtknghhlielhleaaDoorSpP3
namespace Go.Proofs.YtknghhlielhleaaDoor.Stk
open Go.RowKit Go.Proofs.YtknghhlielhleaaDoorW.PrintWords Go.Proofs.YtknghhlielhleaaDoorW.PrintLast Go.Proofs.YtknghhlielhleaaDoorW.PrintMore
attribute [local go_sem] max2_int min2_int max_two min_two max_three min_three max_four min_four   -- for this text's walks alone
set_option linter.unusedVariables false
set_option linter.unusedSimpArgs false
def ovc (v : Nat → Int) : Array Value := #[.int .i64 (v 0), .int .i64 (v 1), .int .i64 (v 2), .int .i64 (v 3), .bool (v 4 == 1), .bool (v 5 == 1), .bool (v 6 == 1), .bool (v 7 == 1), .bool (v 8 == 1), .bool (v 9 == 1), .bool (v 10 == 1), .bool (v 11 == 1), .bool (v 12 == 1), .bool (v 13 == 1)]
def bsc (s : Nat → Bool) : Array Value := #[.bool (s 0), .bool (s 1), .bool (s 2), .bool (s 3), .bool (s 4), .bool (s 5), .bool (s 6), .bool (s 7), .bool (s 8), .bool (s 9), .bool (s 10), .bool (s 11), .bool (s 12), .bool (s 13)]
def upd {α : Type} (v : Nat → α) (i : Nat) (x : α) : Nat → α := fun j => if j = i then x else v j
def nvF (i k : Nat) : Int := if i < 4 then cFr i + (k : Int) else 1
def hasW (word : ByteArray) (i : Nat) : Bool := decide (ixW (W i) word < (W i).length)
def fF (word : ByteArray) : Nat := (List.range 14).findIdx (hasW word)
def run (chk : (Nat → Int) → Int) : List ByteArray → (Nat → Int) → (Nat → Bool) → Int × (Nat → Int)
  | [], v, _ => if chk v = 0 then (0, v) else (chk v, fun _ => 0)
  | w :: ws, v, s => if fF w < 14 then (if s (fF w) = true then (12, fun _ => 0) else run chk ws (upd v (fF w) (nvF (fF w) (ixW (W (fF w)) w))) (upd s (fF w) true)) else (11, fun _ => 0)
theorem range14 (i : Nat) (hi : i < 14) : (List.range 14)[i]'(by simpa using hi) = i := List.getElem_range _
theorem fF_at {word : ByteArray} {i : Nat} (hi : i < 14) (hj : i ≤ fF word) (h : hasW word i = true) : fF word = i := by
  unfold fF at *
  rcases Nat.lt_or_ge i ((List.range 14).findIdx (hasW word)) with h1 | h1
  · have h2 := List.not_of_lt_findIdx h1
    rw [List.getElem_range, h] at h2
    exact absurd h2 (by simp)
  · omega
theorem fF_no {word : ByteArray} {i : Nat} (hi : i < 14) (hj : i ≤ fF word) (h : hasW word i = false) : i + 1 ≤ fF word := by
  unfold fF at *
  rcases Nat.lt_or_ge i ((List.range 14).findIdx (hasW word)) with h1 | h1
  · omega
  · exfalso
    have e : (List.range 14).findIdx (hasW word) = i := by omega
    have := List.findIdx_getElem (xs := List.range 14) (p := hasW word) (w := by rw [e]; simpa using hi)
    rw [List.getElem_range, e, h] at this
    exact absurd this (by simp)
theorem fF_le (word : ByteArray) : fF word ≤ 14 := by
  have := List.findIdx_le_length (xs := List.range 14) (p := hasW word)
  simpa [fF] using this
theorem bsc_at {w : World} {g t : Nat} {s : Nat → Bool} (h : w.heap[g]? = some (.cells (bsc s) t (0, 0))) (i : Nat) (hi : i < 14) : w.cell? ⟨g, i, none⟩ = some (.bool (s i)) := by
  refine (blk_cell h i).trans ?_
  obtain rfl | rfl | rfl | rfl | rfl | rfl | rfl | rfl | rfl | rfl | rfl | rfl | rfl | rfl : i = 0 ∨ i = 1 ∨ i = 2 ∨ i = 3 ∨ i = 4 ∨ i = 5 ∨ i = 6 ∨ i = 7 ∨ i = 8 ∨ i = 9 ∨ i = 10 ∨ i = 11 ∨ i = 12 ∨ i = 13 := by omega
  all_goals rfl
theorem bsc_upd (s : Nat → Bool) (i : Nat) (hi : i < 14) (b : Bool) : (bsc s).setIfInBounds i (.bool b) = bsc (upd s i b) := by
  obtain rfl | rfl | rfl | rfl | rfl | rfl | rfl | rfl | rfl | rfl | rfl | rfl | rfl | rfl : i = 0 ∨ i = 1 ∨ i = 2 ∨ i = 3 ∨ i = 4 ∨ i = 5 ∨ i = 6 ∨ i = 7 ∨ i = 8 ∨ i = 9 ∨ i = 10 ∨ i = 11 ∨ i = 12 ∨ i = 13 := by omega
  all_goals rfl
theorem ovc_n (v : Nat → Int) (i : Nat) (hi : i < 4) (x : Int) : (ovc v).setIfInBounds i (.int .i64 x) = ovc (upd v i x) := by
  obtain rfl | rfl | rfl | rfl : i = 0 ∨ i = 1 ∨ i = 2 ∨ i = 3 := by omega
  all_goals rfl
theorem ovc_f (v : Nat → Int) (i : Nat) (hi : i < 14) (h4 : 4 ≤ i) : (ovc v).setIfInBounds i (.bool true) = ovc (upd v i 1) := by
  obtain rfl | rfl | rfl | rfl | rfl | rfl | rfl | rfl | rfl | rfl : i = 4 ∨ i = 5 ∨ i = 6 ∨ i = 7 ∨ i = 8 ∨ i = 9 ∨ i = 10 ∨ i = 11 ∨ i = 12 ∨ i = 13 := by omega
  all_goals rfl
def SaysU (w : World) (o i : Nat) (v : Nat → Int) (word : ByteArray) (e : Ending) (w' : World) : Prop :=
  (hasW word i = true ∧ e = .returned (.bool true) ∧ w'.heap[o]? = some (.cells (ovc (upd v i (nvF i (ixW (W i) word)))) 24 (0, 0)) ∧ Up w w' o) ∨ (hasW word i = false ∧ e = .returned (.bool false) ∧ Below w.heap.size w w')
theorem p_says {w : World} {o gA : Nat} {r : Nat → Nat} {v : Nat → Int} (h : FAt w o gA r) (ho : w.heap[o]? = some (.cells (ovc v) 24 (0, 0))) (i : Nat) (hi : i < 14) (word : ByteArray) :
    Calls Tryd.prog 20 #[.agg #[cS (r i) i, cN o i, cF o i, .int .i64 (cFr i)], .string word] w (SaysU w o i v word) := by
  by_cases h4 : i < 4
  · have hc : (ovc v)[i]? = some (.int .i64 (v i)) := by
      obtain rfl | rfl | rfl | rfl : i = 0 ∨ i = 1 ∨ i = 2 ∨ i = 3 := by omega
      all_goals rfl
    have hl : (W i).length ≤ 100 := by
      obtain rfl | rfl | rfl | rfl : i = 0 ∨ i = 1 ∨ i = 2 ∨ i = 3 := by omega
      all_goals decide
    have hf : 0 ≤ cFr i ∧ cFr i ≤ 1 := by unfold cFr; split <;> omega
    have c := p_says_n (word := word) (h.2.1 i hi) hl ho hc hf
    rw [show cN o i = .pointer (some ⟨o, i, none⟩) by unfold cN; rw [if_pos h4], show cF o i = .pointer none by unfold cF; rw [if_pos h4]]
    refine c.mono ?_
    rintro e w' (⟨h1, rfl, h2, h3⟩ | ⟨h1, rfl, h2⟩)
    · refine .inl ⟨decide_eq_true h1, rfl, ?_, h3⟩
      rw [h2, ovc_n v i h4]
      unfold nvF
      rw [if_pos h4]
    · exact .inr ⟨decide_eq_false h1, rfl, h2⟩
  · have hc : (ovc v)[i]? = some (.bool (v i == 1)) := by
      obtain rfl | rfl | rfl | rfl | rfl | rfl | rfl | rfl | rfl | rfl : i = 4 ∨ i = 5 ∨ i = 6 ∨ i = 7 ∨ i = 8 ∨ i = 9 ∨ i = 10 ∨ i = 11 ∨ i = 12 ∨ i = 13 := by omega
      all_goals rfl
    have hl : (W i).length ≤ 100 := by
      obtain rfl | rfl | rfl | rfl | rfl | rfl | rfl | rfl | rfl | rfl : i = 4 ∨ i = 5 ∨ i = 6 ∨ i = 7 ∨ i = 8 ∨ i = 9 ∨ i = 10 ∨ i = 11 ∨ i = 12 ∨ i = 13 := by omega
      all_goals decide
    have hf : 0 ≤ cFr i ∧ cFr i ≤ 1 := by unfold cFr; split <;> omega
    have c := p_says_f (word := word) (h.2.1 i hi) hl ho hc hf
    rw [show cN o i = .pointer none by unfold cN; rw [if_neg h4], show cF o i = .pointer (some ⟨o, i, none⟩) by unfold cF; rw [if_neg h4]]
    refine c.mono ?_
    rintro e w' (⟨h1, rfl, h2, h3⟩ | ⟨h1, rfl, h2⟩)
    · refine .inl ⟨decide_eq_true h1, rfl, ?_, h3⟩
      rw [h2, ovc_f v i hi (by omega)]
      unfold nvF
      rw [if_neg h4]
    · exact .inr ⟨decide_eq_false h1, rfl, h2⟩
end Go.Proofs.YtknghhlielhleaaDoor.Stk
