import Derived.Test.YtbkdaafphcfpdaaStkX4
namespace Go.Proofs.Ytbkdaafphcfpdaa.Stk
open Go.RowKit Go.Proofs.YtbkdaafphcfpdaaW.PrintWords Go.Proofs.YtbkdaafphcfpdaaW.PrintLast Go.Proofs.YtbkdaafphcfpdaaW.PrintMore
attribute [local go_sem] max2_int min2_int max_two min_two max_three min_three max_four min_four   -- for this text's walks alone
set_option linter.unusedVariables false
set_option linter.unusedSimpArgs false
def Good (l : List Ent) : Prop := 0 < l.length ∧ l.Pairwise (fun x y => x.lv < y.lv) ∧ ∀ x ∈ l, 0 ≤ x.lv ∧ x.lv ≤ 125
theorem topE_mem {l : List Ent} (h : 0 < l.length) : topE l ∈ l := by
  unfold topE
  rw [List.getD_eq_getElem?_getD, List.getElem?_eq_getElem (by omega), Option.getD_some]
  exact List.getElem_mem _
theorem Good.top {l : List Ent} (h : Good l) : 0 ≤ (topE l).lv ∧ (topE l).lv ≤ 125 := h.2.2 _ (topE_mem h.1)
theorem low_of : ∀ {l : List Ent} (b : Int), l.Pairwise (fun x y => x.lv < y.lv) → (∀ x ∈ l, b ≤ x.lv ∧ x.lv ≤ 125) → (l.length : Int) ≤ 126 - b ∨ l = []
  | [], _, _, _ => .inr rfl
  | x :: l, b, hp, hb => by
    obtain ⟨h1, h2⟩ := List.pairwise_cons.1 hp
    have hx := hb x (by simp)
    left
    rcases low_of (x.lv + 1) h2 (fun y hy => ⟨by have := h1 y hy; omega, (hb y (by simp [hy])).2⟩) with h | h
    · simp only [List.length_cons, Int.natCast_add, Int.natCast_one]; omega
    · subst h; simp; omega
theorem Good.len {l : List Ent} (h : Good l) : l.length ≤ 126 := by
  rcases low_of 0 h.2.1 h.2.2 with h1 | h1
  · omega
  · rw [h1]; simp
theorem topE_snoc (l : List Ent) (x : Ent) : topE (l ++ [x]) = x := by
  unfold topE
  rw [List.length_append, List.length_singleton, Nat.add_sub_cancel]
  simp [List.getD_eq_getElem?_getD]
theorem le_top {l : List Ent} (h : Good l) : ∀ x ∈ l, x.lv ≤ (topE l).lv := by
  intro x hx
  obtain ⟨i, hi, rfl⟩ := List.getElem_of_mem hx
  unfold topE
  rw [List.getD_eq_getElem?_getD, List.getElem?_eq_getElem (by omega), Option.getD_some]
  by_cases e : i = l.length - 1
  · subst e; exact Int.le_refl _
  · have := (List.pairwise_iff_getElem.1 h.2.1) i (l.length - 1) hi (by omega) (by omega)
    omega
theorem Good.put {l : List Ent} (h : Good l) {x : Ent} (h1 : (topE l).lv < x.lv) (h2 : x.lv ≤ 125) : Good (l ++ [x]) := by
  refine ⟨by simp, List.pairwise_append.2 ⟨h.2.1, List.pairwise_singleton _ _, fun a ha b hb => ?_⟩, fun y hy => ?_⟩
  · rw [List.mem_singleton] at hb
    subst hb
    have := le_top h a ha
    omega
  · rcases List.mem_append.1 hy with h3 | h3
    · exact h.2.2 y h3
    · rw [List.mem_singleton] at h3
      subst h3
      have := h.top
      omega
theorem Good.take {l : List Ent} (h : Good l) {m : Nat} (h1 : 0 < m) : Good (l.take m) :=
  ⟨by rw [List.length_take]; have := h.1; omega, h.2.1.sublist (List.take_sublist _ _), fun y hy => h.2.2 y (List.mem_of_mem_take hy)⟩
theorem top_take {l : List Ent} (h : Good l) {m : Nat} (h1 : 0 < m) (h2 : m < l.length) : (topE (l.take m)).lv < (topE l).lv := by
  have e : topE (l.take m) = l[m - 1]'(by omega) := by
    unfold topE
    rw [List.length_take, show min m l.length - 1 = m - 1 by omega, List.getD_eq_getElem?_getD, List.getElem?_take, if_pos (by omega), List.getElem?_eq_getElem (by omega), Option.getD_some]
  rw [e]
  unfold topE
  rw [List.getD_eq_getElem?_getD, List.getElem?_eq_getElem (by have := h.1; omega), Option.getD_some]
  exact (List.pairwise_iff_getElem.1 h.2.1) (m - 1) (l.length - 1) (by omega) (by omega) (by omega)
def Went (l l' : List Ent) : Prop := Good l' ∧ (l.length < l'.length → (topE l).lv < (topE l').lv) ∧ (l'.length < l.length → (topE l').lv < (topE l).lv)
theorem Went.same {l : List Ent} (h : Good l) : Went l l := ⟨h, fun h1 => absurd h1 (Nat.lt_irrefl _), fun h1 => absurd h1 (Nat.lt_irrefl _)⟩
theorem Went.put {l : List Ent} (h : Good l) {x : Ent} (h1 : (topE l).lv < x.lv) (h2 : x.lv ≤ 125) : Went l (l ++ [x]) :=
  ⟨h.put h1 h2, fun _ => by rw [topE_snoc]; exact h1, fun h3 => by simp at h3; omega⟩
theorem Went.cut {l : List Ent} (h : Good l) {m : Nat} (h1 : 0 < m) (h2 : m ≤ l.length) : Went l (l.take m) := by
  refine ⟨h.take h1, fun h3 => ?_, fun h3 => ?_⟩
  · rw [List.length_take] at h3; omega
  · rw [List.length_take] at h3; exact top_take h h1 (by omega)
theorem popE_take (l : List Ent) (h : 0 < l.length) : ∃ m, 0 < m ∧ m ≤ l.length ∧ popE l = l.take m := by
  unfold popE
  split
  · exact ⟨l.length - 1, by omega, by omega, rfl⟩
  · exact ⟨l.length, h, Nat.le_refl _, (List.take_length).symm⟩
theorem dropI_take : ∀ (n : Nat) (l : List Ent), 0 < l.length → ∃ m, 0 < m ∧ m ≤ l.length ∧ dropI n l = l.take m
  | 0, l, h => ⟨l.length, h, Nat.le_refl _, (List.take_length).symm⟩
  | n + 1, l, h => by
    unfold dropI
    split
    · exact ⟨l.length, h, Nat.le_refl _, (List.take_length).symm⟩
    · split
      · obtain ⟨m, h1, h2, h3⟩ := dropI_take n (l.take (l.length - 1)) (by rw [List.length_take]; omega)
        rw [List.length_take] at h2
        refine ⟨m, h1, by omega, ?_⟩
        rw [h3, List.take_take, Nat.min_eq_left (by omega)]
      · exact ⟨l.length, h, Nat.le_refl _, (List.take_length).symm⟩
theorem Went.pop {l : List Ent} (h : Good l) : Went l (popE l) := by
  obtain ⟨m, h1, h2, h3⟩ := popE_take l h.1
  rw [h3]
  exact Went.cut h h1 h2
theorem Went.drop {l : List Ent} (h : Good l) : Went l (popE (dropI l.length l)) := by
  obtain ⟨m, h1, h2, h3⟩ := dropI_take l.length l h.1
  rw [h3]
  obtain ⟨k, h4, h5, h6⟩ := popE_take (l.take m) (by rw [List.length_take]; omega)
  rw [h6, List.take_take]
  rw [List.length_take] at h5
  exact Went.cut h (by omega) (by omega)
theorem Good.new (n : Int) : Good [newE n] := by
  refine ⟨by simp, List.pairwise_singleton _ _, fun x hx => ?_⟩
  rw [List.mem_singleton] at hx
  subst hx
  unfold newE
  dsimp only
  split
  · omega
  · split <;> omega
theorem Went.next {l : List Ent} (h : Good l) {right : Bool} {a b : Int} (hok : okB a b l right = true) (ov : Int) (iso : Bool) : Went l (l ++ [⟨nextL right (topE l).lv, ov, iso⟩]) := by
  unfold okB at hok
  rw [Bool.and_eq_true] at hok
  have h1 := of_decide_eq_true hok.2
  have h2 := nextL_lt (right := right) h.top.1
  exact Went.put h (by dsimp only; omega) h1
def embB (a b : Int) (l : List Ent) (right : Bool) : Int := if okB a b l right = true then b else if a = 0 then wrap64 (b + 1) else b
def embL (a b : Int) (l : List Ent) (right : Bool) (ov : Int) : List Ent := if okB a b l right = true then l ++ [⟨nextL right (topE l).lv, ov, false⟩] else l
def isoA (a b : Int) (l : List Ent) (right : Bool) : Int := if okB a b l right = true then a else wrap64 (a + 1)
def isoC (a b c : Int) (l : List Ent) (right : Bool) : Int := if okB a b l right = true then wrap64 (c + 1) else c
def isoL (a b : Int) (l : List Ent) (right : Bool) : List Ent := if okB a b l right = true then l ++ [⟨nextL right (topE l).lv, 13, true⟩] else l
def eeB (a b : Int) : Int := if 0 < a then b else if 0 < b then wrap64 (b - 1) else b
def eeL (a b : Int) (l : List Ent) : List Ent := if 0 < a then l else if 0 < b then l else if (topE l).iso = true then l else popE l
def eiA (a : Int) : Int := if 0 < a then wrap64 (a - 1) else a
def eiB (a b c : Int) : Int := if 0 < a then b else if 0 < c then 0 else b
def eiC (a c : Int) : Int := if 0 < a then c else if 0 < c then wrap64 (c - 1) else c
def eiL (a c : Int) (l : List Ent) : List Ent := if 0 < a then l else if 0 < c then popE (dropI l.length l) else l
section
variable {a b c : Int} {l : List Ent}
theorem Went.emb (h : Good l) (right : Bool) (ov : Int) : Went l (embL a b l right ov) := by
  unfold embL; split
  · rename_i hok; exact Went.next h hok _ _
  · exact Went.same h
theorem Went.isol (h : Good l) (right : Bool) : Went l (isoL a b l right) := by
  unfold isoL; split
  · rename_i hok; exact Went.next h hok _ _
  · exact Went.same h
theorem Went.ee (h : Good l) : Went l (eeL a b l) := by
  unfold eeL
  repeat' split
  all_goals first | exact Went.same h | exact Went.pop h
theorem Went.ei (h : Good l) : Went l (eiL a c l) := by
  unfold eiL
  repeat' split
  all_goals first | exact Went.same h | exact Went.drop h
end
end Go.Proofs.Ytbkdaafphcfpdaa.Stk
