/- Words of ours: elements of several cells, stored one behind the other. -/
import Derived.Test.YtjnhepgjkphkoaaMy3
import Derived.Shelf.SlicesQ.Reverse
namespace Go.Proofs.YtjnhepgjkphkoaaM
open Go.RowKit Go.Proofs.YtjnhepgjkphkoaaW.PrintWords Go.Proofs.YtjnhepgjkphkoaaW.PrintLast
set_option linter.unusedVariables false
theorem setCells_append_ (b : Nat) : ∀ (us : List Value) (vs : List Value) (o : Nat) (w : World), w.setCells b o (us ++ vs) = (w.setCells b o us).setCells b (o + us.length) vs
  | [], vs, o, w => rfl
  | u :: us, vs, o, w => by
    rw [List.cons_append, World.setCells, World.setCells, setCells_append_ b us vs (o + 1)]
    congr 1
    simp; omega
section
variable {α : Type} {d : Kd α} {e base g cap n : Nat} {ok : Nat → Prop}
/-- Some elements of a row of the call's own, stored one by one. -/
theorem Kd.R_setElems {enc : α → List Value} (z : α) (hs : ∀ x, (enc x).length = d.sz) (hM : ∀ (W : World) (b : Nat) (okp : Nat → Prop) (x : α), d.M W b okp x (enc x)) : ∀ (ys : List α) (off : Nat) (W : World) (xs : List α),
    d.R e W base ok (.slice (some ⟨g, 0, none⟩) n cap) xs → off + ys.length ≤ n → d.R e (W.setCells g (off * d.sz) (ys.flatMap enc)) base ok (.slice (some ⟨g, 0, none⟩) n cap) (xs.take off ++ (ys ++ xs.drop (off + ys.length)))
  | [], off, W, xs, h, _ => by simpa [World.setCells] using h
  | y :: ys, off, W, xs, h, hf => by
    rw [List.length_cons] at hf
    have hn : n = xs.length := (Kd.R_reads' h).1
    obtain ⟨c, hcl, _, hcc, _⟩ := Kd.R_elem h z (off : Int) (by omega) (by omega)
    have hp := (Kd.R_seg h (off : Int) (by omega) (by omega) (j := 0) (seg := enc y) hcl hcc (by rw [hs]; omega) (x' := y) (okp := fun k => ok k ∧ k ≠ g) (by
      rw [List.take_zero, List.nil_append, List.drop_eq_nil_of_le (by rw [hs]; omega), List.append_nil]
      exact hM _ _ _ _) (fun k hk => hk)).1
    rw [Int.toNat_natCast, Nat.add_zero] at hp
    have hr := Kd.R_setElems z hs hM ys (off + 1) _ _ hp (by omega)
    rw [lay_cons _ _ _ _ (by omega)] at hr
    rw [List.flatMap_cons, setCells_append_, hs, ← Nat.succ_mul]
    exact hr
end
open Go.Sort in
theorem flatK_list {α : Type} [Inhabited α] (enc : α → List Value) (k : Nat) (hk : ∀ x, (enc x).length = k) (h0 : 0 < k) : ∀ (l : List α), (flatK enc k l.toArray).toList = l.flatMap enc := by
  have key : ∀ (l : List α) (t : Nat), t < l.length * k → (l.flatMap enc)[t]? = some (enc (l[t / k]!))[t % k]! := by
    intro l
    induction l with
    | nil => intro t ht; simp at ht
    | cons x l ih =>
      intro t ht
      rw [List.flatMap_cons]
      by_cases h : t < k
      · rw [List.getElem?_append_left (by rw [hk]; exact h), Nat.div_eq_of_lt h, Nat.mod_eq_of_lt h]
        have : t < (enc x).length := by rw [hk]; exact h
        rw [List.getElem?_eq_getElem this]
        simp [getElem!_pos, this]
      · obtain ⟨s, rfl⟩ : ∃ s, t = s + k := ⟨t - k, by omega⟩
        rw [List.getElem?_append_right (by rw [hk]; omega), hk, Nat.add_sub_cancel, ih s (by rw [List.length_cons, Nat.succ_mul] at ht; omega), Nat.add_mod_right, Nat.add_div_right _ h0]
        simp
  intro l
  have hlen : (l.flatMap enc).length = l.length * k := by
    induction l with
    | nil => simp
    | cons x l ih => rw [List.flatMap_cons, List.length_append, hk, ih, List.length_cons, Nat.succ_mul]; omega
  apply List.ext_getElem?
  intro t
  by_cases ht : t < l.length * k
  · rw [key l t ht]
    have h2 : t < (flatK enc k l.toArray).size := by simpa using ht
    rw [Array.getElem?_toList, Array.getElem?_eq_getElem h2]
    have := get_flatK enc k l.toArray t (by simpa using ht)
    rw [getElem!_pos _ t h2] at this
    rw [this]
    simp
  · rw [List.getElem?_eq_none (by simp; omega), List.getElem?_eq_none (by omega)]
open Go.Sort in
/-- A row of elements laid anew is its cells stored one by one. -/
theorem putRowK_cells_ {α : Type} [Inhabited α] {enc : α → List Value} {k : Nat} (hk : ∀ x, (enc x).length = k) (h0 : 0 < k) (w : World) (blk off : Nat) (d : Array α) (l : List α) (hH : HoldsK enc k w blk off d) (hsz : l.length = d.size) :
    putRowK enc k w blk off l.toArray = w.setCells blk off (l.flatMap enc) := by
  have hl := flatK_list enc k hk h0 l
  have hsz2 : (flatK enc k l.toArray).size = (flatK enc k d).size := by simp [hsz]
  have h := setCells_putRow w blk off (flatK enc k l.toArray).toList 0 (flatK enc k d) (by rw [Array.length_toList, hsz2]; omega)
  rw [Nat.add_zero, show putRow id w blk off (flatK enc k d) = w from putRow_self id w blk off _ hH, hl] at h
  rw [h]
  unfold putRowK
  congr 1
  refine ext_get! (by rw [size_setMany]; exact hsz2) fun t ht => ?_
  rw [← hl, get_setMany _ _ _ t (by omega), if_pos ⟨Nat.zero_le _, by rw [Array.length_toList]; omega⟩, Nat.sub_zero]
  rw [getElem!_pos _ t ht, getElem!_pos _ t (by simpa using ht)]
  simp
end Go.Proofs.YtjnhepgjkphkoaaM
