/- Words of ours: what came in, opened: a row of elements of any kind, a struct; how long a row may be. -/
import Derived.Test.YtmkgihmchkphaaaWMore
import Derived.Deep.Slices
import Derived.SizedLaws
import Derived.ChangeSlices
import Derived.ChangeArms
namespace Go.Proofs.YtmkgihmchkphaaaM
open Go.RowKit Go.Deep Go.ChangeShapes Go.WideShapes Go.Proofs.YtmkgihmchkphaaaW.PrintWords
section
variable {H : Type} {enc : TypeId × Value → H} {P : Program} {w : World} {base : Nat} {held : Bool} {t e : TypeId}
theorem came_row {α : Type} (z : α) (d : Kd α) (Q : α → Prop) (ht : P.underlying t = some (.slice e)) (hce : P.cellsOf e = d.sz)
    (helem : ∀ (n : Nat) (cs : List Value) (y : DataW H × List MemPlace), DataW.trod enc P w base (fun _ => true) held n e cs = some y → ∃ a : α, d.K w a cs ∧ Q a)
    {A : Option Addr} {len cap : Nat} {x : DataW H} {ps : List MemPlace} (h : DataW.Trod enc P w base (fun _ => true) held t (.slice A len cap) x ps) :
    ∃ l : List α, len = l.length ∧ d.C w A l.length l ∧ l.length ≤ cap ∧ l.length ≤ maxLen ∧ ∀ a ∈ l, Q a := by
  obtain ⟨fuel, hf⟩ := h
  rcases open_slice ht hf with ⟨hcs, _⟩ | ⟨a, len', cap', m, n, D, Pl, hcs, hb, hl, hm, hmm, _, hx⟩
  · simp [Value.cells] at hcs
    obtain ⟨rfl, rfl, rfl⟩ := hcs
    exact ⟨[], rfl, ⟨rfl, by simp, fun h => by simp at h⟩, Nat.le_refl _, by simp, by simp⟩
  · simp [Value.cells] at hcs
    obtain ⟨rfl, rfl, rfl⟩ := hcs
    simp only [if_true] at hmm
    subst hmm
    letI : Inhabited α := ⟨z⟩
    obtain ⟨F, hF⟩ := choose_lt (α := α) (n := len) (p := fun i a' => Q a' ∧ ∃ c, c.length = d.sz ∧ d.K w a' c ∧ ∀ j u, c[j]? = some u → w.cell? (a.add (i * d.sz + j)) = some u) (fun i hi => by
      obtain ⟨cs', h1, h2⟩ := hx i (Nat.lt_of_lt_of_le hi hl)
      rw [hce] at h1
      obtain ⟨_, hlen, hcell⟩ := World.cells?_some h1
      obtain ⟨a', hK, hQ⟩ := helem n cs' _ h2
      refine ⟨a', hQ, cs', hlen, hK, fun j u hu => ?_⟩
      have hj : j < d.sz := by have := (List.getElem?_eq_some_iff.1 hu).1; omega
      have h3 := hcell j hj
      rw [Go.Deep.add_add] at h3
      rw [h3, hu])
    have hll : ((List.range len).map F).length = len := by simp
    refine ⟨(List.range len).map F, hll.symm, ⟨rfl, by rw [hll]; exact Nat.le_trans hl hm, fun _ => ⟨a, rfl, fun j p hp => ?_⟩⟩, by rw [hll]; exact hl, by rw [hll]; exact Nat.le_trans hl hm, fun a' ha => ?_⟩
    · rw [List.getElem?_map] at hp
      obtain ⟨q, hq, rfl⟩ := Option.map_eq_some_iff.1 hp
      have hjl : j < len := by have := (List.getElem?_eq_some_iff.1 hq).1; simpa using this
      have : q = j := by rw [List.getElem?_range hjl] at hq; exact (Option.some.inj hq).symm
      subst this
      exact (hF q hjl).2
    · obtain ⟨i, hi, rfl⟩ := List.mem_map.1 ha
      exact (hF i (List.mem_range.1 hi)).1
theorem came_sized {spare : Nat → Bool} {A : Option Addr} {len cap : Nat} {x : DataW H} {ps : List MemPlace} {ts : List TypeId} {ds : List (DataW H)} {j : Nat}
    (hsz : (DataW.weightsEach P ts ds).all (· ≤ reachBytes) = true) (htj : ts[j]? = some t) (hd : ds[j]? = some x) (ht : P.underlying t = some (.slice e)) {B : Nat} (hB : P.bytesOf e = B)
    (h : DataW.Trod enc P w base spare held t (.slice A len cap) x ps) : len * B ≤ 140737488351232 := by
  obtain ⟨fuel, hf⟩ := h
  rcases open_slice ht hf with ⟨hcs, _⟩ | ⟨a, len', cap', m, n, D, Pl, hcs, hb, hl, hm, hmm, hxx, hx⟩
  · simp [Value.cells] at hcs
    obtain ⟨rfl, rfl, rfl⟩ := hcs
    simp
  · simp [Value.cells] at hcs
    obtain ⟨rfl, rfl, rfl⟩ := hcs
    obtain ⟨hx1, _⟩ := Prod.mk.inj hxx
    subst hx1
    have z := sized_slice hsz htj hd ht
    rw [hB] at z
    refine Nat.le_trans (Nat.mul_le_mul_right _ ?_) z
    rw [List.length_map, List.length_range]
    exact Nat.le_add_right _ _
theorem okWide_struct_ {r : Reach} {fs : Array Field} {v : Value} (ht : P.underlying t = some (.struct fs)) (h : Value.okWide P w r base t v) : ∃ cs, v = .agg cs := by
  unfold Value.okWide at h
  rw [ht] at h
  obtain ⟨cs, rfl, _⟩ := h
  exact ⟨cs, rfl⟩
theorem arr_of_list_ {α : Type} {cs : Array α} {l : List α} (h : cs.toList = l) : cs = l.toArray := by rw [← h]
end
end Go.Proofs.YtmkgihmchkphaaaM
