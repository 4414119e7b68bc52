/- Words of ours: a []bool that came in. -/
import Derived.Test.YtbkdaafphcfpdaaWMore
namespace Go.Proofs.YtbkdaafphcfpdaaM
open Go.RowKit Go.Proofs.YtbkdaafphcfpdaaW.PrintWords
theorem reads_bools_ {w : World} {a : Option Addr} {len cap : Nat} {zs : List Bool} (h : (a = none ∧ len = 0 ∧ cap = 0 ∧ zs = []) ∨ ∃ x, a = some x ∧ len ≤ cap ∧ cap ≤ maxLen ∧ zs.length = cap ∧ (∀ i, i < zs.length → w.cell? (x.add i) = some (.bool (zs.getD i false)))) :
    ∃ l : List Bool, len = l.length ∧ ReadsOf Value.bool false w a l.length l ∧ l.length ≤ maxLen ∧ l.length ≤ cap := by
  rcases h with ⟨rfl, rfl, rfl, rfl⟩ | ⟨x, rfl, h1, h2, h3, h4⟩
  · exact ⟨[], rfl, ⟨rfl, by simp, fun h => by simp at h⟩, by simp, by simp⟩
  · have hl : (zs.take len).length = len := by rw [List.length_take]; omega
    refine ⟨zs.take len, hl.symm, ⟨rfl, by rw [hl]; unfold maxLen at h2; omega, fun _ => ⟨x, rfl, fun j hj => ?_⟩⟩, by omega, by omega⟩
    rw [hl] at hj
    rw [h4 j (by omega)]
    simp [hj]
end Go.Proofs.YtbkdaafphcfpdaaM
