/- The trie: Ranges and Count. -/
import Derived.Test.YtmkgihmchkphaaaTrE2
namespace Go.Proofs.Ytmkgihmchkphaaa.Stk
open Go.RowKit Go.Proofs.YtmkgihmchkphaaaW.PrintWords Go.Proofs.YtmkgihmchkphaaaW.PrintLast Go.Proofs.YtmkgihmchkphaaaW.PrintMore
attribute [local go_sem] max2_int min2_int max_two min_two max_three min_three max_four min_four   -- for this text's walks alone
set_option linter.unusedVariables false
set_option linter.unusedSimpArgs false
section
variable {P : Program} {w : World} {ops : Array Oper} {rest : List Oper} {o : Oper} {a : Act} {Q : Exit → Act → World → Prop}
/-- A new variable of one cell. -/
theorem wp_alloc_one (hg : o.guard = none) (t : TypeId) (hop : o.op = .alloc t) (v : Value) (hz : (P.info? t).map (·.zero) = some (some v)) (hc : v.cells = #[v])
    (h : ∀ g, g = w.heap.size → ∀ w1, w1.heap[g]? = some (.cells #[v] t (0, 0)) → Below w.heap.size w w1 → wpList P ops Q rest (a.put o.dst (.pointer (some ⟨g, 0, none⟩))) w1) : wpList P ops Q (o :: rest) a w := by
  refine Kd.event_run hg (w1 := w.alloc (.cells #[v] t (0, 0))) (v := .pointer (some ⟨w.heap.size, 0, none⟩)) ?_ (h _ rfl _ (blk_new w _) (below_alloc (Below.refl _ _) _))
  have hzv : (zeroValue t).run P w = .ok v w := by
    cases hq : P.info? t with
    | none => simp [hq] at hz
    | some i => simp [hq] at hz; simp [zeroValue, typeInfo, hq, hz]
  unfold execOp
  simp only [hop, Instr.alloc, Sem.run_bind, hzv, Result.andThen_ok]
  unfold newVar
  rw [hc]
  rfl
end
theorem zero_int : (Try.prog.info? 3).map (·.zero) = some (some (.int .i64 0)) := by kernel_rfl
theorem zero_trs : (Try.prog.info? 59).map (·.zero) = some (some (.slice none 0 0)) := by kernel_rfl
def RngInv (w0 : World) (g gt gl : Nat) (z : Int) (g4 : Nat) (w' : World) (rs : List Rg) : Prop := Below w0.heap.size w0 w' ∧ w'.heap[gt]? = some (.cells #[.pointer (some ⟨g, 0, none⟩)] 68 (0, 0)) ∧ ∃ v, w'.heap[gl]? = some (.cells #[v] 59 (0, 0)) ∧ Kd.R kR 66 w' w0.heap.size (fun k => k ≠ gl) v (keepR z rs) ∧ some gt ≠ v.ownBlock ∧ some g4 ≠ v.ownBlock ∧ g4 < w'.heap.size
theorem tab_none {w : World} {g : Nat} {fs : List Int} {bs : List (List Int)} {z : Int} {m : Bool} (h : TabR w g fs bs z m) : w.cell? ⟨g, 2, none⟩ = some (.int .i64 z) := by
  obtain ⟨A1, c1, A2, c2, hG, _⟩ := h
  exact (blk_cell hG 2).trans rfl
theorem p_each_ranges {w0 w : World} {g gt gl : Nat} {fs : List Int} {bs : List (List Int)} {z : Int} (h0 : TabR w0 g fs bs z true) (hk : TabOk fs bs) (hB : Below w0.heap.size w0 w) (hV : w.heap[gt]? = some (.cells #[.pointer (some ⟨g, 0, none⟩)] 68 (0, 0))) (hN : w.heap[gl]? = some (.cells #[.slice none 0 0] 59 (0, 0))) (hgl : w0.heap.size ≤ gl) (hne : gt ≠ gl) :
    Calls Try.prog 92 #[.pointer (some ⟨g, 0, none⟩), .func (.func 93) #[] #[.pointer (some ⟨gt, 0, none⟩), .pointer (some ⟨gl, 0, none⟩)]] w fun e w' => e = .returned (.tuple #[]) ∧ ∃ rs v, Below w0.heap.size w0 w' ∧ w'.heap[gl]? = some (.cells #[v] 59 (0, 0)) ∧ Kd.R kR 66 w' w0.heap.size (fun k => k ≠ gl) v (keepR z rs) ∧ Seg (tabv fs bs) rs 0 1114112 := by
  have hlv := blk_lt hV
  have hln := blk_lt hN
  have hsz := hB.size
  refine (p_each93 (tab_below h0 hB) hk _ _ (RngInv w0 g gt gl z) (fun g4 w' h4 hl4 hb => ⟨hB.trans (hb.mono hsz), blk_below hV hb, _, blk_below hN hb, Kd.R_nil _ _ _ _ _, by simp [Value.ownBlock], by simp [Value.ownBlock], hl4⟩) (fun g4 w' w'' rs h4 ⟨i1, i2, v, i3, i4, i5, i6, i7⟩ hb => ⟨i1.trans (hb.mono i1.size), blk_below i2 hb, v, blk_below i3 hb, Kd.R_below i4 hb, i5, i6, Nat.lt_of_lt_of_le i7 hb.size⟩) (fun g4 w' w'' rs h4 ⟨i1, i2, v, i3, i4, i5, i6, i7⟩ hw => ⟨hw.below i1 (by omega), hw.blk i2 (by omega), v, hw.blk i3 (by omega), Kd.R_drop (Kd.R_step (Kd.R_far1 i4 rfl i6) (fun k hk _ => hw.2.1 k hk.2)), i5, i6, by rw [hw.1]; exact i7⟩) (fun g4 w' rs hi => tab_below h0 hi.1) (fun g4 w' rs r cells t h4 hc4 ⟨i1, i2, v, i3, i4, i5, i6, i7⟩ hl => ?_)).mono fun e w' ⟨he, g4, rs, ⟨i1, i2, v, i3, i4, i5, i6, i7⟩, hs⟩ => ⟨he, rs, v, i1, i3, i4, hs⟩
  refine (p_rcl i2 i3 (tab_none (tab_below h0 i1)) i4 i1.size (Nat.le_trans (List.length_filter_le _ _) hl) r).mono fun e w'' ⟨he, v', h1, h2, h3⟩ => ⟨he, ⟨i1.trans (h3.below_base i1.size hgl (fun k hk => ((Kd.R_bound i4).1 k hk).2.1)), h3.keeps i2 hne i5, v', h1, ?_, ?_, ?_, ?_⟩, ?_⟩
  · rw [keepR_snoc]; exact h2
  · intro e; rcases h3.2.1 _ e.symm with h | h
    · exact i5 h.symm
    · have := blk_lt i2; omega
  · intro e; rcases h3.2.1 _ e.symm with h | h
    · exact i6 h.symm
    · omega
  · exact Nat.lt_of_lt_of_le i7 h3.1.1
  · exact (h3.keeps hc4 (by omega) i6).trans hc4.symm
end Go.Proofs.Ytmkgihmchkphaaa.Stk
