-- The row of the law naskhlaw30_RunsOrder, out of its Pure and the walk (a program of ours, after the print's own).
import Derived.Test.YtjnhepgjkphkoaaRows
import Derived.Test.YtjnhepgjkphkoaaPRunsOrderx6
import Derived.Test.YtjnhepgjkphkoaaPureRunsOrder
import Derived.Test.YtjnhepgjkphkoaaMy10
import Derived.WalkKit
import Derived.ProofKit
import Derived.OpenShut
import Derived.ShutString
import Derived.ChangeOld
import Derived.Below
import Derived.SizedLaws
namespace Go.Proofs.Ytjnhepgjkphkoaa.runsOrder
open Go.ChangeShapes Go.WideShapes Go.ChangeAt Go.RowKit Go.Proofs.YtjnhepgjkphkoaaM Go.Proofs.YtjnhepgjkphkoaaW.PrintWords Go.Proofs.Ytjnhepgjkphkoaa.PRunsOrder
open Go.ChangeMaps (open_string shut_string)
set_option linter.unusedVariables false
theorem own : ownKnob Try.prog.godebug = none := by kernel_rfl
theorem laidOut : laidOutB Try.prog = true := by kernel_rfl
theorem elem33 {H : Type} {enc : TypeId × Value → H} {W : World} {base : Nat} {sp : Nat → Bool} {held : Bool} (n : Nat) (cs : List Value) (y : DataW H × List MemPlace) (h : DataW.trod enc Try.prog W base sp held n 33 cs = some y) : ∃ x : S33, cs = [.int .i64 x.f0, .int .i64 x.f1] ∧ (fun x : S33 => (Lit.int .i64 x.f0).wf = true ∧ (Lit.int .i64 x.f1).wf = true) x := by
  obtain ⟨xs, m, _, _, hl, hlen, hf⟩ := DataW.trod_struct Try.underlying33 h
  have hl' : cs.length = 2 := hl.trans (by kernel_rfl)
  clear hl h
  match cs, hl' with
  | [c0, c1], _ =>
    have f0 : DataW.trod enc Try.prog W base sp held m 3 [c0] = _ := (show (([c0, c1] : List Value).drop 0).take (Try.prog.cellsOf 3) = [c0] from by rw [show Try.prog.cellsOf 3 = 1 from by kernel_rfl]; rfl) ▸ hf 0 _ rfl
    obtain ⟨z0, g0⟩ : ∃ z, xs[0]? = some z := ⟨_, List.getElem?_eq_getElem (by rw [hlen]; decide)⟩
    rw [g0] at f0
    have f1 : DataW.trod enc Try.prog W base sp held m 3 [c1] = _ := (show (([c0, c1] : List Value).drop 1).take (Try.prog.cellsOf 3) = [c1] from by rw [show Try.prog.cellsOf 3 = 1 from by kernel_rfl]; rfl) ▸ hf 1 _ rfl
    obtain ⟨z1, g1⟩ : ∃ z, xs[1]? = some z := ⟨_, List.getElem?_eq_getElem (by rw [hlen]; decide)⟩
    rw [g1] at f1
    obtain ⟨v0, e0, _, w0⟩ := DataW.trod_int Try.underlying3 f0
    simp only [List.cons.injEq, and_true] at e0
    obtain rfl := e0
    obtain ⟨v1, e1, _, w1⟩ := DataW.trod_int Try.underlying3 f1
    simp only [List.cons.injEq, and_true] at e1
    obtain rfl := e1
    exact ⟨⟨v0, v1⟩, rfl, by (try dsimp only); (repeat' (first | apply And.intro)); all_goals (first | trivial | assumption | (first | exact trivial))⟩
theorem elem35 {H : Type} {enc : TypeId × Value → H} {W : World} {base : Nat} {sp : Nat → Bool} {held : Bool} (n : Nat) (cs : List Value) (y : DataW H × List MemPlace) (h : DataW.trod enc Try.prog W base sp held n 35 cs = some y) : ∃ x : S35, cs = [.int .i64 x.f0.f0, .int .i64 x.f0.f1, .int .i64 x.f1] ∧ (fun x : S35 => (Lit.int .i64 x.f0.f0).wf = true ∧ (Lit.int .i64 x.f0.f1).wf = true ∧ (Lit.int .i64 x.f1).wf = true) x := by
  obtain ⟨xs, m, _, _, hl, hlen, hf⟩ := DataW.trod_struct Try.underlying35 h
  have hl' : cs.length = 3 := hl.trans (by kernel_rfl)
  clear hl h
  match cs, hl' with
  | [c0, c1, c2], _ =>
    have f0 : DataW.trod enc Try.prog W base sp held m 33 [c0, c1] = _ := (show (([c0, c1, c2] : List Value).drop 0).take (Try.prog.cellsOf 33) = [c0, c1] from by rw [show Try.prog.cellsOf 33 = 2 from by kernel_rfl]; rfl) ▸ hf 0 _ rfl
    obtain ⟨z0, g0⟩ : ∃ z, xs[0]? = some z := ⟨_, List.getElem?_eq_getElem (by rw [hlen]; decide)⟩
    rw [g0] at f0
    have f1 : DataW.trod enc Try.prog W base sp held m 3 [c2] = _ := (show (([c0, c1, c2] : List Value).drop 2).take (Try.prog.cellsOf 3) = [c2] from by rw [show Try.prog.cellsOf 3 = 1 from by kernel_rfl]; rfl) ▸ hf 1 _ rfl
    obtain ⟨z1, g1⟩ : ∃ z, xs[1]? = some z := ⟨_, List.getElem?_eq_getElem (by rw [hlen]; decide)⟩
    rw [g1] at f1
    obtain ⟨v0, e0, w0⟩ := elem33 _ _ _ f0
    simp only [List.cons.injEq, and_true] at e0
    obtain ⟨rfl, rfl⟩ := e0
    obtain ⟨v1, e1, _, w1⟩ := DataW.trod_int Try.underlying3 f1
    simp only [List.cons.injEq, and_true] at e1
    obtain rfl := e1
    exact ⟨⟨v0, v1⟩, rfl, by (try dsimp only); (repeat' (first | apply And.intro)); all_goals (first | trivial | assumption | (first | exact w0.1 | exact w0.2 | exact w0.2.1 | exact w0.2.2))⟩
set_option maxRecDepth 100000 in
theorem lifted (os : Os) (started : os.Started) (H : Type) (enc : TypeId × Value → H) :
    ReturnsInHanded {} Try.checked os 13 .any (Rows.runsOrderSpec.pre6 enc Try.prog Try.f13 Rows.runsOrderRow.domain false) (Rows.runsOrderSpec.post enc Try.prog Try.f13 false true false false) := by
  refine returnsInHanded_of_change_sized (C := Try.checked) own started (by kernel_rfl) Try.func13
    (ChangeSpec.witness6 (enc := enc) (C := Try.checked) false ⟨#[], #[.slice none 0 0, .slice none 0 0], []⟩ 8 (by kernel_rfl) (by kernel_rfl) (by kernel_rfl) (by kernel_rfl)) ?_
  intro W base args ds gs before hval0 hW hcnd hsz0 _
  have hsz : (DataW.weightsEach Try.prog (Try.f13.params.toList ++ Rows.runsOrderSpec.plain.varTypes Try.prog) (ds ++ gs)).all (· ≤ reachBytes) = true := hsz0
  have hval : ∀ (j : Nat) t v, Try.f13.params[j]? = some t → args[j]? = some v → Value.okWide Try.prog W .any base t v := hval0
  have hW' := hW
  obtain ⟨p, q, hA0, hV, rfl, hfz, hnd⟩ := hW
  have hA : DataW.TrodAll enc Try.prog W 0 (fun _ => true) true Try.f13.params.toList args.toList ds p := hA0
  rw [Try.params13] at hA hval hsz
  obtain ⟨v0, vs0, d0, ds0, p0, q0, hargs, rfl, rfl, h0, r0⟩ := trodAll_cons hA
  obtain ⟨v1, vs1, d1, ds1, p1, q1, rfl, rfl, rfl, h1, r1⟩ := trodAll_cons r0
  obtain ⟨rfl, rfl, rfl⟩ := trodAll_nil r1
  obtain rfl : args = #[v0, v1] := by cases args; simp_all
  obtain ⟨rfl, rfl⟩ := trodVars_none hV
  have k0 := h0
  have lt0 : ∀ x ∈ p0, x.block < W.heap.size := by obtain ⟨m, hm⟩ := k0; exact DataW.trod_lt m _ _ _ hm
  obtain ⟨A0, len0, c0, rfl⟩ := okWide_slice Try.underlying28 (hval 0 28 v0 rfl rfl)
  have y0_ : len0 * 8 ≤ 140737488351232 := came_sized hsz (j := 0) (t := 28) rfl rfl Try.underlying28 (by kernel_rfl) h0
  obtain ⟨l0, rfl, hr0, hc0, m0_, q0_⟩ := came_row (0 : Int) (Kd.int .i64) (fun x : Int => (Lit.int .i64 x).wf = true) Try.underlying28 (by kernel_rfl) (fun n cs y h => by obtain ⟨b, e, _, q⟩ := DataW.trod_int Try.underlying3 h; subst e; exact ⟨b, rfl, q⟩) h0
  have k1 := h1
  have lt1 : ∀ x ∈ p1, x.block < W.heap.size := by obtain ⟨m, hm⟩ := k1; exact DataW.trod_lt m _ _ _ hm
  obtain ⟨A1, len1, c1, rfl⟩ := okWide_slice Try.underlying29 (hval 1 29 v1 rfl rfl)
  have y1_ : len1 * 24 ≤ 140737488351232 := came_sized hsz (j := 1) (t := 29) rfl rfl Try.underlying29 (by kernel_rfl) h1
  obtain ⟨l1, rfl, hr1, hc1, m1_, q1_⟩ := came_row (z35) k35 (fun x : S35 => (Lit.int .i64 x.f0.f0).wf = true ∧ (Lit.int .i64 x.f0.f1).wf = true ∧ (Lit.int .i64 x.f1).wf = true) Try.underlying29 (by kernel_rfl) (fun n cs y h => by obtain ⟨x, e, q⟩ := elem35 n cs y h; subst e; exact ⟨x, k35_mk W x, q⟩) h1
  clear hA0 hval0 hsz0 hsz
  refine (PRunsOrder.naskhlaw30_RunsOrder.walk Pure.RunsOrder A0 c0 l0 A1 c1 l1 W hr0 hc0 hr1 hc1 m0_ y0_ q0_ m1_ y1_ q1_).mono fun e W' ⟨he, bel⟩ => ?_
  subst he
  exact ⟨_, rfl, _, _, _, [], _, [], hW', trodAll_mk1 (shut_bool Try.underlying4 _), (trodAll_cons_mk (Below.trod laidOut (by kernel_rfl) (of_decide_eq_true (by kernel_rfl)) k0 bel lt0) (trodAll_cons_mk (Below.trod laidOut (by kernel_rfl) (of_decide_eq_true (by kernel_rfl)) k1 bel lt1) trodAll_mk0)), rfl, bel.frame _, fun h => by cases h⟩
theorem over : Rows.runsOrderRow.holds Try.pinned (OpenSpec.ofChange Rows.runsOrderSpec) :=
  OpenClaim.holds_of_wide 13 Try.f13 rfl rfl rfl rfl rfl rfl rfl ⟨rfl, rfl, rfl, rfl, rfl⟩ rfl rfl rfl rfl rfl (by kernel_rfl) Try.func13 (by kernel_rfl)
    (of_decide_eq_true (by kernel_rfl)) (by unfold Func.isWrapper; first | (rw [if_pos (by decide +kernel)]; kernel_rfl) | (rw [if_neg (by decide +kernel)]; exact ⟨rfl, rfl⟩))
    (fun os started H enc _ => lifted os started H enc)
theorem proved : Rows.RunsOrderSaid := over
#print axioms proved
end Go.Proofs.Ytjnhepgjkphkoaa.runsOrder
namespace Go.Proofs.Ytjnhepgjkphkoaa
/-- The row, under a short name, for the claim. -/
theorem runsOrder_holds : Rows.RunsOrderSaid := runsOrder.proved
end Go.Proofs.Ytjnhepgjkphkoaa
