-- The row of the law naskh/naskhlaw40.PackedAgain, out of its walk (a program of ours, after the print's own).
import Derived.Test.YtmkgihmchkphaaaRows
import Derived.Test.YtmkgihmchkphaaaPkS4
import Derived.Test.YtmkgihmchkphaaaMy10
import Derived.WalkKit
import Derived.ProofKit
import Derived.OpenShut
import Derived.ShutString
import Derived.ChangeOld
import Derived.Below
import Derived.SizedLaws
namespace Go.Proofs.Ytmkgihmchkphaaa.packedAgain
open Go.ChangeShapes Go.WideShapes Go.ChangeAt Go.RowKit Go.Proofs.YtmkgihmchkphaaaM Go.Proofs.YtmkgihmchkphaaaW.PrintWords Go.Proofs.Ytmkgihmchkphaaa.Stk
open Go.ChangeMaps (open_string shut_string)
set_option linter.unusedVariables false
theorem own : ownKnob Try.prog.godebug = none := by kernel_rfl
theorem laidOut : laidOutB Try.prog = true := by kernel_rfl
set_option maxRecDepth 100000 in
theorem elemR {H : Type} {enc : TypeId × Value → H} {W : World} {base : Nat} {sp : Nat → Bool} {held : Bool} (n : Nat) (cs : List Value) (y : DataW H × List MemPlace) (h : DataW.trod enc Try.prog W base sp held n 66 cs = some y) : ∃ x : Rg, cs = [.int .i64 x.lo, .int .i64 x.hi, .int .i64 x.va] := by
  obtain ⟨xs, m, _, _, hl, hlen, hf⟩ := DataW.trod_struct Try.underlying66 h
  have hl' : cs.length = 3 := hl.trans (by kernel_rfl)
  clear hl h
  match cs, hl' with
  | [c0, c1, c2], _ =>
    have f0 : DataW.trod enc Try.prog W base sp held m 3 [c0] = _ := (show (([c0, c1, c2] : List Value).drop 0).take (Try.prog.cellsOf 3) = [c0] from by rw [show Try.prog.cellsOf 3 = 1 from by kernel_rfl]; rfl) ▸ hf 0 _ rfl
    obtain ⟨z0, g0⟩ : ∃ z, xs[0]? = some z := ⟨_, List.getElem?_eq_getElem (by rw [hlen]; decide)⟩
    rw [g0] at f0
    have f1 : DataW.trod enc Try.prog W base sp held m 3 [c1] = _ := (show (([c0, c1, c2] : List Value).drop 1).take (Try.prog.cellsOf 3) = [c1] from by rw [show Try.prog.cellsOf 3 = 1 from by kernel_rfl]; rfl) ▸ hf 1 _ rfl
    obtain ⟨z1, g1⟩ : ∃ z, xs[1]? = some z := ⟨_, List.getElem?_eq_getElem (by rw [hlen]; decide)⟩
    rw [g1] at f1
    have f2 : DataW.trod enc Try.prog W base sp held m 3 [c2] = _ := (show (([c0, c1, c2] : List Value).drop 2).take (Try.prog.cellsOf 3) = [c2] from by rw [show Try.prog.cellsOf 3 = 1 from by kernel_rfl]; rfl) ▸ hf 2 _ rfl
    obtain ⟨z2, g2⟩ : ∃ z, xs[2]? = some z := ⟨_, List.getElem?_eq_getElem (by rw [hlen]; decide)⟩
    rw [g2] at f2
    obtain ⟨v0, e0, _, _⟩ := DataW.trod_int Try.underlying3 f0
    simp only [List.cons.injEq, and_true] at e0
    obtain rfl := e0
    obtain ⟨v1, e1, _, _⟩ := DataW.trod_int Try.underlying3 f1
    simp only [List.cons.injEq, and_true] at e1
    obtain rfl := e1
    obtain ⟨v2, e2, _, _⟩ := DataW.trod_int Try.underlying3 f2
    simp only [List.cons.injEq, and_true] at e2
    obtain rfl := e2
    exact ⟨⟨v0, v1, v2⟩, rfl⟩
set_option maxRecDepth 100000 in
theorem lifted (os : Os) (started : os.Started) (H : Type) (enc : TypeId × Value → H) :
    ReturnsInHanded {} Try.checked os 13 .any (Rows.packedAgainSpec.pre6 enc Try.prog Try.f13 Rows.packedAgainRow.domain false) (Rows.packedAgainSpec.post enc Try.prog Try.f13 false true false false) := by
  refine returnsInHanded_of_change_sized (C := Try.checked) own started (by kernel_rfl) Try.func13
    (ChangeSpec.witness6 (enc := enc) (C := Try.checked) false ⟨#[], #[.slice none 0 0, .int .i64 0, .slice none 0 0, .slice none 0 0], []⟩ 8 (by kernel_rfl) (by kernel_rfl) (by kernel_rfl) (by kernel_rfl)) ?_
  intro W base args ds gs before hval0 hW hcnd hsz0 _
  have hsz : (DataW.weightsEach Try.prog (Try.f13.params.toList ++ Rows.packedAgainSpec.plain.varTypes Try.prog) (ds ++ gs)).all (· ≤ reachBytes) = true := hsz0
  have hval : ∀ (j : Nat) t v, Try.f13.params[j]? = some t → args[j]? = some v → Value.okWide Try.prog W .any base t v := hval0
  have hW' := hW
  obtain ⟨p, q, hA0, hV, rfl, hfz, hnd⟩ := hW
  have hA : DataW.TrodAll enc Try.prog W 0 (fun _ => true) true Try.f13.params.toList args.toList ds p := hA0
  rw [Try.params13] at hA hval hsz
  obtain ⟨v0, vs0, d0, ds0, p0, q0, hargs, rfl, rfl, h0, r0⟩ := trodAll_cons hA
  obtain ⟨v1, vs1, d1, ds1, p1, q1, rfl, rfl, rfl, h1, r1⟩ := trodAll_cons r0
  obtain ⟨v2, vs2, d2, ds2, p2, q2, rfl, rfl, rfl, h2, r2⟩ := trodAll_cons r1
  obtain ⟨v3, vs3, d3, ds3, p3, q3, rfl, rfl, rfl, h3, r3⟩ := trodAll_cons r2
  obtain ⟨rfl, rfl, rfl⟩ := trodAll_nil r3
  obtain rfl : args = #[v0, v1, v2, v3] := by cases args; simp_all
  obtain ⟨rfl, rfl⟩ := trodVars_none hV
  have k0 := h0
  have lt0 : ∀ x ∈ p0, x.block < W.heap.size := by obtain ⟨m, hm⟩ := k0; exact DataW.trod_lt m _ _ _ hm
  obtain ⟨A0, len0, c0, rfl⟩ := okWide_slice Try.underlying59 (hval 0 59 v0 rfl rfl)
  have y0_ : len0 * 24 ≤ 140737488351232 := came_sized hsz (j := 0) (t := 59) rfl rfl Try.underlying59 (by kernel_rfl) h0
  obtain ⟨l0, rfl, hr0, hc0, m0_, q0_⟩ := came_row zR kR (fun _ : Rg => True) Try.underlying59 (by kernel_rfl) (fun n cs y h => by obtain ⟨x, e⟩ := elemR n cs y h; subst e; exact ⟨x, kR_mk W x, trivial⟩) h0
  have k1 := h1
  have lt1 : ∀ x ∈ p1, x.block < W.heap.size := by obtain ⟨m, hm⟩ := k1; exact DataW.trod_lt m _ _ _ hm
  obtain ⟨a1, rfl, rfl, rfl, w1_⟩ := open_int Try.underlying3 (hval 1 3 v1 rfl rfl) h1
  have k2 := h2
  have lt2 : ∀ x ∈ p2, x.block < W.heap.size := by obtain ⟨m, hm⟩ := k2; exact DataW.trod_lt m _ _ _ hm
  obtain ⟨A2, len2, c2, rfl⟩ := okWide_slice Try.underlying39 (hval 2 39 v2 rfl rfl)
  obtain ⟨l2, rfl, hr2, hc2, m2_, q2_⟩ := came_row (0 : Int) (Kd.int .u8) (fun x : Int => 0 ≤ x ∧ x < 256) Try.underlying39 (by kernel_rfl) (fun n cs y h => by obtain ⟨b, e, _, q⟩ := DataW.trod_int Try.underlying5 h; subst e; exact ⟨b, rfl, by have q := (Bool.and_eq_true _ _).mp q; have q1 := of_decide_eq_true q.1; have q2 := of_decide_eq_true q.2; simp [IntKind.min, IntKind.max, IntKind.bits, IntKind.signed] at q1 q2; omega⟩) h2
  have k3 := h3
  have lt3 : ∀ x ∈ p3, x.block < W.heap.size := by obtain ⟨m, hm⟩ := k3; exact DataW.trod_lt m _ _ _ hm
  obtain ⟨A3, len3, c3, rfl⟩ := okWide_slice Try.underlying22 (hval 3 22 v3 rfl rfl)
  obtain ⟨l3, rfl, hr3, hc3, m3_, q3_⟩ := came_row (0 : Int) (Kd.int .i64) (fun _ : Int => True) Try.underlying22 (by kernel_rfl) (fun n cs y h => by obtain ⟨b, e, _, _⟩ := DataW.trod_int Try.underlying3 h; subst e; exact ⟨b, rfl, trivial⟩) h3
  clear hA0 hval0 hsz0 hsz
  refine (Stk.p_pagain A0 c0 l0 a1 A2 c2 l2 A3 c3 l3 W hr0 hc0 (by omega) hr2 hc2 q2_ hr3 hc3).mono fun e W' ⟨he, bel⟩ => ?_
  subst he
  exact ⟨_, rfl, _, _, _, [], _, [], hW', trodAll_mk1 (shut_bool Try.underlying4 _), (trodAll_cons_mk (Below.trod laidOut (by kernel_rfl) (of_decide_eq_true (by kernel_rfl)) k0 bel lt0) (trodAll_cons_mk (Below.trod laidOut (by kernel_rfl) (of_decide_eq_true (by kernel_rfl)) k1 bel lt1) (trodAll_cons_mk (Below.trod laidOut (by kernel_rfl) (of_decide_eq_true (by kernel_rfl)) k2 bel lt2) (trodAll_cons_mk (Below.trod laidOut (by kernel_rfl) (of_decide_eq_true (by kernel_rfl)) k3 bel lt3) trodAll_mk0)))), rfl, bel.frame _, fun h => by cases h⟩
theorem over : Rows.packedAgainRow.holds Try.pinned (OpenSpec.ofChange Rows.packedAgainSpec) :=
  OpenClaim.holds_of_wide 13 Try.f13 rfl rfl rfl rfl rfl rfl rfl ⟨rfl, rfl, rfl, rfl, rfl⟩ rfl rfl rfl rfl rfl (by kernel_rfl) Try.func13 (by kernel_rfl)
    (of_decide_eq_true (by kernel_rfl)) (by unfold Func.isWrapper; first | (rw [if_pos (by decide +kernel)]; kernel_rfl) | (rw [if_neg (by decide +kernel)]; exact ⟨rfl, rfl⟩))
    (fun os started H enc _ => lifted os started H enc)
theorem proved : Rows.PackedAgainSaid := over
#print axioms proved
end Go.Proofs.Ytmkgihmchkphaaa.packedAgain
namespace Go.Proofs.Ytmkgihmchkphaaa
/-- The row, under a short name, for the claim. -/
theorem packedAgain_holds : Rows.PackedAgainSaid := packedAgain.proved
end Go.Proofs.Ytmkgihmchkphaaa
