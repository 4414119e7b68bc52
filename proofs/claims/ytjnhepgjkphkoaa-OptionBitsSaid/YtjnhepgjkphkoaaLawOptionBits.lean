import Derived.Test.YtjnhepgjkphkoaaRows
import Derived.Test.YtjnhepgjkphkoaaPOptionBitsx7
import Derived.Test.YtjnhepgjkphkoaaPureOptionBits
import Derived.Test.YtjnhepgjkphkoaaVOptionBitsMy10
import Derived.WalkKit
import Derived.ProofKit
import Derived.OpenShut
import Derived.ShutString
import Derived.ChangeOld
import Derived.Below
import Derived.SizedLaws
namespace Go.Proofs.Ytjnhepgjkphkoaa.optionBits
open Go.ChangeShapes Go.WideShapes Go.ChangeAt Go.RowKit Go.Proofs.YtjnhepgjkphkoaaM Go.Proofs.YtjnhepgjkphkoaaW.PrintWords Go.Proofs.Ytjnhepgjkphkoaa.POptionBits
open Go.ChangeMaps (open_string shut_string)
set_option linter.unusedVariables false
theorem own : ownKnob Try.prog.godebug = none := by kernel_rfl
theorem laidOut : laidOutB Try.prog = true := by kernel_rfl
structure S23 where
  f0 : Int
  f1 : Int
  f2 : Int
  f3 : Int
  f4 : Bool
  f5 : Bool
  f6 : Bool
  f7 : Bool
  f8 : Bool
  f9 : Bool
  f10 : Bool
  f11 : Bool
  f12 : Bool
  f13 : Bool
theorem elem23 {H : Type} {enc : TypeId × Value → H} {W : World} {base : Nat} {sp : Nat → Bool} {held : Bool} (n : Nat) (cs : List Value) (y : DataW H × List MemPlace) (h : DataW.trod enc Try.prog W base sp held n 23 cs = some y) : ∃ x : S23, cs = [.int .i64 x.f0, .int .i64 x.f1, .int .i64 x.f2, .int .i64 x.f3, .bool x.f4, .bool x.f5, .bool x.f6, .bool x.f7, .bool x.f8, .bool x.f9, .bool x.f10, .bool x.f11, .bool x.f12, .bool x.f13] ∧ (fun x : S23 => (Lit.int .i64 x.f0).wf = true ∧ (Lit.int .i64 x.f1).wf = true ∧ (Lit.int .i64 x.f2).wf = true ∧ (Lit.int .i64 x.f3).wf = true) x := by
  obtain ⟨xs, m, _, _, hl, hlen, hf⟩ := DataW.trod_struct Try.underlying23 h
  have hl' : cs.length = 14 := hl.trans (by kernel_rfl)
  clear hl h
  match cs, hl' with
  | [c0, c1, c2, c3, c4, c5, c6, c7, c8, c9, c10, c11, c12, c13], _ =>
    have f0 : DataW.trod enc Try.prog W base sp held m 3 [c0] = _ := (show (([c0, c1, c2, c3, c4, c5, c6, c7, c8, c9, c10, c11, c12, c13] : List Value).drop 0).take (Try.prog.cellsOf 3) = [c0] from by rw [show Try.prog.cellsOf 3 = 1 from by kernel_rfl]; rfl) ▸ hf 0 _ rfl
    obtain ⟨z0, g0⟩ : ∃ z, xs[0]? = some z := ⟨_, List.getElem?_eq_getElem (by rw [hlen]; decide)⟩
    rw [g0] at f0
    have f1 : DataW.trod enc Try.prog W base sp held m 3 [c1] = _ := (show (([c0, c1, c2, c3, c4, c5, c6, c7, c8, c9, c10, c11, c12, c13] : List Value).drop 1).take (Try.prog.cellsOf 3) = [c1] from by rw [show Try.prog.cellsOf 3 = 1 from by kernel_rfl]; rfl) ▸ hf 1 _ rfl
    obtain ⟨z1, g1⟩ : ∃ z, xs[1]? = some z := ⟨_, List.getElem?_eq_getElem (by rw [hlen]; decide)⟩
    rw [g1] at f1
    have f2 : DataW.trod enc Try.prog W base sp held m 3 [c2] = _ := (show (([c0, c1, c2, c3, c4, c5, c6, c7, c8, c9, c10, c11, c12, c13] : List Value).drop 2).take (Try.prog.cellsOf 3) = [c2] from by rw [show Try.prog.cellsOf 3 = 1 from by kernel_rfl]; rfl) ▸ hf 2 _ rfl
    obtain ⟨z2, g2⟩ : ∃ z, xs[2]? = some z := ⟨_, List.getElem?_eq_getElem (by rw [hlen]; decide)⟩
    rw [g2] at f2
    have f3 : DataW.trod enc Try.prog W base sp held m 3 [c3] = _ := (show (([c0, c1, c2, c3, c4, c5, c6, c7, c8, c9, c10, c11, c12, c13] : List Value).drop 3).take (Try.prog.cellsOf 3) = [c3] from by rw [show Try.prog.cellsOf 3 = 1 from by kernel_rfl]; rfl) ▸ hf 3 _ rfl
    obtain ⟨z3, g3⟩ : ∃ z, xs[3]? = some z := ⟨_, List.getElem?_eq_getElem (by rw [hlen]; decide)⟩
    rw [g3] at f3
    have f4 : DataW.trod enc Try.prog W base sp held m 4 [c4] = _ := (show (([c0, c1, c2, c3, c4, c5, c6, c7, c8, c9, c10, c11, c12, c13] : List Value).drop 4).take (Try.prog.cellsOf 4) = [c4] from by rw [show Try.prog.cellsOf 4 = 1 from by kernel_rfl]; rfl) ▸ hf 4 _ rfl
    obtain ⟨z4, g4⟩ : ∃ z, xs[4]? = some z := ⟨_, List.getElem?_eq_getElem (by rw [hlen]; decide)⟩
    rw [g4] at f4
    have f5 : DataW.trod enc Try.prog W base sp held m 4 [c5] = _ := (show (([c0, c1, c2, c3, c4, c5, c6, c7, c8, c9, c10, c11, c12, c13] : List Value).drop 5).take (Try.prog.cellsOf 4) = [c5] from by rw [show Try.prog.cellsOf 4 = 1 from by kernel_rfl]; rfl) ▸ hf 5 _ rfl
    obtain ⟨z5, g5⟩ : ∃ z, xs[5]? = some z := ⟨_, List.getElem?_eq_getElem (by rw [hlen]; decide)⟩
    rw [g5] at f5
    have f6 : DataW.trod enc Try.prog W base sp held m 4 [c6] = _ := (show (([c0, c1, c2, c3, c4, c5, c6, c7, c8, c9, c10, c11, c12, c13] : List Value).drop 6).take (Try.prog.cellsOf 4) = [c6] from by rw [show Try.prog.cellsOf 4 = 1 from by kernel_rfl]; rfl) ▸ hf 6 _ rfl
    obtain ⟨z6, g6⟩ : ∃ z, xs[6]? = some z := ⟨_, List.getElem?_eq_getElem (by rw [hlen]; decide)⟩
    rw [g6] at f6
    have f7 : DataW.trod enc Try.prog W base sp held m 4 [c7] = _ := (show (([c0, c1, c2, c3, c4, c5, c6, c7, c8, c9, c10, c11, c12, c13] : List Value).drop 7).take (Try.prog.cellsOf 4) = [c7] from by rw [show Try.prog.cellsOf 4 = 1 from by kernel_rfl]; rfl) ▸ hf 7 _ rfl
    obtain ⟨z7, g7⟩ : ∃ z, xs[7]? = some z := ⟨_, List.getElem?_eq_getElem (by rw [hlen]; decide)⟩
    rw [g7] at f7
    have f8 : DataW.trod enc Try.prog W base sp held m 4 [c8] = _ := (show (([c0, c1, c2, c3, c4, c5, c6, c7, c8, c9, c10, c11, c12, c13] : List Value).drop 8).take (Try.prog.cellsOf 4) = [c8] from by rw [show Try.prog.cellsOf 4 = 1 from by kernel_rfl]; rfl) ▸ hf 8 _ rfl
    obtain ⟨z8, g8⟩ : ∃ z, xs[8]? = some z := ⟨_, List.getElem?_eq_getElem (by rw [hlen]; decide)⟩
    rw [g8] at f8
    have f9 : DataW.trod enc Try.prog W base sp held m 4 [c9] = _ := (show (([c0, c1, c2, c3, c4, c5, c6, c7, c8, c9, c10, c11, c12, c13] : List Value).drop 9).take (Try.prog.cellsOf 4) = [c9] from by rw [show Try.prog.cellsOf 4 = 1 from by kernel_rfl]; rfl) ▸ hf 9 _ rfl
    obtain ⟨z9, g9⟩ : ∃ z, xs[9]? = some z := ⟨_, List.getElem?_eq_getElem (by rw [hlen]; decide)⟩
    rw [g9] at f9
    have f10 : DataW.trod enc Try.prog W base sp held m 4 [c10] = _ := (show (([c0, c1, c2, c3, c4, c5, c6, c7, c8, c9, c10, c11, c12, c13] : List Value).drop 10).take (Try.prog.cellsOf 4) = [c10] from by rw [show Try.prog.cellsOf 4 = 1 from by kernel_rfl]; rfl) ▸ hf 10 _ rfl
    obtain ⟨z10, g10⟩ : ∃ z, xs[10]? = some z := ⟨_, List.getElem?_eq_getElem (by rw [hlen]; decide)⟩
    rw [g10] at f10
    have f11 : DataW.trod enc Try.prog W base sp held m 4 [c11] = _ := (show (([c0, c1, c2, c3, c4, c5, c6, c7, c8, c9, c10, c11, c12, c13] : List Value).drop 11).take (Try.prog.cellsOf 4) = [c11] from by rw [show Try.prog.cellsOf 4 = 1 from by kernel_rfl]; rfl) ▸ hf 11 _ rfl
    obtain ⟨z11, g11⟩ : ∃ z, xs[11]? = some z := ⟨_, List.getElem?_eq_getElem (by rw [hlen]; decide)⟩
    rw [g11] at f11
    have f12 : DataW.trod enc Try.prog W base sp held m 4 [c12] = _ := (show (([c0, c1, c2, c3, c4, c5, c6, c7, c8, c9, c10, c11, c12, c13] : List Value).drop 12).take (Try.prog.cellsOf 4) = [c12] from by rw [show Try.prog.cellsOf 4 = 1 from by kernel_rfl]; rfl) ▸ hf 12 _ rfl
    obtain ⟨z12, g12⟩ : ∃ z, xs[12]? = some z := ⟨_, List.getElem?_eq_getElem (by rw [hlen]; decide)⟩
    rw [g12] at f12
    have f13 : DataW.trod enc Try.prog W base sp held m 4 [c13] = _ := (show (([c0, c1, c2, c3, c4, c5, c6, c7, c8, c9, c10, c11, c12, c13] : List Value).drop 13).take (Try.prog.cellsOf 4) = [c13] from by rw [show Try.prog.cellsOf 4 = 1 from by kernel_rfl]; rfl) ▸ hf 13 _ rfl
    obtain ⟨z13, g13⟩ : ∃ z, xs[13]? = some z := ⟨_, List.getElem?_eq_getElem (by rw [hlen]; decide)⟩
    rw [g13] at f13
    obtain ⟨v0, e0, _, w0⟩ := DataW.trod_int Try.underlying3 f0
    simp only [List.cons.injEq, and_true] at e0
    obtain rfl := e0
    obtain ⟨v1, e1, _, w1⟩ := DataW.trod_int Try.underlying3 f1
    simp only [List.cons.injEq, and_true] at e1
    obtain rfl := e1
    obtain ⟨v2, e2, _, w2⟩ := DataW.trod_int Try.underlying3 f2
    simp only [List.cons.injEq, and_true] at e2
    obtain rfl := e2
    obtain ⟨v3, e3, _, w3⟩ := DataW.trod_int Try.underlying3 f3
    simp only [List.cons.injEq, and_true] at e3
    obtain rfl := e3
    obtain ⟨v4, e4, _⟩ := DataW.trod_bool Try.underlying4 f4
    simp only [List.cons.injEq, and_true] at e4
    obtain rfl := e4
    obtain ⟨v5, e5, _⟩ := DataW.trod_bool Try.underlying4 f5
    simp only [List.cons.injEq, and_true] at e5
    obtain rfl := e5
    obtain ⟨v6, e6, _⟩ := DataW.trod_bool Try.underlying4 f6
    simp only [List.cons.injEq, and_true] at e6
    obtain rfl := e6
    obtain ⟨v7, e7, _⟩ := DataW.trod_bool Try.underlying4 f7
    simp only [List.cons.injEq, and_true] at e7
    obtain rfl := e7
    obtain ⟨v8, e8, _⟩ := DataW.trod_bool Try.underlying4 f8
    simp only [List.cons.injEq, and_true] at e8
    obtain rfl := e8
    obtain ⟨v9, e9, _⟩ := DataW.trod_bool Try.underlying4 f9
    simp only [List.cons.injEq, and_true] at e9
    obtain rfl := e9
    obtain ⟨v10, e10, _⟩ := DataW.trod_bool Try.underlying4 f10
    simp only [List.cons.injEq, and_true] at e10
    obtain rfl := e10
    obtain ⟨v11, e11, _⟩ := DataW.trod_bool Try.underlying4 f11
    simp only [List.cons.injEq, and_true] at e11
    obtain rfl := e11
    obtain ⟨v12, e12, _⟩ := DataW.trod_bool Try.underlying4 f12
    simp only [List.cons.injEq, and_true] at e12
    obtain rfl := e12
    obtain ⟨v13, e13, _⟩ := DataW.trod_bool Try.underlying4 f13
    simp only [List.cons.injEq, and_true] at e13
    obtain rfl := e13
    exact ⟨⟨v0, v1, v2, v3, v4, v5, v6, v7, v8, v9, v10, v11, v12, v13⟩, rfl, by (try dsimp only); (repeat' (first | apply And.intro)); all_goals (first | trivial | assumption | (first | exact trivial))⟩
set_option maxRecDepth 100000 in
theorem lifted (os : Os) (started : os.Started) (H : Type) (enc : TypeId × Value → H) :
    ReturnsInHanded {} Try.checked os 9 .any (Rows.optionBitsSpec.pre6 enc Try.prog Try.f9 Rows.optionBitsRow.domain false) (Rows.optionBitsSpec.post enc Try.prog Try.f9 false true false false) := by
  refine returnsInHanded_of_change_sized (C := Try.checked) own started (by kernel_rfl) Try.func9
    (ChangeSpec.witness6 (enc := enc) (C := Try.checked) false ⟨#[], #[.agg #[.int .i64 0, .int .i64 0, .int .i64 0, .int .i64 0, .bool false, .bool false, .bool false, .bool false, .bool false, .bool false, .bool false, .bool false, .bool false, .bool false], .int .i64 0], []⟩ 8 (by kernel_rfl) (by kernel_rfl) (by kernel_rfl) (by kernel_rfl)) ?_
  intro W base args ds gs before hval0 hW hcnd hsz0 _
  have hsz : (DataW.weightsEach Try.prog (Try.f9.params.toList ++ Rows.optionBitsSpec.plain.varTypes Try.prog) (ds ++ gs)).all (· ≤ reachBytes) = true := hsz0
  have hval : ∀ (j : Nat) t v, Try.f9.params[j]? = some t → args[j]? = some v → Value.okWide Try.prog W .any base t v := hval0
  have hW' := hW
  obtain ⟨p, q, hA0, hV, rfl, hfz, hnd⟩ := hW
  have hA : DataW.TrodAll enc Try.prog W 0 (fun _ => true) true Try.f9.params.toList args.toList ds p := hA0
  rw [Try.params9] at hA hval hsz
  obtain ⟨v0, vs0, d0, ds0, p0, q0, hargs, rfl, rfl, h0, r0⟩ := trodAll_cons hA
  obtain ⟨v1, vs1, d1, ds1, p1, q1, rfl, rfl, rfl, h1, r1⟩ := trodAll_cons r0
  obtain ⟨rfl, rfl, rfl⟩ := trodAll_nil r1
  obtain rfl : args = #[v0, v1] := by cases args; simp_all
  obtain ⟨rfl, rfl⟩ := trodVars_none hV
  have k0 := h0
  have lt0 : ∀ x ∈ p0, x.block < W.heap.size := by obtain ⟨m, hm⟩ := k0; exact DataW.trod_lt m _ _ _ hm
  obtain ⟨cs0, rfl⟩ := okWide_struct_ Try.underlying23 (hval 0 23 v0 rfl rfl)
  obtain ⟨fuel0, hf0⟩ := h0
  obtain ⟨x0, ex0, qx0⟩ := elem23 _ _ _ hf0
  have ey0 : cs0 = _ := arr_of_list_ ex0
  subst ey0
  clear ex0
  have w0_0_ := qx0.1
  have w0_1_ := qx0.2.1
  have w0_2_ := qx0.2.2.1
  have w0_3_ := qx0.2.2.2
  have k1 := h1
  have lt1 : ∀ x ∈ p1, x.block < W.heap.size := by obtain ⟨m, hm⟩ := k1; exact DataW.trod_lt m _ _ _ hm
  obtain ⟨a1, rfl, rfl, rfl, w1_⟩ := open_int Try.underlying3 (hval 1 3 v1 rfl rfl) h1
  clear hA0 hval0 hsz0 hsz
  refine (POptionBits.naskhlaw10_OptionBits.walk Pure.OptionBits x0.f0 x0.f1 x0.f2 x0.f3 x0.f4 x0.f5 x0.f6 x0.f7 x0.f8 x0.f9 x0.f10 x0.f11 x0.f12 x0.f13 a1 W  w0_0_ w0_1_ w0_2_ w0_3_ w1_).mono fun e W' ⟨he, bel⟩ => ?_
  subst he
  exact ⟨_, rfl, _, _, _, [], _, [], hW', trodAll_mk1 (shut_bool Try.underlying4 _), (trodAll_cons_mk (Below.trod laidOut (by kernel_rfl) (of_decide_eq_true (by kernel_rfl)) k0 bel lt0) (trodAll_cons_mk (Below.trod laidOut (by kernel_rfl) (of_decide_eq_true (by kernel_rfl)) k1 bel lt1) trodAll_mk0)), rfl, bel.frame _, fun h => by cases h⟩
theorem over : Rows.optionBitsRow.holds Try.pinned (OpenSpec.ofChange Rows.optionBitsSpec) :=
  OpenClaim.holds_of_wide 9 Try.f9 rfl rfl rfl rfl rfl rfl rfl ⟨rfl, rfl, rfl, rfl, rfl⟩ rfl rfl rfl rfl rfl (by kernel_rfl) Try.func9 (by kernel_rfl)
    (of_decide_eq_true (by kernel_rfl)) (by unfold Func.isWrapper; first | (rw [if_pos (by decide +kernel)]; kernel_rfl) | (rw [if_neg (by decide +kernel)]; exact ⟨rfl, rfl⟩))
    (fun os started H enc _ => lifted os started H enc)
theorem proved : Rows.OptionBitsSaid := over
#print axioms proved
end Go.Proofs.Ytjnhepgjkphkoaa.optionBits
namespace Go.Proofs.Ytjnhepgjkphkoaa
theorem optionBits_holds : Rows.OptionBitsSaid := optionBits.proved
end Go.Proofs.Ytjnhepgjkphkoaa
