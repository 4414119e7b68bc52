import Derived.Test.YtknghhlielhleaaDoorRows
import Derived.Test.YtknghhlielhleaaDoorCards
import Derived.Test.YtknghhlielhleaaDoorTie
import Derived.Test.YtknghhlielhleaaDoorSpB2
import Derived.Test.YtknghhlielhleaaDoorMy10
import Derived.WalkKit
import Derived.ProofKit
import Derived.Lay
import Derived.LaidOnce
import Derived.SevenTiedAt
import Derived.OpenShut
import Derived.ShutString
import Derived.ChangeOld
import Derived.Below
import Derived.SizedLaws
namespace Go.Proofs.YtknghhlielhleaaDoor.spellBack
open Go.ChangeShapes Go.WideShapes Go.ChangeAt Go.RowKit Go.Lib Go.Proofs.YtknghhlielhleaaDoorW.PrintWords Go.Proofs.YtknghhlielhleaaDoor.Stk
open Go.ChangeMaps (open_string shut_string)
set_option linter.unusedVariables false
theorem own : ownKnob Tryd.prog.godebug = none := by kernel_rfl
theorem laidOut : laidOutB Tryd.prog = true := by kernel_rfl
open Go.Proofs.YtknghhlielhleaaDoorM
theorem b1_ (b : Bool) : ((if b = true then (1 : Int) else 0) == 1) = b := by cases b <;> rfl
set_option maxRecDepth 100000 in
theorem elemO {H : Type} {enc : TypeId × Value → H} {W : World} {base : Nat} {sp : Nat → Bool} {held : Bool} (n : Nat) (cs : List Value) (y : DataW H × List MemPlace) (h : DataW.trod enc Tryd.prog W base sp held n 24 cs = some y) : ∃ v : Nat → Int, cs = (ovc v).toList ∧ ∀ i, i < 4 → (Lit.int .i64 (v i)).wf = true := by
  obtain ⟨xs, m, _, _, hl, hlen, hf⟩ := DataW.trod_struct Tryd.underlying24 h
  have hl' : cs.length = 14 := hl.trans (by kernel_rfl)
  clear hl h
  match cs, hl' with
  | [c0, c1, c2, c3, c4, c5, c6, c7, c8, c9, c10, c11, c12, c13], _ =>
    have f0 : DataW.trod enc Tryd.prog W base sp held m 3 [c0] = _ := (show (([c0, c1, c2, c3, c4, c5, c6, c7, c8, c9, c10, c11, c12, c13] : List Value).drop 0).take (Tryd.prog.cellsOf 3) = [c0] from by rw [show Tryd.prog.cellsOf 3 = 1 from by kernel_rfl]; rfl) ▸ hf 0 _ rfl
    obtain ⟨z0, g0⟩ : ∃ z, xs[0]? = some z := ⟨_, List.getElem?_eq_getElem (by rw [hlen]; decide)⟩
    rw [g0] at f0
    have f1 : DataW.trod enc Tryd.prog W base sp held m 3 [c1] = _ := (show (([c0, c1, c2, c3, c4, c5, c6, c7, c8, c9, c10, c11, c12, c13] : List Value).drop 1).take (Tryd.prog.cellsOf 3) = [c1] from by rw [show Tryd.prog.cellsOf 3 = 1 from by kernel_rfl]; rfl) ▸ hf 1 _ rfl
    obtain ⟨z1, g1⟩ : ∃ z, xs[1]? = some z := ⟨_, List.getElem?_eq_getElem (by rw [hlen]; decide)⟩
    rw [g1] at f1
    have f2 : DataW.trod enc Tryd.prog W base sp held m 3 [c2] = _ := (show (([c0, c1, c2, c3, c4, c5, c6, c7, c8, c9, c10, c11, c12, c13] : List Value).drop 2).take (Tryd.prog.cellsOf 3) = [c2] from by rw [show Tryd.prog.cellsOf 3 = 1 from by kernel_rfl]; rfl) ▸ hf 2 _ rfl
    obtain ⟨z2, g2⟩ : ∃ z, xs[2]? = some z := ⟨_, List.getElem?_eq_getElem (by rw [hlen]; decide)⟩
    rw [g2] at f2
    have f3 : DataW.trod enc Tryd.prog W base sp held m 3 [c3] = _ := (show (([c0, c1, c2, c3, c4, c5, c6, c7, c8, c9, c10, c11, c12, c13] : List Value).drop 3).take (Tryd.prog.cellsOf 3) = [c3] from by rw [show Tryd.prog.cellsOf 3 = 1 from by kernel_rfl]; rfl) ▸ hf 3 _ rfl
    obtain ⟨z3, g3⟩ : ∃ z, xs[3]? = some z := ⟨_, List.getElem?_eq_getElem (by rw [hlen]; decide)⟩
    rw [g3] at f3
    have f4 : DataW.trod enc Tryd.prog W base sp held m 4 [c4] = _ := (show (([c0, c1, c2, c3, c4, c5, c6, c7, c8, c9, c10, c11, c12, c13] : List Value).drop 4).take (Tryd.prog.cellsOf 4) = [c4] from by rw [show Tryd.prog.cellsOf 4 = 1 from by kernel_rfl]; rfl) ▸ hf 4 _ rfl
    obtain ⟨z4, g4⟩ : ∃ z, xs[4]? = some z := ⟨_, List.getElem?_eq_getElem (by rw [hlen]; decide)⟩
    rw [g4] at f4
    have f5 : DataW.trod enc Tryd.prog W base sp held m 4 [c5] = _ := (show (([c0, c1, c2, c3, c4, c5, c6, c7, c8, c9, c10, c11, c12, c13] : List Value).drop 5).take (Tryd.prog.cellsOf 4) = [c5] from by rw [show Tryd.prog.cellsOf 4 = 1 from by kernel_rfl]; rfl) ▸ hf 5 _ rfl
    obtain ⟨z5, g5⟩ : ∃ z, xs[5]? = some z := ⟨_, List.getElem?_eq_getElem (by rw [hlen]; decide)⟩
    rw [g5] at f5
    have f6 : DataW.trod enc Tryd.prog W base sp held m 4 [c6] = _ := (show (([c0, c1, c2, c3, c4, c5, c6, c7, c8, c9, c10, c11, c12, c13] : List Value).drop 6).take (Tryd.prog.cellsOf 4) = [c6] from by rw [show Tryd.prog.cellsOf 4 = 1 from by kernel_rfl]; rfl) ▸ hf 6 _ rfl
    obtain ⟨z6, g6⟩ : ∃ z, xs[6]? = some z := ⟨_, List.getElem?_eq_getElem (by rw [hlen]; decide)⟩
    rw [g6] at f6
    have f7 : DataW.trod enc Tryd.prog W base sp held m 4 [c7] = _ := (show (([c0, c1, c2, c3, c4, c5, c6, c7, c8, c9, c10, c11, c12, c13] : List Value).drop 7).take (Tryd.prog.cellsOf 4) = [c7] from by rw [show Tryd.prog.cellsOf 4 = 1 from by kernel_rfl]; rfl) ▸ hf 7 _ rfl
    obtain ⟨z7, g7⟩ : ∃ z, xs[7]? = some z := ⟨_, List.getElem?_eq_getElem (by rw [hlen]; decide)⟩
    rw [g7] at f7
    have f8 : DataW.trod enc Tryd.prog W base sp held m 4 [c8] = _ := (show (([c0, c1, c2, c3, c4, c5, c6, c7, c8, c9, c10, c11, c12, c13] : List Value).drop 8).take (Tryd.prog.cellsOf 4) = [c8] from by rw [show Tryd.prog.cellsOf 4 = 1 from by kernel_rfl]; rfl) ▸ hf 8 _ rfl
    obtain ⟨z8, g8⟩ : ∃ z, xs[8]? = some z := ⟨_, List.getElem?_eq_getElem (by rw [hlen]; decide)⟩
    rw [g8] at f8
    have f9 : DataW.trod enc Tryd.prog W base sp held m 4 [c9] = _ := (show (([c0, c1, c2, c3, c4, c5, c6, c7, c8, c9, c10, c11, c12, c13] : List Value).drop 9).take (Tryd.prog.cellsOf 4) = [c9] from by rw [show Tryd.prog.cellsOf 4 = 1 from by kernel_rfl]; rfl) ▸ hf 9 _ rfl
    obtain ⟨z9, g9⟩ : ∃ z, xs[9]? = some z := ⟨_, List.getElem?_eq_getElem (by rw [hlen]; decide)⟩
    rw [g9] at f9
    have f10 : DataW.trod enc Tryd.prog W base sp held m 4 [c10] = _ := (show (([c0, c1, c2, c3, c4, c5, c6, c7, c8, c9, c10, c11, c12, c13] : List Value).drop 10).take (Tryd.prog.cellsOf 4) = [c10] from by rw [show Tryd.prog.cellsOf 4 = 1 from by kernel_rfl]; rfl) ▸ hf 10 _ rfl
    obtain ⟨z10, g10⟩ : ∃ z, xs[10]? = some z := ⟨_, List.getElem?_eq_getElem (by rw [hlen]; decide)⟩
    rw [g10] at f10
    have f11 : DataW.trod enc Tryd.prog W base sp held m 4 [c11] = _ := (show (([c0, c1, c2, c3, c4, c5, c6, c7, c8, c9, c10, c11, c12, c13] : List Value).drop 11).take (Tryd.prog.cellsOf 4) = [c11] from by rw [show Tryd.prog.cellsOf 4 = 1 from by kernel_rfl]; rfl) ▸ hf 11 _ rfl
    obtain ⟨z11, g11⟩ : ∃ z, xs[11]? = some z := ⟨_, List.getElem?_eq_getElem (by rw [hlen]; decide)⟩
    rw [g11] at f11
    have f12 : DataW.trod enc Tryd.prog W base sp held m 4 [c12] = _ := (show (([c0, c1, c2, c3, c4, c5, c6, c7, c8, c9, c10, c11, c12, c13] : List Value).drop 12).take (Tryd.prog.cellsOf 4) = [c12] from by rw [show Tryd.prog.cellsOf 4 = 1 from by kernel_rfl]; rfl) ▸ hf 12 _ rfl
    obtain ⟨z12, g12⟩ : ∃ z, xs[12]? = some z := ⟨_, List.getElem?_eq_getElem (by rw [hlen]; decide)⟩
    rw [g12] at f12
    have f13 : DataW.trod enc Tryd.prog W base sp held m 4 [c13] = _ := (show (([c0, c1, c2, c3, c4, c5, c6, c7, c8, c9, c10, c11, c12, c13] : List Value).drop 13).take (Tryd.prog.cellsOf 4) = [c13] from by rw [show Tryd.prog.cellsOf 4 = 1 from by kernel_rfl]; rfl) ▸ hf 13 _ rfl
    obtain ⟨z13, g13⟩ : ∃ z, xs[13]? = some z := ⟨_, List.getElem?_eq_getElem (by rw [hlen]; decide)⟩
    rw [g13] at f13
    obtain ⟨v0, e0, _, w0⟩ := DataW.trod_int Tryd.underlying3 f0
    simp only [List.cons.injEq, and_true] at e0
    obtain rfl := e0
    obtain ⟨v1, e1, _, w1⟩ := DataW.trod_int Tryd.underlying3 f1
    simp only [List.cons.injEq, and_true] at e1
    obtain rfl := e1
    obtain ⟨v2, e2, _, w2⟩ := DataW.trod_int Tryd.underlying3 f2
    simp only [List.cons.injEq, and_true] at e2
    obtain rfl := e2
    obtain ⟨v3, e3, _, w3⟩ := DataW.trod_int Tryd.underlying3 f3
    simp only [List.cons.injEq, and_true] at e3
    obtain rfl := e3
    obtain ⟨v4, e4, _⟩ := DataW.trod_bool Tryd.underlying4 f4
    simp only [List.cons.injEq, and_true] at e4
    obtain rfl := e4
    obtain ⟨v5, e5, _⟩ := DataW.trod_bool Tryd.underlying4 f5
    simp only [List.cons.injEq, and_true] at e5
    obtain rfl := e5
    obtain ⟨v6, e6, _⟩ := DataW.trod_bool Tryd.underlying4 f6
    simp only [List.cons.injEq, and_true] at e6
    obtain rfl := e6
    obtain ⟨v7, e7, _⟩ := DataW.trod_bool Tryd.underlying4 f7
    simp only [List.cons.injEq, and_true] at e7
    obtain rfl := e7
    obtain ⟨v8, e8, _⟩ := DataW.trod_bool Tryd.underlying4 f8
    simp only [List.cons.injEq, and_true] at e8
    obtain rfl := e8
    obtain ⟨v9, e9, _⟩ := DataW.trod_bool Tryd.underlying4 f9
    simp only [List.cons.injEq, and_true] at e9
    obtain rfl := e9
    obtain ⟨v10, e10, _⟩ := DataW.trod_bool Tryd.underlying4 f10
    simp only [List.cons.injEq, and_true] at e10
    obtain rfl := e10
    obtain ⟨v11, e11, _⟩ := DataW.trod_bool Tryd.underlying4 f11
    simp only [List.cons.injEq, and_true] at e11
    obtain rfl := e11
    obtain ⟨v12, e12, _⟩ := DataW.trod_bool Tryd.underlying4 f12
    simp only [List.cons.injEq, and_true] at e12
    obtain rfl := e12
    obtain ⟨v13, e13, _⟩ := DataW.trod_bool Tryd.underlying4 f13
    simp only [List.cons.injEq, and_true] at e13
    obtain rfl := e13
    refine ⟨fun i => ([v0, v1, v2, v3, if v4 = true then 1 else 0, if v5 = true then 1 else 0, if v6 = true then 1 else 0, if v7 = true then 1 else 0, if v8 = true then 1 else 0, if v9 = true then 1 else 0, if v10 = true then 1 else 0, if v11 = true then 1 else 0, if v12 = true then 1 else 0, if v13 = true then 1 else 0] : List Int).getD i 0, ?_, fun i hi => ?_⟩
    · show _ = [Value.int .i64 v0, .int .i64 v1, .int .i64 v2, .int .i64 v3, .bool ((if v4 = true then (1 : Int) else 0) == 1), .bool ((if v5 = true then (1 : Int) else 0) == 1), .bool ((if v6 = true then (1 : Int) else 0) == 1), .bool ((if v7 = true then (1 : Int) else 0) == 1), .bool ((if v8 = true then (1 : Int) else 0) == 1), .bool ((if v9 = true then (1 : Int) else 0) == 1), .bool ((if v10 = true then (1 : Int) else 0) == 1), .bool ((if v11 = true then (1 : Int) else 0) == 1), .bool ((if v12 = true then (1 : Int) else 0) == 1), .bool ((if v13 = true then (1 : Int) else 0) == 1)]
      rw [b1_ v4, b1_ v5, b1_ v6, b1_ v7, b1_ v8, b1_ v9, b1_ v10, b1_ v11, b1_ v12, b1_ v13]
    · obtain rfl | rfl | rfl | rfl : i = 0 ∨ i = 1 ∨ i = 2 ∨ i = 3 := by omega
      · exact w0
      · exact w1
      · exact w2
      · exact w3
theorem opts_in {H : Type} {enc : TypeId × Value → H} {W : World} {base : Nat} {v : Value} {d : DataW H} {p : List MemPlace} {b2 : Nat} {sp : Nat → Bool} {held : Bool} (hv : Value.okWide Tryd.prog W .any base 24 v) (h : DataW.Trod enc Tryd.prog W b2 sp held 24 v d p) : ∃ o : Nat → Int, v = .agg (ovc o) ∧ ∀ i, i < 4 → (Lit.int .i64 (o i)).wf = true := by
  obtain ⟨cs, rfl⟩ := okWide_struct_ Tryd.underlying24 hv
  obtain ⟨fuel, hf⟩ := h
  obtain ⟨o, e, w⟩ := elemO _ _ _ hf
  exact ⟨o, congrArg Value.agg (arr_of_list_ e), w⟩
set_option maxRecDepth 100000 in
theorem lifted (os : Os) (started : os.Started) (H : Type) (enc : TypeId × Value → H) :
    ReturnsInHanded {} Tryd.checked os 5 .any (fun w args => (Rows.spellBackSpec.pre enc Tryd.prog Tryd.f5 [] false w args ∧ laidMetH Tryd.prog Rows.spellBackRow.laid w) ∧ sizedMet enc Tryd.prog Tryd.f5 (OpenSpec.ofChange Rows.spellBackSpec) false w args)
      (Rows.spellBackSpec.post enc Tryd.prog Tryd.f5 false true false false) := by
  refine returnsInHanded_of_change_and (C := Tryd.checked) (X := fun w _ => laidMetH Tryd.prog Rows.spellBackRow.laid w) (fun _ _ _ hh h => h.of_heap hh) own started (by kernel_rfl) Tryd.func5
    (ChangeSpec.witness_shaped (enc := enc) (C := Tryd.checked) (os := os) (X := fun w _ => laidMetH Tryd.prog Rows.spellBackRow.laid w) false (World.laidAll Tryd.prog os Rows.spellBackRow.laid) #[.agg #[.int .i64 0, .int .i64 0, .int .i64 0, .int .i64 0, .bool false, .bool false, .bool false, .bool false, .bool false, .bool false, .bool false, .bool false, .bool false, .bool false], .string ⟨#[]⟩] 8 (World.laidAll_os _ _ _)
      (World.shaped_of_ZipB (by kernel_rfl) (by kernel_rfl)) (by kernel_rfl) (by kernel_rfl) (by kernel_rfl)
      (by rw [MakeChecks.laidMetH_plain _ _ _ (by kernel_rfl)]; exact laidMet_laidAll _ (by kernel_rfl) (by kernel_rfl))) ?_
  intro W base args ds gs before hval0 hW _ _ _ _
  have hval : ∀ (j : Nat) t v, Tryd.f5.params[j]? = some t → args[j]? = some v → Value.okWide Tryd.prog W .any base t v := hval0
  have hW' := hW
  obtain ⟨p, q, hA0, hV, rfl, _, _⟩ := hW
  have hA : DataW.TrodAll enc Tryd.prog W 0 (fun _ => true) true Tryd.f5.params.toList args.toList ds p := hA0
  rw [Tryd.params5] at hA hval
  obtain ⟨v0, vs0, d0, ds0, p0, q0, hargs, rfl, rfl, h0, r0⟩ := trodAll_cons hA
  obtain ⟨v1, vs1, d1, ds1, p1, q1, rfl, rfl, rfl, h1, r1⟩ := trodAll_cons r0
  obtain ⟨rfl, rfl, rfl⟩ := trodAll_nil r1
  obtain rfl : args = #[v0, v1] := by cases args; simp_all
  obtain ⟨rfl, rfl⟩ := trodVars_none hV
  have k0 := h0
  have lt0 : ∀ x ∈ p0, x.block < W.heap.size := by obtain ⟨m, hm⟩ := k0; exact DataW.trod_lt m _ _ _ hm
  obtain ⟨a0, rfl, w0_⟩ := opts_in (hval 0 24 v0 rfl rfl) h0
  have k1 := h1
  have lt1 : ∀ x ∈ p1, x.block < W.heap.size := by obtain ⟨m, hm⟩ := k1; exact DataW.trod_lt m _ _ _ hm
  obtain ⟨a1, rfl, rfl, rfl, w1_⟩ := open_string Tryd.underlying9 (hval 1 9 v1 rfl rfl) h1
  clear hA0 hval0
  refine (spellBack_walk a0 a1 W).mono fun e W' ⟨he, bel⟩ => ?_
  subst he
  exact ⟨_, rfl, _, _, _, [], _, [], hW', trodAll_mk1 (shut_bool Tryd.underlying4 _), (trodAll_cons_mk (Below.trod laidOut (by kernel_rfl) (of_decide_eq_true (by kernel_rfl)) k0 bel lt0) (trodAll_cons_mk (Below.trod laidOut (by kernel_rfl) (of_decide_eq_true (by kernel_rfl)) k1 bel lt1) trodAll_mk0)), rfl, bel.frame _, fun h => by cases h⟩
theorem over : Rows.spellBackRow.holds Tryd.pinned (OpenSpec.ofChange Rows.spellBackSpec) :=
  OpenClaim.holds_of_wide 5 Tryd.f5 rfl rfl rfl rfl rfl rfl rfl ⟨rfl, rfl, rfl, rfl, rfl⟩ rfl rfl rfl rfl rfl (by kernel_rfl) Tryd.func5 (by kernel_rfl)
    (of_decide_eq_true (by kernel_rfl)) (by unfold Func.isWrapper; first | (rw [if_pos (by decide +kernel)]; kernel_rfl) | (rw [if_neg (by decide +kernel)]; exact ⟨rfl, rfl⟩))
    (fun os started H enc _ => lifted os started H enc)
theorem card_holds : Rows.SpellBackCardSaid :=
  Claim7.holds_tied_plain_at .later [] [.data, .pinned] true (true, "b1665cd7870de1b0c0f3c6faeaf6dc3086a1e1edbb8230037b3515802a04b507") false over (fun _ h => by cases h) (by kernel_rfl) (fun _ h => by cases h) spellBack_row_tie rfl ⟨rfl, rfl⟩ (by kernel_rfl) rfl
    (fun f fn hf hfn => by
      obtain rfl : f = 5 := Option.some.inj ((show Tryd.prog.funcNamed "naskh/naskhlaw11.SpellBack" = some 5 by kernel_rfl).symm.trans hf) |>.symm
      obtain rfl : fn = Tryd.f5 := (Option.some.inj (Tryd.func5.symm.trans hfn)).symm
      exact ⟨by kernel_rfl, fun j t ht => by
        rw [Tryd.params5] at ht
        have hm : t ∈ [24, 9] := by simpa using Array.mem_of_getElem? ht
        have hall : ([24, 9].all fun u => !Tryd.prog.wantsStandIn u) = true := by kernel_rfl
        exact (show Tryd.prog.wantsStandIn t = false by simpa using List.all_eq_true.1 hall t hm)⟩)
    (by kernel_rfl)
end Go.Proofs.YtknghhlielhleaaDoor.spellBack
namespace Go.Proofs.YtknghhlielhleaaDoor
theorem spellBack_holds : Rows.SpellBackCardSaid := spellBack.card_holds
#print axioms spellBack_holds
end Go.Proofs.YtknghhlielhleaaDoor
