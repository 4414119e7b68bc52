import Derived.Test.YtbkdaafphcfpdaaPSeqOfx0
import Derived.Test.YtbkdaafphcfpdaaPSeqOfx3
import Derived.Test.YtbkdaafphcfpdaaPSeqOfx4
import Derived.Test.YtbkdaafphcfpdaaPSeqOfx6
namespace Go.Proofs.Ytbkdaafphcfpdaa.PSeqOf
open Go.RowKit Go.Proofs.YtbkdaafphcfpdaaM Go.Proofs.YtbkdaafphcfpdaaW.PrintWords Go.Proofs.YtbkdaafphcfpdaaW.PrintLast Go.Proofs.YtbkdaafphcfpdaaW.PrintMore
attribute [local go_sem] max2_int min2_int max_two min_two max_three min_three max_four min_four   -- for this text's walks alone
set_option linter.unusedVariables false
set_option linter.unusedSimpArgs false
section
open Go.Proofs.Ytbkdaafphcfpdaa.Stk
def naskhref23_Sequences.dirR (a b : Int) : Int := if Int.tmod (mx a b) 2 = 0 then 0 else 1
def naskhref23_Sequences.nextJ (k : Nat) (B M : List Int) (R : List (List Int)) (y : Int) : Option Int := if isoB (rd B y) = true then (if rd M y < (B.length : Int) then naskhref23_begins.f k R (rd M y) else some (-1)) else some (-1)
def naskhref23_Sequences.chainR (k : Nat) (B M : List Int) (R : List (List Int)) : Nat → List Bool → Int → List Int → Option (List Bool × List Int)
 | 0, _, _, _ => none
 | n + 1, U, j, at_ =>
  if 0 ≤ j then
   if j < (U.length : Int) then
    if rdOf false U j = true then some (U, at_)
    else if at_.length + (R.getD j.toNat []).length ≤ 17592186043000 then
     if 0 < (R.getD j.toNat []).length then
      if 0 ≤ lastL (at_ ++ R.getD j.toNat []) then
       if lastL (at_ ++ R.getD j.toNat []) < (B.length : Int) then
        if lastL (at_ ++ R.getD j.toNat []) < (M.length : Int) then
         (naskhref23_Sequences.nextJ k B M R (lastL (at_ ++ R.getD j.toNat []))).bind fun j' => naskhref23_Sequences.chainR k B M R n (U.set j.toNat true) j' (at_ ++ R.getD j.toNat [])
        else none
       else none
      else none
     else none
    else none
   else none
  else some (U, at_)
def naskhref23_Sequences.seqR (k : Nat) (L C B M : List Int) (bs : Int) (at_ : List Int) : Option (S51) :=
 if 0 < at_.length then
  if 0 ≤ rd at_ 0 then
   if rd at_ 0 < (L.length : Int) then
    if 0 ≤ lastL at_ then
     if lastL at_ < (L.length : Int) then
      if lastL at_ < (B.length : Int) then
       if lastL at_ < (M.length : Int) then
        (naskhref23_ahead.f k L C (rd at_ 0) bs).bind fun v1 => (naskhref23_behind.f k L C (lastL at_) bs).bind fun v2 =>
         some ⟨at_, rd L (rd at_ 0), naskhref23_Sequences.dirR (rd L (rd at_ 0)) v1, naskhref23_Sequences.dirR (rd L (lastL at_)) (behF B M (lastL at_) bs v2)⟩
       else none
      else none
     else none
    else none
   else none
  else none
 else none
def naskhref23_Sequences.goR (k : Nat) (L C B M : List Int) (bs : Int) (R : List (List Int)) : Nat → List Bool → List (S51) → Option (List (S51))
 | 0, _, out => some out
 | n + 1, U, out =>
  if rdOf false U ((R.length - (n + 1) : Nat) : Int) = true then naskhref23_Sequences.goR k L C B M bs R n U out
  else (naskhref23_Sequences.chainR k B M R (R.length + 1) U ((R.length - (n + 1) : Nat) : Int) []).bind fun p => (naskhref23_Sequences.seqR k L C B M bs p.2).bind fun s => if out.length < 2932031007402 then naskhref23_Sequences.goR k L C B M bs R n p.1 (out ++ [s]) else none
def naskhref23_Sequences.f (k : Nat) (l0 l1 l2 : List Int) (a3 : Int) : Option (List (S51)) :=
 if (l0.length : Int) = (l1.length : Int) then
  if (l2.length : Int) = (l1.length : Int) then
   (naskhref23_Runs.f k l0 l1).bind fun R => (naskhref20_Matches.f k l2).bind fun M => if R.length ≤ 17592186043000 then naskhref23_Sequences.goR k l0 l1 l2 M a3 R R.length (List.replicate R.length false) [] else none
  else some []
 else some []
theorem naskhref23_Sequences.chain_mono (k : Nat) (B M : List Int) (R : List (List Int)) : ∀ n U j at_, LeO (naskhref23_Sequences.chainR k B M R n U j at_) (naskhref23_Sequences.chainR (k + 1) B M R n U j at_)
 | 0, _, _, _ => LeO.refl _
 | n + 1, U, j, at_ => by
  unfold naskhref23_Sequences.chainR
  refine LeO.ite (LeO.ite (LeO.ite (LeO.refl _) (LeO.ite (LeO.ite (LeO.ite (LeO.ite (LeO.ite (LeO.bind ?_ (fun _ => naskhref23_Sequences.chain_mono k B M R n _ _ _)) (LeO.refl _)) (LeO.refl _)) (LeO.refl _)) (LeO.refl _)) (LeO.refl _))) (LeO.refl _)) (LeO.refl _)
  unfold naskhref23_Sequences.nextJ
  exact LeO.ite (LeO.ite (naskhref23_begins.mono _ _ _) (LeO.refl _)) (LeO.refl _)
theorem naskhref23_Sequences.go_mono (k : Nat) (L C B M : List Int) (bs : Int) (R : List (List Int)) : ∀ n U out, LeO (naskhref23_Sequences.goR k L C B M bs R n U out) (naskhref23_Sequences.goR (k + 1) L C B M bs R n U out)
 | 0, _, _ => LeO.refl _
 | n + 1, U, out => by
  unfold naskhref23_Sequences.goR
  refine LeO.ite (naskhref23_Sequences.go_mono k L C B M bs R n _ _) (LeO.bind (naskhref23_Sequences.chain_mono k B M R _ _ _ _) (fun _ => LeO.bind ?_ (fun _ => LeO.ite (naskhref23_Sequences.go_mono k L C B M bs R n _ _) (LeO.refl _))))
  unfold naskhref23_Sequences.seqR
  exact LeO.ite (LeO.ite (LeO.ite (LeO.ite (LeO.ite (LeO.ite (LeO.ite (LeO.bind (naskhref23_ahead.mono _ _ _ _ _) (fun _ => LeO.bind (naskhref23_behind.mono _ _ _ _ _) (fun _ => LeO.refl _))) (LeO.refl _)) (LeO.refl _)) (LeO.refl _)) (LeO.refl _)) (LeO.refl _)) (LeO.refl _)) (LeO.refl _)
theorem naskhref23_Sequences.mono : ∀ a0 a1 a2 a3 k, LeO (naskhref23_Sequences.f k a0 a1 a2 a3) (naskhref23_Sequences.f (k + 1) a0 a1 a2 a3) := by
 intro a0 a1 a2 a3 k
 unfold naskhref23_Sequences.f
 exact LeO.ite (LeO.ite (LeO.bind (naskhref23_Runs.mono _ _ _) (fun _ => LeO.bind (naskhref20_Matches.mono _ _) (fun _ => LeO.ite (naskhref23_Sequences.go_mono _ _ _ _ _ _ _ _ _ _) (LeO.refl _)))) (LeO.refl _)) (LeO.refl _)
theorem naskhref23_Sequences.dir_is (a b : Int) : naskhref23_direction.f a b = some (naskhref23_Sequences.dirR a b) := by
 unfold naskhref23_direction.f naskhref23_Sequences.dirR
 split <;> rfl
theorem naskhref23_Sequences.opens_is (a : Int) : naskhref20_Opens.f a = some (isoB a) := by
 unfold naskhref20_Opens.f isoB
 by_cases h : a = 19
 ·rw [if_pos h, if_pos h]
 ·rw [if_neg h, if_neg h]
  by_cases h : a = 20
  ·rw [if_pos h, if_pos h]
  ·rw [if_neg h, if_neg h]
   by_cases h : a = 21
   ·rw [if_pos h, beq_iff_eq.mpr h]
   ·rw [if_neg h, beq_eq_false_iff_ne.mpr h]
theorem naskhref23_Sequences.b_dir (a b : Int) (w : World) : Calls Try.prog 40 #[.int .i64 a, .int .i64 b] w fun e w' => e = .returned (.int .i64 (naskhref23_Sequences.dirR a b)) ∧ Below w.heap.size w w' := naskhref23_direction.calls a b _ w (naskhref23_Sequences.dir_is a b)
theorem naskhref23_Sequences.b_opens (a : Int) (w : World) : Calls Try.prog 24 #[.int .i64 a] w fun e w' => e = .returned (.bool (isoB a)) ∧ Below w.heap.size w w' := (naskhref20_Opens.calls a _ w (naskhref23_Sequences.opens_is a)).mono fun _ _ ⟨a, n, e⟩ => ⟨a, by rw [e]; exact pw_below_drewN (Below.refl _ _) n⟩
theorem naskhref23_Sequences.below_of {w : World} {Q : Ending → Prop} {f : Nat} {args : Array Value} (h : Calls Try.prog f args w fun e w' => Q e ∧ Drawn0 w w') : Calls Try.prog f args w fun e w' => Q e ∧ Below w.heap.size w w' := h.mono fun _ _ ⟨a, n, e⟩ => ⟨a, by rw [e]; exact pw_below_drewN (Below.refl _ _) n⟩
theorem naskhref23_Sequences.chain_next {k : Nat} {B M : List Int} {R : List (List Int)} {n : Nat} {U : List Bool} {j : Int} {at_ : List Int} {p : List Bool × List Int} (h : naskhref23_Sequences.chainR k B M R (n + 1) U j at_ = some p) :
  (j < 0 ∧ p = (U, at_)) ∨ (0 ≤ j ∧ j < (U.length : Int) ∧ rdOf false U j = true ∧ p = (U, at_)) ∨
  (0 ≤ j ∧ j < (U.length : Int) ∧ rdOf false U j = false ∧ at_.length + (R.getD j.toNat []).length ≤ 17592186043000 ∧ 0 < (R.getD j.toNat []).length ∧ 0 ≤ lastL (at_ ++ R.getD j.toNat []) ∧ lastL (at_ ++ R.getD j.toNat []) < (B.length : Int) ∧ lastL (at_ ++ R.getD j.toNat []) < (M.length : Int) ∧
   ∃ j', naskhref23_Sequences.nextJ k B M R (lastL (at_ ++ R.getD j.toNat [])) = some j' ∧ naskhref23_Sequences.chainR k B M R n (U.set j.toNat true) j' (at_ ++ R.getD j.toNat []) = some p) := by
 unfold naskhref23_Sequences.chainR at h
 by_cases h1 : 0 ≤ j
 ·rw [if_pos h1] at h
  by_cases h2 : j < (U.length : Int)
  ·rw [if_pos h2] at h
   by_cases h3 : rdOf false U j = true
   ·rw [if_pos h3] at h
    exact .inr (.inl ⟨h1, h2, h3, (Option.some.inj h).symm⟩)
   ·rw [if_neg h3] at h
    by_cases h4 : at_.length + (R.getD j.toNat []).length ≤ 17592186043000
    ·rw [if_pos h4] at h
     by_cases h5 : 0 < (R.getD j.toNat []).length
     ·rw [if_pos h5] at h
      by_cases h6 : 0 ≤ lastL (at_ ++ R.getD j.toNat [])
      ·rw [if_pos h6] at h
       by_cases h7 : lastL (at_ ++ R.getD j.toNat []) < (B.length : Int)
       ·rw [if_pos h7] at h
        by_cases h8 : lastL (at_ ++ R.getD j.toNat []) < (M.length : Int)
        ·rw [if_pos h8] at h
         obtain ⟨j', h9, h⟩ := Option.bind_eq_some_iff.mp h
         exact .inr (.inr ⟨h1, h2, Bool.eq_false_iff.mpr h3, h4, h5, h6, h7, h8, j', h9, h⟩)
        ·rw [if_neg h8] at h; cases h
       ·rw [if_neg h7] at h; cases h
      ·rw [if_neg h6] at h; cases h
     ·rw [if_neg h5] at h; cases h
    ·rw [if_neg h4] at h; cases h
  ·rw [if_neg h2] at h; cases h
 ·rw [if_neg h1] at h
  exact .inl ⟨by omega, (Option.some.inj h).symm⟩
theorem naskhref23_Sequences.seq_next {k : Nat} {L C B M : List Int} {bs : Int} {at_ : List Int} {s : S51} (h : naskhref23_Sequences.seqR k L C B M bs at_ = some s) :
  0 < at_.length ∧ 0 ≤ rd at_ 0 ∧ rd at_ 0 < (L.length : Int) ∧ 0 ≤ lastL at_ ∧ lastL at_ < (L.length : Int) ∧ lastL at_ < (B.length : Int) ∧ lastL at_ < (M.length : Int) ∧
  ∃ v1 v2, naskhref23_ahead.f k L C (rd at_ 0) bs = some v1 ∧ naskhref23_behind.f k L C (lastL at_) bs = some v2 ∧ s = ⟨at_, rd L (rd at_ 0), naskhref23_Sequences.dirR (rd L (rd at_ 0)) v1, naskhref23_Sequences.dirR (rd L (lastL at_)) (behF B M (lastL at_) bs v2)⟩ := by
 unfold naskhref23_Sequences.seqR at h
 by_cases h0 : 0 < at_.length
 ·rw [if_pos h0] at h
  by_cases h1 : 0 ≤ rd at_ 0
  ·rw [if_pos h1] at h
   by_cases h2 : rd at_ 0 < (L.length : Int)
   ·rw [if_pos h2] at h
    by_cases h3 : 0 ≤ lastL at_
    ·rw [if_pos h3] at h
     by_cases h4 : lastL at_ < (L.length : Int)
     ·rw [if_pos h4] at h
      by_cases h5 : lastL at_ < (B.length : Int)
      ·rw [if_pos h5] at h
       by_cases h6 : lastL at_ < (M.length : Int)
       ·rw [if_pos h6] at h
        obtain ⟨v1, e1, h⟩ := Option.bind_eq_some_iff.mp h
        obtain ⟨v2, e2, h⟩ := Option.bind_eq_some_iff.mp h
        exact ⟨h0, h1, h2, h3, h4, h5, h6, v1, v2, e1, e2, (Option.some.inj h).symm⟩
       ·rw [if_neg h6] at h; cases h
      ·rw [if_neg h5] at h; cases h
     ·rw [if_neg h4] at h; cases h
    ·rw [if_neg h3] at h; cases h
   ·rw [if_neg h2] at h; cases h
  ·rw [if_neg h1] at h; cases h
 ·rw [if_neg h0] at h; cases h
set_option maxHeartbeats 8000000 in
set_option maxRecDepth 100000 in
theorem naskhref23_Sequences.off1 (k : Nat) (A0 : Option Addr) (c0 : Nat) (l0 : List Int) (A1 : Option Addr) (c1 : Nat) (l1 : List Int) (A2 : Option Addr) (c2 : Nat) (l2 : List Int) (a3 : Int) (w : World) (hr0 : Kd.C (Kd.int .i64) w A0 l0.length l0) (hc0 : l0.length ≤ c0) (hr1 : Kd.C (Kd.int .i64) w A1 l1.length l1) (hc1 : l1.length ≤ c1) (hr2 : Kd.C (Kd.int .i64) w A2 l2.length l2) (hc2 : l2.length ≤ c2) (hne : ¬ (l0.length : Int) = (l1.length : Int)) :
  Calls Try.prog 14 #[.slice A0 l0.length c0, .slice A1 l1.length c1, .slice A2 l2.length c2, .int .i64 a3] w fun e w' => ∃ v0_ : Value, e = .returned (v0_) ∧ Kd.S k51 51 w' w.heap.size (fun _ => True) v0_ [] ∧ Below w.heap.size w w' := by
 have f1 : ((l0.length : Int) != (l1.length : Int)) = true := bne_iff_ne.mpr hne
 have f2 : (l0.length != l1.length) = true := bne_iff_ne.mpr (by exact_mod_cast hne)
 clear hne
 go_enter Try.func14, Try.ntmps14
 go_wp2
 go_ret
 exact ⟨_, by first | rfl | simp [*], Kd.S_nil _ _ _ _ _, by repeat (first | exact Below.refl _ _ | apply below_alloc | apply pw_below_drewN | apply below_drew1)⟩
set_option maxHeartbeats 8000000 in
set_option maxRecDepth 100000 in
theorem naskhref23_Sequences.off2 (k : Nat) (A0 : Option Addr) (c0 : Nat) (l0 : List Int) (A1 : Option Addr) (c1 : Nat) (l1 : List Int) (A2 : Option Addr) (c2 : Nat) (l2 : List Int) (a3 : Int) (w : World) (hr0 : Kd.C (Kd.int .i64) w A0 l0.length l0) (hc0 : l0.length ≤ c0) (hr1 : Kd.C (Kd.int .i64) w A1 l1.length l1) (hc1 : l1.length ≤ c1) (hr2 : Kd.C (Kd.int .i64) w A2 l2.length l2) (hc2 : l2.length ≤ c2) (he : (l0.length : Int) = (l1.length : Int)) (hne : ¬ (l2.length : Int) = (l1.length : Int)) :
  Calls Try.prog 14 #[.slice A0 l0.length c0, .slice A1 l1.length c1, .slice A2 l2.length c2, .int .i64 a3] w fun e w' => ∃ v0_ : Value, e = .returned (v0_) ∧ Kd.S k51 51 w' w.heap.size (fun _ => True) v0_ [] ∧ Below w.heap.size w w' := by
 have g1 : ((l0.length : Int) != (l1.length : Int)) = false := bne_eq_false_iff_eq.mpr he
 have g2 : (l0.length != l1.length) = false := bne_eq_false_iff_eq.mpr (by exact_mod_cast he)
 have f1 : ((l2.length : Int) != (l1.length : Int)) = true := bne_iff_ne.mpr hne
 have f2 : (l2.length != l1.length) = true := bne_iff_ne.mpr (by exact_mod_cast hne)
 clear hne
 go_enter Try.func14, Try.ntmps14
 go_wp2
 go_ret
 exact ⟨_, by first | rfl | simp [*], Kd.S_nil _ _ _ _ _, by repeat (first | exact Below.refl _ _ | apply below_alloc | apply pw_below_drewN | apply below_drew1)⟩
set_option maxHeartbeats 64000000 in
set_option maxRecDepth 100000 in
theorem naskhref23_Sequences.main (k : Nat) (A0 : Option Addr) (c0 : Nat) (l0 : List Int) (A1 : Option Addr) (c1 : Nat) (l1 : List Int) (A2 : Option Addr) (c2 : Nat) (l2 : List Int) (a3 : Int) (r : List (S51)) (w : World) (hr0 : Kd.C (Kd.int .i64) w A0 l0.length l0) (hc0 : l0.length ≤ c0) (hr1 : Kd.C (Kd.int .i64) w A1 l1.length l1) (hc1 : l1.length ≤ c1) (hr2 : Kd.C (Kd.int .i64) w A2 l2.length l2) (hc2 : l2.length ≤ c2) (M : List Int) (R : List (List Int)) (he1 : (l0.length : Int) = (l1.length : Int)) (he2 : (l2.length : Int) = (l1.length : Int)) (hR : naskhref23_Runs.f k l0 l1 = some R) (hM : naskhref20_Matches.f k l2 = some M) (hsz : R.length ≤ 17592186043000) (hgo : naskhref23_Sequences.goR k l0 l1 l2 M a3 R R.length (List.replicate R.length false) [] = some r) :
  Calls Try.prog 14 #[.slice A0 l0.length c0, .slice A1 l1.length c1, .slice A2 l2.length c2, .int .i64 a3] w fun e w' => ∃ v0_ : Value, e = .returned (v0_) ∧ Kd.S k51 51 w' w.heap.size (fun _ => True) v0_ r ∧ Below w.heap.size w w' := by
 have HR0 := Aside0.mk hr0
 have HC0 := Aside0.mk hc0
 have HR1 := Aside0.mk hr1
 have HC1 := Aside0.mk hc1
 have HR2 := Aside0.mk hr2
 have HC2 := Aside0.mk hc2
 have HM := Aside0.mk hM
 have HRR := Aside0.mk hR
 have HSZ := Aside0.mk hsz
 have HGO := Aside0.mk hgo
 have g1 : ((l0.length : Int) != (l1.length : Int)) = false := bne_eq_false_iff_eq.mpr he1
 have g2 : (l0.length != l1.length) = false := bne_eq_false_iff_eq.mpr (by exact_mod_cast he1)
 have g3 : ((l2.length : Int) != (l1.length : Int)) = false := bne_eq_false_iff_eq.mpr he2
 have g4 : (l2.length != l1.length) = false := bne_eq_false_iff_eq.mpr (by exact_mod_cast he2)
 clear hr0 hc0 hr1 hc1 hr2 hc2 hM hR hsz hgo he1 he2
 go_enter Try.func14, Try.ntmps14
 go_wp2_with (first | (go_at_call 16; (with_reducible refine (naskhref23_Runs.calls k A0 c0 l0 A1 c1 l1 R w HR0.out HC0.out HR1.out HC1.out HRR.out).mono ?_); rintro e w1 ⟨vR, rfl, hS, hb⟩; obtain ⟨AR, cR, eR, lR, rR⟩ := Kd.S_reads hS; have HRW1 := Aside0.mk rR; have HB1 := Aside0.mk hb; have HLR := Aside0.mk lR; clear hS hb rR lR; generalize hnR : R.length = nR at eR; subst eR) | (go_at_call 38; (with_reducible refine (naskhref20_Matches.calls k A2 c2 l2 M w1 (Kd.C_below HR2.out HB1.out) HC2.out HM.out).mono ?_); rintro e w2 ⟨vM, rfl, hR, hb⟩; obtain ⟨AM, cM, eM, lM, rM⟩ := Kd.R_reads hR; have HMW := Aside0.mk rM; have HRW := Aside0.mk (Kd.C_below HRW1.out hb); have HB2 := Aside0.mk (below_step HB1.out hb); clear hR hb rM lM HRW1 HB1; generalize hnM : M.length = nM at eM; subst eM) | ((with_reducible refine gate_dst (N := 38) rfl ?_); refine Kd.R_make Kd.bool (w0 := w2) w2.heap.size 4 rfl (N := 38) rfl 38 _ _ rfl (nR : Int) rfl rfl Try.underlying38 (.bool false) 1 (by kernel_rfl) rfl (by decide) (by omega) false (ok := fun _ => True) (okp := fun _ => True) rfl (fun _ hk => hk) trivial (by omega) (by have := HSZ.out; omega) (Below.refl _ _) (Nat.le_refl _) ?_; intro vU w3 hU hb hg hat; obtain ⟨gU0, hgU, hgz⟩ := hat; obtain ⟨AU, cU, eU⟩ := Kd.R_slice hU; rw [Int.toNat_natCast] at hU; rw [List.length_replicate, Int.toNat_natCast] at eU; subst eU; obtain ⟨aU, hAU⟩ : ∃ a, AU = some a := (match AU, hgU with | some a, _ => ⟨a, rfl⟩ | none, h => by cases h); subst hAU; obtain ⟨gU, hgU2⟩ := Kd.R_head hU; subst hgU2; have HU3 := Aside0.mk (Kd.R_mono (ok' := fun k_ => k_ = gU) (Kd.R_tight rfl hU) (fun k_ hk => by simpa [Value.ownBlock] using hk)); have HB3 := Aside0.mk hb; have HGU := Aside0.mk (show w2.heap.size ≤ gU from Kd.R_base hU gU (by simp [Value.ownBlock])); clear hU hb hg hgU hgz))
 clear g1 g2 g3 g4
 go_loopg [12, 13] R.length (fun kq v12 v13 w' => ∃ (i : Nat) (U : List Bool) (out : List S51), v13 = .int .i64 (i : Int) ∧ Aside0 (i ≤ R.length ∧ R.length - i = kq) ∧ Aside0 (U.length = R.length) ∧ Aside0 (Kd.R Kd.bool 4 w' w2.heap.size (fun k_ => k_ = gU) (.slice (some ⟨gU, 0, none⟩) nR cU) U) ∧ Aside0 (Kd.S k51 51 w' w2.heap.size (fun k_ => k_ ≠ gU) v12 out) ∧ Aside0 (Below w2.heap.size w2 w') ∧ Aside0 (naskhref23_Sequences.goR k l0 l1 l2 M a3 R (R.length - i) U out = some r))
 case atStart => exact ⟨0, List.replicate nR false, [], rfl, ⟨Nat.zero_le _, rfl⟩, ⟨by rw [List.length_replicate, hnR]⟩, HU3, ⟨Kd.S_nil _ _ _ _ _⟩, HB3, ⟨by have h := HGO.out; rw [show List.replicate R.length false = List.replicate nR false by rw [hnR]] at h; exact h⟩⟩
 case round =>
  clear HGO HU3 HB3
  obtain ⟨i, U, out, rfl, HI, HUL, HU, HS, HB, HGO⟩ := hrel
  by_cases hlt : i < nR
  ·have b0 : decide ((i : Int) < (nR : Int)) = true := decide_eq_true (by omega)
   have b1 : decide (i < nR) = true := decide_eq_true hlt
   have p0 := eq_true (show (i : Int) < (nR : Int) by omega)
   have p1 := eq_true hlt
   have hwi := (show wrap64 ((i : Int) + 1) = ((i + 1 : Nat) : Int) by have := HSZ.out; unfold wrap64; omega)
   obtain ⟨xu, fu⟩ := Kd.R_celln false HU.out (i : Int) (by omega) (by omega)
   rw [Int.toNat_natCast] at xu
   have hgo := HGO.out
   rw [show R.length - i = (R.length - (i + 1)) + 1 by omega, naskhref23_Sequences.goR, show R.length - (R.length - (i + 1) + 1) = i by omega] at hgo
   have HLT := Aside0.mk hlt
   clear hlt fu
   by_cases hu : rdOf false U (i : Int) = true
   ·rw [if_pos hu] at hgo
    rw [hu] at xu
    have HGO1 := Aside0.mk hgo
    clear hgo HGO hu
    go_wp2
    go_roundg (R.length - (i + 1))
    case measure => have := HI.out; have := HLT.out; omega
    case rel => exact ⟨i + 1, U, out, by first | rfl | go_num | rw [hwi], ⟨by have := HLT.out; omega, rfl⟩, HUL, HU, HS, HB, HGO1⟩
   ·rw [if_neg hu] at hgo
    replace hu := Bool.eq_false_iff.mpr hu
    rw [hu] at xu
    obtain ⟨⟨UF, atF⟩, hch, hgo⟩ := Option.bind_eq_some_iff.mp hgo
    obtain ⟨s, hsq, hgo⟩ := Option.bind_eq_some_iff.mp hgo
    by_cases hlo : out.length < 2932031007402
    ·rw [if_pos hlo] at hgo
     have HGO1 := Aside0.mk hgo
     have HSQ := Aside0.mk hsq
     have HLO := Aside0.mk hlo
     have HCH := Aside0.mk hch
     clear hgo HGO hsq hlo hch hu
     go_wp2_with (first | ((with_reducible refine gate_dst (N := 14) rfl ?_); refine box_event ?hg (N := 14) ?hd (cs := #[.slice none 0 0, .int .i64 0, .int .i64 0, .int .i64 0]) (t := 51) ?hr ?_; (case hd => rfl); (case hg => rfl); (case hr => first | (go_simp; done) | (go_simp; rfl)); intro q hq w4 hbox hb; have BX4 := Aside0.mk hbox; have HQ := Aside0.mk (show w2.heap.size ≤ q ∧ q ≠ gU by refine ⟨?_, ?_⟩; (· have := HB.out.size; omega); (· have := Kd.R_lt HU.out gU (by simp [Value.ownBlock]); omega)); have HU4 := Aside0.mk (Kd.R_below HU.out hb); have HS4 := Aside0.mk (Kd.S_below (Kd.S_mono (Kd.S_bound HS.out) (ok' := fun k_ => k_ ≠ gU ∧ k_ ≠ q) (fun k_ hk => ⟨hk.1, by have := hk.2.2.1; omega⟩)) hb); have HB4 := Aside0.mk (below_step HB.out hb); clear hq hbox hb))
     clear xu
     go_loopg [15] (R.length + 1) (fun kq v15 w' => ∃ (j : Int) (U : List Bool) (at_ : List Int) (va : Value), v15 = .int .i64 j ∧ Aside0 (U.length = R.length) ∧ Aside0 (Kd.R Kd.bool 4 w' w2.heap.size (fun k_ => k_ = gU) (.slice (some ⟨gU, 0, none⟩) nR cU) U) ∧ Aside0 (Kd.S k51 51 w' w2.heap.size (fun k_ => (k_ ≠ gU ∧ k_ ≠ q) ∧ some k_ ≠ va.ownBlock) u12 out) ∧ Aside0 (Kd.R (Kd.int .i64) 3 w' w2.heap.size (fun k_ => k_ ≠ gU ∧ k_ ≠ q ∧ some k_ ≠ u12.ownBlock) va at_) ∧ Aside0 (w'.heap[q]? = some (.cells #[va, .int .i64 0, .int .i64 0, .int .i64 0] 51 (0, 0))) ∧ Aside0 (Below w2.heap.size w2 w') ∧ Aside0 (naskhref23_Sequences.chainR k l2 M R kq U j at_ = some (UF, atF)))
     case atStart => exact ⟨(i : Int), U, [], .slice none 0 0, rfl, HUL, HU4, ⟨Kd.S_mono HS4.out (fun _ hk => ⟨hk, by simp [Value.ownBlock]⟩)⟩, ⟨Kd.R_nil _ _ _ _ _⟩, BX4, HB4, HCH⟩
     case round =>
      clear HUL HU HS HB HU4 HS4 BX4 HB4 HCH
      obtain ⟨j, U, at_, va, rfl, HUL, HU, HS, HR, BX, HB, HCH⟩ := hrel
      cases gk with
      | zero => exact absurd HCH.out (by simp [naskhref23_Sequences.chainR])
      | succ k1 =>
       rcases naskhref23_Sequences.chain_next HCH.out with ⟨h1, h2⟩ | ⟨h1, h2, h3, h4⟩ | ⟨h1, h2, h3, h4, h5, h6, h7, h8, j', h9, h10⟩
       ·have e1 : U = UF := (congrArg Prod.fst h2).symm
        have e2 : at_ = atF := (congrArg Prod.snd h2).symm
        subst e1 e2
        have j0 : decide (0 ≤ j) = false := decide_eq_false (by omega)
        clear h1 h2 HCH
        obtain ⟨g0, g1, g2, g3, g4, g5, g6, v1, v2, hv1, hv2, hs⟩ := naskhref23_Sequences.seq_next HSQ.out
        have HGO2 := Aside0.mk (show naskhref23_Sequences.goR k l0 l1 l2 M a3 R (R.length - (i + 1)) U (out ++ [⟨at_, rd l0 (rd at_ 0), naskhref23_Sequences.dirR (rd l0 (rd at_ 0)) v1, naskhref23_Sequences.dirR (rd l0 (lastL at_)) (behF l2 M (lastL at_) a3 v2)⟩]) = some r from hs ▸ HGO1.out)
        clear HGO1 HSQ hs
        obtain ⟨A9, c9, e9, l9, r9⟩ := Kd.R_reads HR.out
        subst e9
        obtain ⟨a9, e, xa0⟩ := at_head r9 g0
        cases e
        obtain ⟨x, hx⟩ : ∃ x, rd at_ 0 = x := ⟨_, rfl⟩
        obtain ⟨y, hy⟩ : ∃ y, lastL at_ = y := ⟨_, rfl⟩
        obtain ⟨z, hz⟩ : ∃ z, (at_.length : Int) - 1 = z := ⟨_, rfl⟩
        have hy2 : rd at_ z = y := by rw [← hz]; exact hy
        obtain ⟨_, e, xa1⟩ := Kd.at_int r9 z (by omega) (by omega)
        cases e
        rw [hy2] at xa1
        rw [hx] at xa0
        rw [hx] at g1 g2 hv1
        rw [hy] at g3 g4 g5 g6 hv2
        rw [hx, hy] at HGO2
        have zw : wrap64 ((at_.length : Int) - 1) = z := by have h99 := Kd.C_max r9; unfold wrap64; omega
        have zw2 : IntKind.i64.wrap ((at_.length : Int) - 1) = z := (i64_w _).trans zw
        obtain ⟨al, e, xl⟩ := Kd.at_int HR0.out x g1 g2
        cases e
        obtain ⟨_, e, yl⟩ := Kd.at_int HR0.out y g3 g4
        cases e
        obtain ⟨ab, e, yb⟩ := Kd.at_int HR2.out y g3 g5
        cases e
        obtain ⟨am, e, ym⟩ := Kd.at_int HMW.out y g3 g6
        cases e
        have HXX := Aside0.mk (b_cell rfl HB2.out xl)
        have HXY := Aside0.mk (b_cell rfl HB2.out yl)
        have HXB := Aside0.mk (b_cell rfl HB2.out yb)
        have HXM := Aside0.mk ym
        have HV1 := Aside0.mk hv1
        have HV2 := Aside0.mk hv2
        have q0 := eq_true g0
        have q00 := eq_true (show (0 : Int) < (at_.length : Int) by omega)
        have q1 := eq_true g1
        have q2 := eq_true g2
        have q3 := eq_true g3
        have q4 := eq_true g4
        have q5 := eq_true g5
        have q6 := eq_true (show y < (nM : Int) by omega)
        have q7 := eq_true (show 0 ≤ z by omega)
        have q8 := eq_true (show z < (at_.length : Int) by omega)
        have xq := (blk_cell BX.out 0).trans rfl
        clear g0 g1 g2 g3 g4 g5 g6 hv1 hv2 hx hy hz hy2 l9 r9 xl yl yb ym
        go_wp2
        go_quiet (first | done)
        have hb := pw_below_drewN (Below.refl wr.heap.size wr) nq
        have HU10 := Aside0.mk (Kd.R_below HU.out hb)
        have HS10 := Aside0.mk (Kd.S_below HS.out hb)
        have HR10 := Aside0.mk (Kd.R_below HR.out hb)
        have BX10 := Aside0.mk (blk_below BX.out hb)
        have HB10 := Aside0.mk (below_step HB.out hb)
        clear hb xa0 xa1 xq
        clear HU HS HR BX HB
        generalize wr.drewN nq = w10 at HU10 HS10 HR10 BX10 HB10 ⊢
        have xl10 := b_cell rfl HB10.out HXX.out
        have hs := (blk_cell BX10.out 1).trans rfl
        have hf := blk_frozen BX10.out 1
        go_wp2_with (first | ((with_reducible refine gate_store (t := 3) (p := 114) rfl ?_); refine store_event (t := 3) (p := 114) (v := .tmp 113) (w1 := w10.setCell ⟨q, 1, none⟩ (.int .i64 (rd l0 x))) ?hg ?ho ?hn ?hr ?_; (case ho => rfl); (case hg => rfl); (case hn => rfl); (case hr => first | (go_simp; done) | (go_simp; rfl)); intro w11 hw; have HU11 := Aside0.mk (show Kd.R Kd.bool 4 w11 w2.heap.size (fun k_ => k_ = gU) (.slice (some ⟨gU, 0, none⟩) nR cU) U by rw [hw]; exact Kd.R_far (p := ⟨q, 1, none⟩) HU10.out (fun k_ hk e => HQ.out.2 (e.symm.trans hk)) _); have HS11 := Aside0.mk (show Kd.S k51 51 w11 w2.heap.size (fun k_ => (k_ ≠ gU ∧ k_ ≠ q) ∧ some k_ ≠ (.slice (some a9) at_.length c9 : Value).ownBlock) u12 out by rw [hw]; exact Kd.S_far (p := ⟨q, 1, none⟩) HS10.out (fun k_ hk => hk.1.2) _); have HR11 := Aside0.mk (show Kd.R (Kd.int .i64) 3 w11 w2.heap.size (fun k_ => k_ ≠ gU ∧ k_ ≠ q ∧ some k_ ≠ u12.ownBlock) (.slice (some a9) at_.length c9) at_ by rw [hw]; exact Kd.R_far (p := ⟨q, 1, none⟩) HR10.out (fun k_ hk => hk.2.1) _); have BX11 := Aside0.mk (show w11.heap[q]? = some (.cells #[.slice (some a9) at_.length c9, .int .i64 (rd l0 x), .int .i64 0, .int .i64 0] 51 (0, 0)) by rw [hw]; exact blk_put BX10.out 1 (.int .i64 (rd l0 x)) rfl); have HB11 := Aside0.mk (show Below w2.heap.size w2 w11 by rw [hw]; exact below_set HB10.out HQ.out.1); clear hw; clear hs hf xl10))
        replace HU11 := Aside0.mk (Kd.R_drew HU11.out)
        replace HS11 := Aside0.mk (Kd.S_drew HS11.out)
        replace HR11 := Aside0.mk (Kd.R_drew HR11.out)
        replace BX11 := Aside0.mk (blk_below BX11.out (below_drew (Below.refl _ _)))
        replace HB11 := Aside0.mk (below_drew1 HB11.out)
        refine start_ (n := 10) (S := fun w' => w'.cell? ⟨q, 1, none⟩ = some (.int .i64 (rd l0 x))) (ds := [9]) #[false, false, false, false, false, false, false, false, false, false] (by kernel_rfl) rfl rfl ((blk_cell BX11.out 1).trans rfl) (fun hHeld => ?_)
        generalize w11.drew = w11d at HU11 HS11 HR11 BX11 HB11 hHeld ⊢
        refine pure_ (i := 0) (N := some 115) (v := ?_) (a' := ?_) #[true, false, false, false, false, false, false, false, false, false] rfl rfl (by kernel_rfl) (fun _ _ _ h => h) (Or.inl ⟨by rfl, ?_⟩) ?_ ?_
        rotate_left
        ·intro w'
         go_simp
         with_reducible rfl
        rotate_left
        ·simp only [Act.put, List.setIfInBounds_toArray, List.set_cons_zero, List.set_cons_succ, i64_w, i32_w]
         rfl
        refine take_ (i := 1) (N := some 116) (v := ?_) (a' := ?_) #[true, true, false, false, false, false, false, false, false, false] rfl rfl (by kernel_rfl) (fun _ _ _ h => h) (Or.inl ⟨by rfl, ?_⟩) hHeld ?_ ?_
        rotate_left
        ·rintro w' s0
         go_simp
         with_reducible rfl
        rotate_left
        ·simp only [Act.put, List.setIfInBounds_toArray, List.set_cons_zero, List.set_cons_succ, i64_w, i32_w]
         rfl
        refine pure_ (i := 2) (N := some 117) (v := ?_) (a' := ?_) #[true, true, true, false, false, false, false, false, false, false] rfl rfl (by kernel_rfl) (fun _ _ _ h => h) (Or.inl ⟨by rfl, ?_⟩) ?_ ?_
        rotate_left
        ·intro w'
         go_simp
         with_reducible rfl
        rotate_left
        ·simp only [Act.put, List.setIfInBounds_toArray, List.set_cons_zero, List.set_cons_succ, i64_w, i32_w]
         rfl
        refine pure_ (i := 3) (N := some 118) (v := ?_) (a' := ?_) #[true, true, true, true, false, false, false, false, false, false] rfl rfl (by kernel_rfl) (fun _ _ _ h => h) (Or.inl ⟨by rfl, ?_⟩) ?_ ?_
        rotate_left
        ·intro w'
         go_simp
         with_reducible rfl
        rotate_left
        ·simp only [Act.put, List.setIfInBounds_toArray, List.set_cons_zero, List.set_cons_succ, i64_w, i32_w]
         rfl
        refine pure_ (i := 4) (N := some 119) (v := ?_) (a' := ?_) #[true, true, true, true, true, false, false, false, false, false] rfl rfl (by kernel_rfl) (fun _ _ _ h => h) (Or.inl ⟨by rfl, ?_⟩) ?_ ?_
        rotate_left
        ·intro w'
         go_simp
         with_reducible rfl
        rotate_left
        ·simp only [Act.put, List.setIfInBounds_toArray, List.set_cons_zero, List.set_cons_succ, i64_w, i32_w]
         rfl
        refine pure_ (i := 5) (N := some 120) (v := ?_) (a' := ?_) #[true, true, true, true, true, true, false, false, false, false] rfl rfl (by kernel_rfl) (fun _ _ _ h => h) (Or.inl ⟨by rfl, ?_⟩) ?_ ?_
        rotate_left
        ·intro w'
         go_simp
         with_reducible rfl
        rotate_left
        ·simp only [Act.put, List.setIfInBounds_toArray, List.set_cons_zero, List.set_cons_succ, i64_w, i32_w]
         rfl
        refine one_ (i := 6) (N := some 121) #[true, true, true, true, true, true, true, false, false, false] rfl rfl (by kernel_rfl) (by decide) (fun K hK => ?_)
        refine (goes_ Try.func41 (by kernel_rfl) rfl #[.slice (some al) l0.length c0, .slice A1 l1.length c1, .int .i64 x, .int .i64 a3] (by rfl) rfl rfl (by (try simp only [List.map_toArray, List.map_cons, List.map_nil]); first | done | rfl) ?_)
        (with_reducible refine (naskhref23_Sequences.below_of (naskhref23_ahead.calls k (some al) c0 l0 A1 c1 l1 x a3 v1 _ (Kd.C_below HR0.out (below_step HB2.out HB11.out)) HC0.out (Kd.C_below HR1.out (below_step HB2.out HB11.out)) HC1.out HV1.out)).mono ?_)
        rintro e w12 ⟨rfl, hb⟩
        refine ⟨_, rfl, ?_⟩
        have HU12 := Aside0.mk (Kd.R_below HU11.out hb)
        have HS12 := Aside0.mk (Kd.S_below HS11.out hb)
        have HR12 := Aside0.mk (Kd.R_below HR11.out hb)
        have BX12 := Aside0.mk (blk_below BX11.out hb)
        have HB12 := Aside0.mk (below_step HB11.out hb)
        clear hb
        refine hK.out _ _ ((blk_cell BX12.out 1).trans rfl) (fun hHeld => ?_)
        clear hK K
        refine norm_ (a' := ?_) ?_ ?_
        rotate_left
        ·show Act.put _ (some 121) _ = _
         simp only [Act.put, List.setIfInBounds_toArray, List.set_cons_zero, List.set_cons_succ, i64_w, i32_w]
         rfl
        refine one_ (i := 7) (N := some 122) #[true, true, true, true, true, true, true, true, false, false] rfl rfl (by kernel_rfl) (by decide) (fun K hK => ?_)
        refine (goes_ Try.func40 (by kernel_rfl) rfl #[.int .i64 (rd l0 x), .int .i64 v1] (by rfl) rfl rfl (by (try simp only [List.map_toArray, List.map_cons, List.map_nil]); first | done | rfl) ?_)
        (with_reducible refine (naskhref23_Sequences.b_dir _ _ _).mono ?_)
        rintro e w13 ⟨rfl, hb⟩
        refine ⟨_, rfl, ?_⟩
        have HU13 := Aside0.mk (Kd.R_below HU12.out hb)
        have HS13 := Aside0.mk (Kd.S_below HS12.out hb)
        have HR13 := Aside0.mk (Kd.R_below HR12.out hb)
        have BX13 := Aside0.mk (blk_below BX12.out hb)
        have HB13 := Aside0.mk (below_step HB12.out hb)
        clear hb
        refine hK.out _ _ ((blk_cell BX13.out 1).trans rfl) (fun hHeld => ?_)
        clear hK K
        refine norm_ (a' := ?_) ?_ ?_
        rotate_left
        ·show Act.put _ (some 122) _ = _
         simp only [Act.put, List.setIfInBounds_toArray, List.set_cons_zero, List.set_cons_succ, i64_w, i32_w]
         rfl
        refine pure_ (i := 8) (N := some 123) (v := ?_) (a' := ?_) #[true, true, true, true, true, true, true, true, true, false] rfl rfl (by kernel_rfl) (fun _ _ _ h => h) (Or.inl ⟨by rfl, ?_⟩) ?_ ?_
        rotate_left
        ·intro w'
         go_simp
         with_reducible rfl
        rotate_left
        ·simp only [Act.put, List.setIfInBounds_toArray, List.set_cons_zero, List.set_cons_succ, i64_w, i32_w]
         rfl
        refine last_ (i := 9) (N := none) #[true, true, true, true, true, true, true, true, true, true] rfl rfl (by kernel_rfl) (by decide) (fun K hK => ?_)
        have hs := (blk_cell BX13.out 2).trans rfl
        have hf := blk_frozen BX13.out 2
        refine skip_ (w1 := w13.setCell ⟨q, 2, none⟩ (.int .i64 (naskhref23_Sequences.dirR (rd l0 x) v1))) (by rfl) rfl ?_ ?_
        ·first | (go_simp; done) | (go_simp; rfl)
        refine hK.out _ _ ?_
        clear hK K hs hf
        refine done_ (by kernel_rfl) ?_
        have hw := (rfl : w13.setCell ⟨q, 2, none⟩ (.int .i64 (naskhref23_Sequences.dirR (rd l0 x) v1)) = w13.setCell ⟨q, 2, none⟩ (.int .i64 (naskhref23_Sequences.dirR (rd l0 x) v1)))
        generalize hw14 : w13.setCell ⟨q, 2, none⟩ (.int .i64 (naskhref23_Sequences.dirR (rd l0 x) v1)) = w14 at hw ⊢
        replace hw := hw14.symm
        have HU14 := Aside0.mk (show Kd.R Kd.bool 4 w14 w2.heap.size (fun k_ => k_ = gU) (.slice (some ⟨gU, 0, none⟩) nR cU) U by rw [hw]; exact Kd.R_far (p := ⟨q, 2, none⟩) HU13.out (fun k_ hk e => HQ.out.2 (e.symm.trans hk)) _)
        have HS14 := Aside0.mk (show Kd.S k51 51 w14 w2.heap.size (fun k_ => (k_ ≠ gU ∧ k_ ≠ q) ∧ some k_ ≠ (.slice (some a9) at_.length c9 : Value).ownBlock) u12 out by rw [hw]; exact Kd.S_far (p := ⟨q, 2, none⟩) HS13.out (fun k_ hk => hk.1.2) _)
        have HR14 := Aside0.mk (show Kd.R (Kd.int .i64) 3 w14 w2.heap.size (fun k_ => k_ ≠ gU ∧ k_ ≠ q ∧ some k_ ≠ u12.ownBlock) (.slice (some a9) at_.length c9) at_ by rw [hw]; exact Kd.R_far (p := ⟨q, 2, none⟩) HR13.out (fun k_ hk => hk.2.1) _)
        have BX14 := Aside0.mk (show w14.heap[q]? = some (.cells #[.slice (some a9) at_.length c9, .int .i64 (rd l0 x), .int .i64 (naskhref23_Sequences.dirR (rd l0 x) v1), .int .i64 0] 51 (0, 0)) by rw [hw]; exact blk_put BX13.out 2 (.int .i64 (naskhref23_Sequences.dirR (rd l0 x) v1)) rfl)
        have HB14 := Aside0.mk (show Below w2.heap.size w2 w14 by rw [hw]; exact below_set HB13.out HQ.out.1)
        clear hw hw14
        go_wp2
        replace HU14 := Aside0.mk (Kd.R_drew HU14.out)
        replace HS14 := Aside0.mk (Kd.S_drew HS14.out)
        replace HR14 := Aside0.mk (Kd.R_drew HR14.out)
        replace BX14 := Aside0.mk (blk_below BX14.out (below_drew (Below.refl _ _)))
        replace HB14 := Aside0.mk (below_drew1 HB14.out)
        refine start_ (n := 12) (S := fun w' => w'.cell? (al.add y.toNat) = some (.int .i64 (rd l0 y))) (ds := [11]) #[false, false, false, false, false, false, false, false, false, false, false, false] (by kernel_rfl) rfl rfl (b_cell rfl HB14.out HXY.out) (fun hHeld => ?_)
        generalize w14.drew = w14d at HU14 HS14 HR14 BX14 HB14 hHeld ⊢
        refine pure_ (i := 0) (N := some 124) (v := ?_) (a' := ?_) #[true, false, false, false, false, false, false, false, false, false, false, false] rfl rfl (by kernel_rfl) (fun _ _ _ h => h) (Or.inl ⟨by rfl, ?_⟩) ?_ ?_
        rotate_left
        ·intro w'
         go_simp
         with_reducible rfl
        rotate_left
        ·simp only [Act.put, List.setIfInBounds_toArray, List.set_cons_zero, List.set_cons_succ, i64_w, i32_w]
         rfl
        refine pure_ (i := 1) (N := some 125) (v := ?_) (a' := ?_) #[true, true, false, false, false, false, false, false, false, false, false, false] rfl rfl (by kernel_rfl) (fun _ _ _ h => h) (Or.inl ⟨by rfl, ?_⟩) ?_ ?_
        rotate_left
        ·intro w'
         go_simp
         with_reducible rfl
        rotate_left
        ·simp only [Act.put, List.setIfInBounds_toArray, List.set_cons_zero, List.set_cons_succ, i64_w, i32_w]
         rfl
        refine pure_ (i := 2) (N := some 126) (v := ?_) (a' := ?_) #[true, true, true, false, false, false, false, false, false, false, false, false] rfl rfl (by kernel_rfl) (fun _ _ _ h => h) (Or.inl ⟨by rfl, ?_⟩) ?_ ?_
        rotate_left
        ·intro w'
         go_simp
         with_reducible rfl
        rotate_left
        ·simp only [Act.put, List.setIfInBounds_toArray, List.set_cons_zero, List.set_cons_succ, i64_w, i32_w]
         rfl
        refine take_ (i := 3) (N := some 127) (v := ?_) (a' := ?_) #[true, true, true, true, false, false, false, false, false, false, false, false] rfl rfl (by kernel_rfl) (fun _ _ _ h => h) (Or.inl ⟨by rfl, ?_⟩) hHeld ?_ ?_
        rotate_left
        ·rintro w' s0
         go_simp
         with_reducible rfl
        rotate_left
        ·simp only [Act.put, List.setIfInBounds_toArray, List.set_cons_zero, List.set_cons_succ, i64_w, i32_w]
         rfl
        refine pure_ (i := 4) (N := some 128) (v := ?_) (a' := ?_) #[true, true, true, true, true, false, false, false, false, false, false, false] rfl rfl (by kernel_rfl) (fun _ _ _ h => h) (Or.inl ⟨by rfl, ?_⟩) ?_ ?_
        rotate_left
        ·intro w'
         go_simp
         with_reducible rfl
        rotate_left
        ·simp only [Act.put, List.setIfInBounds_toArray, List.set_cons_zero, List.set_cons_succ, i64_w, i32_w]
         rfl
        refine pure_ (i := 5) (N := some 129) (v := ?_) (a' := ?_) #[true, true, true, true, true, true, false, false, false, false, false, false] rfl rfl (by kernel_rfl) (fun _ _ _ h => h) (Or.inl ⟨by rfl, ?_⟩) ?_ ?_
        rotate_left
        ·intro w'
         go_simp
         with_reducible rfl
        rotate_left
        ·simp only [Act.put, List.setIfInBounds_toArray, List.set_cons_zero, List.set_cons_succ, i64_w, i32_w]
         rfl
        refine pure_ (i := 6) (N := some 130) (v := ?_) (a' := ?_) #[true, true, true, true, true, true, true, false, false, false, false, false] rfl rfl (by kernel_rfl) (fun _ _ _ h => h) (Or.inl ⟨by rfl, ?_⟩) ?_ ?_
        rotate_left
        ·intro w'
         go_simp
         with_reducible rfl
        rotate_left
        ·simp only [Act.put, List.setIfInBounds_toArray, List.set_cons_zero, List.set_cons_succ, i64_w, i32_w]
         rfl
        refine pure_ (i := 7) (N := some 131) (v := ?_) (a' := ?_) #[true, true, true, true, true, true, true, true, false, false, false, false] rfl rfl (by kernel_rfl) (fun _ _ _ h => h) (Or.inl ⟨by rfl, ?_⟩) ?_ ?_
        rotate_left
        ·intro w'
         go_simp
         with_reducible rfl
        rotate_left
        ·simp only [Act.put, List.setIfInBounds_toArray, List.set_cons_zero, List.set_cons_succ, i64_w, i32_w]
         rfl
        refine one_ (i := 8) (N := some 132) #[true, true, true, true, true, true, true, true, true, false, false, false] rfl rfl (by kernel_rfl) (by decide) (fun K hK => ?_)
        refine (goes_ Try.func42 (by kernel_rfl) rfl #[.slice (some al) l0.length c0, .slice A1 l1.length c1, .int .i64 y, .int .i64 a3] (by rfl) rfl rfl (by (try simp only [List.map_toArray, List.map_cons, List.map_nil]); first | done | rfl) ?_)
        (with_reducible refine (naskhref23_Sequences.below_of (naskhref23_behind.calls k (some al) c0 l0 A1 c1 l1 y a3 v2 _ (Kd.C_below HR0.out (below_step HB2.out HB14.out)) HC0.out (Kd.C_below HR1.out (below_step HB2.out HB14.out)) HC1.out HV2.out)).mono ?_)
        rintro e w15 ⟨rfl, hb⟩
        refine ⟨_, rfl, ?_⟩
        have HU15 := Aside0.mk (Kd.R_below HU14.out hb)
        have HS15 := Aside0.mk (Kd.S_below HS14.out hb)
        have HR15 := Aside0.mk (Kd.R_below HR14.out hb)
        have BX15 := Aside0.mk (blk_below BX14.out hb)
        have HB15 := Aside0.mk (below_step HB14.out hb)
        clear hb
        refine hK.out _ _ (b_cell rfl HB15.out HXY.out) (fun hHeld => ?_)
        clear hK K
        refine norm_ (a' := ?_) ?_ ?_
        rotate_left
        ·show Act.put _ (some 132) _ = _
         simp only [Act.put, List.setIfInBounds_toArray, List.set_cons_zero, List.set_cons_succ, i64_w, i32_w]
         rfl
        refine one_ (i := 9) (N := some 133) #[true, true, true, true, true, true, true, true, true, true, false, false] rfl rfl (by kernel_rfl) (by decide) (fun K hK => ?_)
        refine (goes_ Try.func40 (by kernel_rfl) rfl #[.int .i64 (rd l0 y), .int .i64 v2] (by rfl) rfl rfl (by (try simp only [List.map_toArray, List.map_cons, List.map_nil]); first | done | rfl) ?_)
        (with_reducible refine (naskhref23_Sequences.b_dir _ _ _).mono ?_)
        rintro e w16 ⟨rfl, hb⟩
        refine ⟨_, rfl, ?_⟩
        have HU16 := Aside0.mk (Kd.R_below HU15.out hb)
        have HS16 := Aside0.mk (Kd.S_below HS15.out hb)
        have HR16 := Aside0.mk (Kd.R_below HR15.out hb)
        have BX16 := Aside0.mk (blk_below BX15.out hb)
        have HB16 := Aside0.mk (below_step HB15.out hb)
        clear hb
        refine hK.out _ _ (b_cell rfl HB16.out HXY.out) (fun hHeld => ?_)
        clear hK K
        refine norm_ (a' := ?_) ?_ ?_
        rotate_left
        ·show Act.put _ (some 133) _ = _
         simp only [Act.put, List.setIfInBounds_toArray, List.set_cons_zero, List.set_cons_succ, i64_w, i32_w]
         rfl
        refine pure_ (i := 10) (N := some 134) (v := ?_) (a' := ?_) #[true, true, true, true, true, true, true, true, true, true, true, false] rfl rfl (by kernel_rfl) (fun _ _ _ h => h) (Or.inl ⟨by rfl, ?_⟩) ?_ ?_
        rotate_left
        ·intro w'
         go_simp
         with_reducible rfl
        rotate_left
        ·simp only [Act.put, List.setIfInBounds_toArray, List.set_cons_zero, List.set_cons_succ, i64_w, i32_w]
         rfl
        refine last_ (i := 11) (N := none) #[true, true, true, true, true, true, true, true, true, true, true, true] rfl rfl (by kernel_rfl) (by decide) (fun K hK => ?_)
        have hs := (blk_cell BX16.out 3).trans rfl
        have hf := blk_frozen BX16.out 3
        refine skip_ (w1 := w16.setCell ⟨q, 3, none⟩ (.int .i64 (naskhref23_Sequences.dirR (rd l0 y) v2))) (by rfl) rfl ?_ ?_
        ·first | (go_simp; done) | (go_simp; rfl)
        refine hK.out _ _ ?_
        clear hK K hs hf
        refine done_ (by kernel_rfl) ?_
        generalize hw17 : w16.setCell ⟨q, 3, none⟩ (.int .i64 (naskhref23_Sequences.dirR (rd l0 y) v2)) = w17 at ⊢
        have hw := hw17.symm
        have HU17 := Aside0.mk (show Kd.R Kd.bool 4 w17 w2.heap.size (fun k_ => k_ = gU) (.slice (some ⟨gU, 0, none⟩) nR cU) U by rw [hw]; exact Kd.R_far (p := ⟨q, 3, none⟩) HU16.out (fun k_ hk e => HQ.out.2 (e.symm.trans hk)) _)
        have HS17 := Aside0.mk (show Kd.S k51 51 w17 w2.heap.size (fun k_ => (k_ ≠ gU ∧ k_ ≠ q) ∧ some k_ ≠ (.slice (some a9) at_.length c9 : Value).ownBlock) u12 out by rw [hw]; exact Kd.S_far (p := ⟨q, 3, none⟩) HS16.out (fun k_ hk => hk.1.2) _)
        have HR17 := Aside0.mk (show Kd.R (Kd.int .i64) 3 w17 w2.heap.size (fun k_ => k_ ≠ gU ∧ k_ ≠ q ∧ some k_ ≠ u12.ownBlock) (.slice (some a9) at_.length c9) at_ by rw [hw]; exact Kd.R_far (p := ⟨q, 3, none⟩) HR16.out (fun k_ hk => hk.2.1) _)
        have BX17 := Aside0.mk (show w17.heap[q]? = some (.cells #[.slice (some a9) at_.length c9, .int .i64 (rd l0 x), .int .i64 (naskhref23_Sequences.dirR (rd l0 x) v1), .int .i64 (naskhref23_Sequences.dirR (rd l0 y) v2)] 51 (0, 0)) by rw [hw]; exact blk_put BX16.out 3 (.int .i64 (naskhref23_Sequences.dirR (rd l0 y) v2)) rfl)
        have HB17 := Aside0.mk (show Below w2.heap.size w2 w17 by rw [hw]; exact below_set HB16.out HQ.out.1)
        clear hw hw17
        have lb17 := b_cell rfl HB17.out HXB.out
        by_cases hi : isoB (rd l2 y) = true
        ·by_cases hm : rd M y = (l2.length : Int)
         ·have hbh : behF l2 M y a3 v2 = a3 := by unfold behF; rw [if_pos hi, if_pos hm]
          rw [hbh] at HGO2
          have HOP := Aside0.mk (fun (W : World) => (show Calls Try.prog 24 #[.int .i64 (rd l2 y)] W (fun e w' => e = .returned (.bool true) ∧ Below W.heap.size W w') from by rw [← hi]; exact naskhref23_Sequences.b_opens _ W))
          have m9 : (rd M y == (l2.length : Int)) = true := beq_iff_eq.mpr hm
          clear hi hm hbh
          go_wp2_with (first | (go_at_call 24; (with_reducible refine (HOP.out _).mono ?_); rintro e w18 ⟨rfl, hb⟩; have HU18 := Aside0.mk (Kd.R_below HU17.out hb); have HS18 := Aside0.mk (Kd.S_below HS17.out hb); have HR18 := Aside0.mk (Kd.R_below HR17.out hb); have BX18 := Aside0.mk (blk_below BX17.out hb); have HB18 := Aside0.mk (below_step HB17.out hb); clear hb lb17; have l18 := b_cell rfl HB18.out HXM.out; have y18 := b_cell rfl HB18.out HXY.out) | (go_at_call 40; (with_reducible refine (naskhref23_Sequences.b_dir _ _ _).mono ?_); rintro e w19 ⟨rfl, hb⟩; have HU19 := Aside0.mk (Kd.R_below HU18.out hb); have HS19 := Aside0.mk (Kd.S_below HS18.out hb); have HR19 := Aside0.mk (Kd.R_below HR18.out hb); have BX19 := Aside0.mk (blk_below BX18.out hb); have HB19 := Aside0.mk (below_step HB18.out hb); clear hb l18 y18; have hs := (blk_cell BX19.out 3).trans rfl; have hf := blk_frozen BX19.out 3) | ((with_reducible refine gate_store (t := 3) (p := 155) rfl ?_); refine store_event (t := 3) (p := 155) (v := .tmp 154) (w1 := w19.setCell ⟨q, 3, none⟩ (.int .i64 (naskhref23_Sequences.dirR (rd l0 y) a3))) ?hg ?ho ?hn ?hr ?_; (case ho => rfl); (case hg => rfl); (case hn => rfl); (case hr => first | (go_simp; done) | (go_simp; rfl)); intro w20 hw; have HU20 := Aside0.mk (show Kd.R Kd.bool 4 w20 w2.heap.size (fun k_ => k_ = gU) (.slice (some ⟨gU, 0, none⟩) nR cU) U by rw [hw]; exact Kd.R_far (p := ⟨q, 3, none⟩) HU19.out (fun k_ hk e => HQ.out.2 (e.symm.trans hk)) _); have HS20 := Aside0.mk (show Kd.S k51 51 w20 w2.heap.size (fun k_ => (k_ ≠ gU ∧ k_ ≠ q) ∧ some k_ ≠ (.slice (some a9) at_.length c9 : Value).ownBlock) u12 out by rw [hw]; exact Kd.S_far (p := ⟨q, 3, none⟩) HS19.out (fun k_ hk => hk.1.2) _); have HR20 := Aside0.mk (show Kd.R (Kd.int .i64) 3 w20 w2.heap.size (fun k_ => k_ ≠ gU ∧ k_ ≠ q ∧ some k_ ≠ u12.ownBlock) (.slice (some a9) at_.length c9) at_ by rw [hw]; exact Kd.R_far (p := ⟨q, 3, none⟩) HR19.out (fun k_ hk => hk.2.1) _); have BX20 := Aside0.mk (show w20.heap[q]? = some (.cells #[.slice (some a9) at_.length c9, .int .i64 (rd l0 x), .int .i64 (naskhref23_Sequences.dirR (rd l0 x) v1), .int .i64 (naskhref23_Sequences.dirR (rd l0 y) a3)] 51 (0, 0)) by rw [hw]; exact blk_put BX19.out 3 (.int .i64 (naskhref23_Sequences.dirR (rd l0 y) a3)) rfl); have HB20 := Aside0.mk (show Below w2.heap.size w2 w20 by rw [hw]; exact below_set HB19.out HQ.out.1); clear hw; clear hs hf; have m0 := (blk_cell BX20.out 0).trans rfl; have m1 := (blk_cell BX20.out 1).trans rfl; have m2 := (blk_cell BX20.out 2).trans rfl; have m3 := (blk_cell BX20.out 3).trans rfl) | ((with_reducible refine gate_builtin (b := .append) (xs := #[.tmp 156, .tmp 158]) rfl ?_); at_builtin; refine Kd.S_append k51 (w0 := w2) w2.heap.size rfl (.tmp 156) (.tmp 158) 29 51 (.agg #[(.slice none 0 0), (.int .i64 0), (.int .i64 0), (.int .i64 0)]) 48 rfl Try.underlying29 (by kernel_rfl) rfl (by decide) (by omega) u12 out ⟨at_, rd l0 x, naskhref23_Sequences.dirR (rd l0 x) v1, (naskhref23_Sequences.dirR (rd l0 y) a3)⟩ [.slice (some a9) at_.length c9, .int .i64 (rd l0 x), .int .i64 (naskhref23_Sequences.dirR (rd l0 x) v1), .int .i64 (naskhref23_Sequences.dirR (rd l0 y) a3)] (fun k_ => k_ ≠ gU) (fun k_ => some k_ = (Value.slice (some a9) at_.length c9).ownBlock) rfl rfl ?aP ?aQ ?aF ?aO ?aB ?aS ?aL ?_; (case aP => exact k51_mkM _ _ _ _ (Kd.R_mono (Kd.R_tight rfl HR20.out) (fun _ e => e))); (case aQ => exact (fun k_ hk => ⟨(HR20.out.1 k_ hk.symm).1, (HR20.out.1 k_ hk.symm).2.2⟩)); (case aF => exact (fun k_ hk e => by have h1 := Kd.R_lt HU20.out gU (by simp [Value.ownBlock]); omega)); (case aO => exact Kd.S_mono HS20.out (fun k_ hk => ⟨hk.1.1, hk.2⟩)); (case aB => exact HB20.out); (case aS => exact HB20.out.size); (case aL => have := HLO.out; omega); intro v30 w30 ho hb hg hat; have HS30 := Aside0.mk ho; have HB30 := Aside0.mk hb; have HU30 := Aside0.mk (Kd.R_grown HU20.out hg (fun k_ hk e => by subst hk; exact ((Kd.S_R HS20.out).1 _ e.symm).1.1 rfl)); clear ho hb hg hat))
          go_roundg (R.length - (i + 1))
          case measure => have := HI.out; have := HLT.out; omega
          case rel => exact ⟨i + 1, U, _, by first | rfl | go_num | rw [hwi], ⟨by have := HLT.out; omega, rfl⟩, HUL, HU30, HS30, HB30, HGO2⟩
         ·have hbh : behF l2 M y a3 v2 = v2 := by unfold behF; rw [if_pos hi, if_neg hm]
          rw [hbh] at HGO2
          have HOP := Aside0.mk (fun (W : World) => (show Calls Try.prog 24 #[.int .i64 (rd l2 y)] W (fun e w' => e = .returned (.bool true) ∧ Below W.heap.size W w') from by rw [← hi]; exact naskhref23_Sequences.b_opens _ W))
          have m9 : (rd M y == (l2.length : Int)) = false := beq_eq_false_iff_ne.mpr hm
          clear hi hm hbh
          go_wp2_with (first | (go_at_call 24; (with_reducible refine (HOP.out _).mono ?_); rintro e w18 ⟨rfl, hb⟩; have HU18 := Aside0.mk (Kd.R_below HU17.out hb); have HS18 := Aside0.mk (Kd.S_below HS17.out hb); have HR18 := Aside0.mk (Kd.R_below HR17.out hb); have BX18 := Aside0.mk (blk_below BX17.out hb); have HB18 := Aside0.mk (below_step HB17.out hb); clear hb lb17; have l18 := b_cell rfl HB18.out HXM.out; have y18 := b_cell rfl HB18.out HXY.out; have m0 := (blk_cell BX18.out 0).trans rfl; have m1 := (blk_cell BX18.out 1).trans rfl; have m2 := (blk_cell BX18.out 2).trans rfl; have m3 := (blk_cell BX18.out 3).trans rfl) | ((with_reducible refine gate_builtin (b := .append) (xs := #[.tmp 156, .tmp 158]) rfl ?_); at_builtin; refine Kd.S_append k51 (w0 := w2) w2.heap.size rfl (.tmp 156) (.tmp 158) 29 51 (.agg #[(.slice none 0 0), (.int .i64 0), (.int .i64 0), (.int .i64 0)]) 48 rfl Try.underlying29 (by kernel_rfl) rfl (by decide) (by omega) u12 out ⟨at_, rd l0 x, naskhref23_Sequences.dirR (rd l0 x) v1, (naskhref23_Sequences.dirR (rd l0 y) v2)⟩ [.slice (some a9) at_.length c9, .int .i64 (rd l0 x), .int .i64 (naskhref23_Sequences.dirR (rd l0 x) v1), .int .i64 (naskhref23_Sequences.dirR (rd l0 y) v2)] (fun k_ => k_ ≠ gU) (fun k_ => some k_ = (Value.slice (some a9) at_.length c9).ownBlock) rfl rfl ?aP ?aQ ?aF ?aO ?aB ?aS ?aL ?_; (case aP => exact k51_mkM _ _ _ _ (Kd.R_mono (Kd.R_tight rfl HR18.out) (fun _ e => e))); (case aQ => exact (fun k_ hk => ⟨(HR18.out.1 k_ hk.symm).1, (HR18.out.1 k_ hk.symm).2.2⟩)); (case aF => exact (fun k_ hk e => by have h1 := Kd.R_lt HU18.out gU (by simp [Value.ownBlock]); omega)); (case aO => exact Kd.S_mono HS18.out (fun k_ hk => ⟨hk.1.1, hk.2⟩)); (case aB => exact HB18.out); (case aS => exact HB18.out.size); (case aL => have := HLO.out; omega); intro v30 w30 ho hb hg hat; have HS30 := Aside0.mk ho; have HB30 := Aside0.mk hb; have HU30 := Aside0.mk (Kd.R_grown HU18.out hg (fun k_ hk e => by subst hk; exact ((Kd.S_R HS18.out).1 _ e.symm).1.1 rfl)); clear ho hb hg hat))
          go_roundg (R.length - (i + 1))
          case measure => have := HI.out; have := HLT.out; omega
          case rel => exact ⟨i + 1, U, _, by first | rfl | go_num | rw [hwi], ⟨by have := HLT.out; omega, rfl⟩, HUL, HU30, HS30, HB30, HGO2⟩
        ·have hbh : behF l2 M y a3 v2 = v2 := by unfold behF; rw [if_neg hi]
         rw [hbh] at HGO2
         replace hi := Bool.eq_false_iff.mpr hi
         have HOP := Aside0.mk (fun (W : World) => (show Calls Try.prog 24 #[.int .i64 (rd l2 y)] W (fun e w' => e = .returned (.bool false) ∧ Below W.heap.size W w') from by rw [← hi]; exact naskhref23_Sequences.b_opens _ W))
         clear hi hbh
         go_wp2_with (first | (go_at_call 24; (with_reducible refine (HOP.out _).mono ?_); rintro e w18 ⟨rfl, hb⟩; have HU18 := Aside0.mk (Kd.R_below HU17.out hb); have HS18 := Aside0.mk (Kd.S_below HS17.out hb); have HR18 := Aside0.mk (Kd.R_below HR17.out hb); have BX18 := Aside0.mk (blk_below BX17.out hb); have HB18 := Aside0.mk (below_step HB17.out hb); clear hb lb17; have l18 := b_cell rfl HB18.out HXM.out; have y18 := b_cell rfl HB18.out HXY.out; have m0 := (blk_cell BX18.out 0).trans rfl; have m1 := (blk_cell BX18.out 1).trans rfl; have m2 := (blk_cell BX18.out 2).trans rfl; have m3 := (blk_cell BX18.out 3).trans rfl) | ((with_reducible refine gate_builtin (b := .append) (xs := #[.tmp 156, .tmp 158]) rfl ?_); at_builtin; refine Kd.S_append k51 (w0 := w2) w2.heap.size rfl (.tmp 156) (.tmp 158) 29 51 (.agg #[(.slice none 0 0), (.int .i64 0), (.int .i64 0), (.int .i64 0)]) 48 rfl Try.underlying29 (by kernel_rfl) rfl (by decide) (by omega) u12 out ⟨at_, rd l0 x, naskhref23_Sequences.dirR (rd l0 x) v1, (naskhref23_Sequences.dirR (rd l0 y) v2)⟩ [.slice (some a9) at_.length c9, .int .i64 (rd l0 x), .int .i64 (naskhref23_Sequences.dirR (rd l0 x) v1), .int .i64 (naskhref23_Sequences.dirR (rd l0 y) v2)] (fun k_ => k_ ≠ gU) (fun k_ => some k_ = (Value.slice (some a9) at_.length c9).ownBlock) rfl rfl ?aP ?aQ ?aF ?aO ?aB ?aS ?aL ?_; (case aP => exact k51_mkM _ _ _ _ (Kd.R_mono (Kd.R_tight rfl HR18.out) (fun _ e => e))); (case aQ => exact (fun k_ hk => ⟨(HR18.out.1 k_ hk.symm).1, (HR18.out.1 k_ hk.symm).2.2⟩)); (case aF => exact (fun k_ hk e => by have h1 := Kd.R_lt HU18.out gU (by simp [Value.ownBlock]); omega)); (case aO => exact Kd.S_mono HS18.out (fun k_ hk => ⟨hk.1.1, hk.2⟩)); (case aB => exact HB18.out); (case aS => exact HB18.out.size); (case aL => have := HLO.out; omega); intro v30 w30 ho hb hg hat; have HS30 := Aside0.mk ho; have HB30 := Aside0.mk hb; have HU30 := Aside0.mk (Kd.R_grown HU18.out hg (fun k_ hk e => by subst hk; exact ((Kd.S_R HS18.out).1 _ e.symm).1.1 rfl)); clear ho hb hg hat))
         go_roundg (R.length - (i + 1))
         case measure => have := HI.out; have := HLT.out; omega
         case rel => exact ⟨i + 1, U, _, by first | rfl | go_num | rw [hwi], ⟨by have := HLT.out; omega, rfl⟩, HUL, HU30, HS30, HB30, HGO2⟩
       ·have e1 : U = UF := (congrArg Prod.fst h4).symm
        have e2 : at_ = atF := (congrArg Prod.snd h4).symm
        subst e1 e2
        obtain ⟨xu, fu⟩ := Kd.R_celln false HU.out j h1 (by have := HUL.out; omega)
        rw [h3] at xu
        have j0 : decide (0 ≤ j) = true := decide_eq_true h1
        have j1 := eq_true h1
        have j2 := eq_true (show j < (nR : Int) by have := HUL.out; omega)
        clear h1 h2 h3 h4 HCH fu
        obtain ⟨g0, g1, g2, g3, g4, g5, g6, v1, v2, hv1, hv2, hs⟩ := naskhref23_Sequences.seq_next HSQ.out
        have HGO2 := Aside0.mk (show naskhref23_Sequences.goR k l0 l1 l2 M a3 R (R.length - (i + 1)) U (out ++ [⟨at_, rd l0 (rd at_ 0), naskhref23_Sequences.dirR (rd l0 (rd at_ 0)) v1, naskhref23_Sequences.dirR (rd l0 (lastL at_)) (behF l2 M (lastL at_) a3 v2)⟩]) = some r from hs ▸ HGO1.out)
        clear HGO1 HSQ hs
        obtain ⟨A9, c9, e9, l9, r9⟩ := Kd.R_reads HR.out
        subst e9
        obtain ⟨a9, e, xa0⟩ := at_head r9 g0
        cases e
        obtain ⟨x, hx⟩ : ∃ x, rd at_ 0 = x := ⟨_, rfl⟩
        obtain ⟨y, hy⟩ : ∃ y, lastL at_ = y := ⟨_, rfl⟩
        obtain ⟨z, hz⟩ : ∃ z, (at_.length : Int) - 1 = z := ⟨_, rfl⟩
        have hy2 : rd at_ z = y := by rw [← hz]; exact hy
        obtain ⟨_, e, xa1⟩ := Kd.at_int r9 z (by omega) (by omega)
        cases e
        rw [hy2] at xa1
        rw [hx] at xa0
        rw [hx] at g1 g2 hv1
        rw [hy] at g3 g4 g5 g6 hv2
        rw [hx, hy] at HGO2
        have zw : wrap64 ((at_.length : Int) - 1) = z := by have h99 := Kd.C_max r9; unfold wrap64; omega
        have zw2 : IntKind.i64.wrap ((at_.length : Int) - 1) = z := (i64_w _).trans zw
        obtain ⟨al, e, xl⟩ := Kd.at_int HR0.out x g1 g2
        cases e
        obtain ⟨_, e, yl⟩ := Kd.at_int HR0.out y g3 g4
        cases e
        obtain ⟨ab, e, yb⟩ := Kd.at_int HR2.out y g3 g5
        cases e
        obtain ⟨am, e, ym⟩ := Kd.at_int HMW.out y g3 g6
        cases e
        have HXX := Aside0.mk (b_cell rfl HB2.out xl)
        have HXY := Aside0.mk (b_cell rfl HB2.out yl)
        have HXB := Aside0.mk (b_cell rfl HB2.out yb)
        have HXM := Aside0.mk ym
        have HV1 := Aside0.mk hv1
        have HV2 := Aside0.mk hv2
        have q0 := eq_true g0
        have q00 := eq_true (show (0 : Int) < (at_.length : Int) by omega)
        have q1 := eq_true g1
        have q2 := eq_true g2
        have q3 := eq_true g3
        have q4 := eq_true g4
        have q5 := eq_true g5
        have q6 := eq_true (show y < (nM : Int) by omega)
        have q7 := eq_true (show 0 ≤ z by omega)
        have q8 := eq_true (show z < (at_.length : Int) by omega)
        have xq := (blk_cell BX.out 0).trans rfl
        clear g0 g1 g2 g3 g4 g5 g6 hv1 hv2 hx hy hz hy2 l9 r9 xl yl yb ym
        go_wp2
        go_quiet (first | done)
        have hb := pw_below_drewN (Below.refl wr.heap.size wr) nq
        have HU10 := Aside0.mk (Kd.R_below HU.out hb)
        have HS10 := Aside0.mk (Kd.S_below HS.out hb)
        have HR10 := Aside0.mk (Kd.R_below HR.out hb)
        have BX10 := Aside0.mk (blk_below BX.out hb)
        have HB10 := Aside0.mk (below_step HB.out hb)
        clear hb xa0 xa1 xq
        clear HU HS HR BX HB
        generalize wr.drewN nq = w10 at HU10 HS10 HR10 BX10 HB10 ⊢
        have xl10 := b_cell rfl HB10.out HXX.out
        have hs := (blk_cell BX10.out 1).trans rfl
        have hf := blk_frozen BX10.out 1
        go_wp2_with (first | ((with_reducible refine gate_store (t := 3) (p := 114) rfl ?_); refine store_event (t := 3) (p := 114) (v := .tmp 113) (w1 := w10.setCell ⟨q, 1, none⟩ (.int .i64 (rd l0 x))) ?hg ?ho ?hn ?hr ?_; (case ho => rfl); (case hg => rfl); (case hn => rfl); (case hr => first | (go_simp; done) | (go_simp; rfl)); intro w11 hw; have HU11 := Aside0.mk (show Kd.R Kd.bool 4 w11 w2.heap.size (fun k_ => k_ = gU) (.slice (some ⟨gU, 0, none⟩) nR cU) U by rw [hw]; exact Kd.R_far (p := ⟨q, 1, none⟩) HU10.out (fun k_ hk e => HQ.out.2 (e.symm.trans hk)) _); have HS11 := Aside0.mk (show Kd.S k51 51 w11 w2.heap.size (fun k_ => (k_ ≠ gU ∧ k_ ≠ q) ∧ some k_ ≠ (.slice (some a9) at_.length c9 : Value).ownBlock) u12 out by rw [hw]; exact Kd.S_far (p := ⟨q, 1, none⟩) HS10.out (fun k_ hk => hk.1.2) _); have HR11 := Aside0.mk (show Kd.R (Kd.int .i64) 3 w11 w2.heap.size (fun k_ => k_ ≠ gU ∧ k_ ≠ q ∧ some k_ ≠ u12.ownBlock) (.slice (some a9) at_.length c9) at_ by rw [hw]; exact Kd.R_far (p := ⟨q, 1, none⟩) HR10.out (fun k_ hk => hk.2.1) _); have BX11 := Aside0.mk (show w11.heap[q]? = some (.cells #[.slice (some a9) at_.length c9, .int .i64 (rd l0 x), .int .i64 0, .int .i64 0] 51 (0, 0)) by rw [hw]; exact blk_put BX10.out 1 (.int .i64 (rd l0 x)) rfl); have HB11 := Aside0.mk (show Below w2.heap.size w2 w11 by rw [hw]; exact below_set HB10.out HQ.out.1); clear hw; clear hs hf xl10))
        replace HU11 := Aside0.mk (Kd.R_drew HU11.out)
        replace HS11 := Aside0.mk (Kd.S_drew HS11.out)
        replace HR11 := Aside0.mk (Kd.R_drew HR11.out)
        replace BX11 := Aside0.mk (blk_below BX11.out (below_drew (Below.refl _ _)))
        replace HB11 := Aside0.mk (below_drew1 HB11.out)
        refine start_ (n := 10) (S := fun w' => w'.cell? ⟨q, 1, none⟩ = some (.int .i64 (rd l0 x))) (ds := [9]) #[false, false, false, false, false, false, false, false, false, false] (by kernel_rfl) rfl rfl ((blk_cell BX11.out 1).trans rfl) (fun hHeld => ?_)
        generalize w11.drew = w11d at HU11 HS11 HR11 BX11 HB11 hHeld ⊢
        refine pure_ (i := 0) (N := some 115) (v := ?_) (a' := ?_) #[true, false, false, false, false, false, false, false, false, false] rfl rfl (by kernel_rfl) (fun _ _ _ h => h) (Or.inl ⟨by rfl, ?_⟩) ?_ ?_
        rotate_left
        ·intro w'
         go_simp
         with_reducible rfl
        rotate_left
        ·simp only [Act.put, List.setIfInBounds_toArray, List.set_cons_zero, List.set_cons_succ, i64_w, i32_w]
         rfl
        refine take_ (i := 1) (N := some 116) (v := ?_) (a' := ?_) #[true, true, false, false, false, false, false, false, false, false] rfl rfl (by kernel_rfl) (fun _ _ _ h => h) (Or.inl ⟨by rfl, ?_⟩) hHeld ?_ ?_
        rotate_left
        ·rintro w' s0
         go_simp
         with_reducible rfl
        rotate_left
        ·simp only [Act.put, List.setIfInBounds_toArray, List.set_cons_zero, List.set_cons_succ, i64_w, i32_w]
         rfl
        refine pure_ (i := 2) (N := some 117) (v := ?_) (a' := ?_) #[true, true, true, false, false, false, false, false, false, false] rfl rfl (by kernel_rfl) (fun _ _ _ h => h) (Or.inl ⟨by rfl, ?_⟩) ?_ ?_
        rotate_left
        ·intro w'
         go_simp
         with_reducible rfl
        rotate_left
        ·simp only [Act.put, List.setIfInBounds_toArray, List.set_cons_zero, List.set_cons_succ, i64_w, i32_w]
         rfl
        refine pure_ (i := 3) (N := some 118) (v := ?_) (a' := ?_) #[true, true, true, true, false, false, false, false, false, false] rfl rfl (by kernel_rfl) (fun _ _ _ h => h) (Or.inl ⟨by rfl, ?_⟩) ?_ ?_
        rotate_left
        ·intro w'
         go_simp
         with_reducible rfl
        rotate_left
        ·simp only [Act.put, List.setIfInBounds_toArray, List.set_cons_zero, List.set_cons_succ, i64_w, i32_w]
         rfl
        refine pure_ (i := 4) (N := some 119) (v := ?_) (a' := ?_) #[true, true, true, true, true, false, false, false, false, false] rfl rfl (by kernel_rfl) (fun _ _ _ h => h) (Or.inl ⟨by rfl, ?_⟩) ?_ ?_
        rotate_left
        ·intro w'
         go_simp
         with_reducible rfl
        rotate_left
        ·simp only [Act.put, List.setIfInBounds_toArray, List.set_cons_zero, List.set_cons_succ, i64_w, i32_w]
         rfl
        refine pure_ (i := 5) (N := some 120) (v := ?_) (a' := ?_) #[true, true, true, true, true, true, false, false, false, false] rfl rfl (by kernel_rfl) (fun _ _ _ h => h) (Or.inl ⟨by rfl, ?_⟩) ?_ ?_
        rotate_left
        ·intro w'
         go_simp
         with_reducible rfl
        rotate_left
        ·simp only [Act.put, List.setIfInBounds_toArray, List.set_cons_zero, List.set_cons_succ, i64_w, i32_w]
         rfl
        refine one_ (i := 6) (N := some 121) #[true, true, true, true, true, true, true, false, false, false] rfl rfl (by kernel_rfl) (by decide) (fun K hK => ?_)
        refine (goes_ Try.func41 (by kernel_rfl) rfl #[.slice (some al) l0.length c0, .slice A1 l1.length c1, .int .i64 x, .int .i64 a3] (by rfl) rfl rfl (by (try simp only [List.map_toArray, List.map_cons, List.map_nil]); first | done | rfl) ?_)
        (with_reducible refine (naskhref23_Sequences.below_of (naskhref23_ahead.calls k (some al) c0 l0 A1 c1 l1 x a3 v1 _ (Kd.C_below HR0.out (below_step HB2.out HB11.out)) HC0.out (Kd.C_below HR1.out (below_step HB2.out HB11.out)) HC1.out HV1.out)).mono ?_)
        rintro e w12 ⟨rfl, hb⟩
        refine ⟨_, rfl, ?_⟩
        have HU12 := Aside0.mk (Kd.R_below HU11.out hb)
        have HS12 := Aside0.mk (Kd.S_below HS11.out hb)
        have HR12 := Aside0.mk (Kd.R_below HR11.out hb)
        have BX12 := Aside0.mk (blk_below BX11.out hb)
        have HB12 := Aside0.mk (below_step HB11.out hb)
        clear hb
        refine hK.out _ _ ((blk_cell BX12.out 1).trans rfl) (fun hHeld => ?_)
        clear hK K
        refine norm_ (a' := ?_) ?_ ?_
        rotate_left
        ·show Act.put _ (some 121) _ = _
         simp only [Act.put, List.setIfInBounds_toArray, List.set_cons_zero, List.set_cons_succ, i64_w, i32_w]
         rfl
        refine one_ (i := 7) (N := some 122) #[true, true, true, true, true, true, true, true, false, false] rfl rfl (by kernel_rfl) (by decide) (fun K hK => ?_)
        refine (goes_ Try.func40 (by kernel_rfl) rfl #[.int .i64 (rd l0 x), .int .i64 v1] (by rfl) rfl rfl (by (try simp only [List.map_toArray, List.map_cons, List.map_nil]); first | done | rfl) ?_)
        (with_reducible refine (naskhref23_Sequences.b_dir _ _ _).mono ?_)
        rintro e w13 ⟨rfl, hb⟩
        refine ⟨_, rfl, ?_⟩
        have HU13 := Aside0.mk (Kd.R_below HU12.out hb)
        have HS13 := Aside0.mk (Kd.S_below HS12.out hb)
        have HR13 := Aside0.mk (Kd.R_below HR12.out hb)
        have BX13 := Aside0.mk (blk_below BX12.out hb)
        have HB13 := Aside0.mk (below_step HB12.out hb)
        clear hb
        refine hK.out _ _ ((blk_cell BX13.out 1).trans rfl) (fun hHeld => ?_)
        clear hK K
        refine norm_ (a' := ?_) ?_ ?_
        rotate_left
        ·show Act.put _ (some 122) _ = _
         simp only [Act.put, List.setIfInBounds_toArray, List.set_cons_zero, List.set_cons_succ, i64_w, i32_w]
         rfl
        refine pure_ (i := 8) (N := some 123) (v := ?_) (a' := ?_) #[true, true, true, true, true, true, true, true, true, false] rfl rfl (by kernel_rfl) (fun _ _ _ h => h) (Or.inl ⟨by rfl, ?_⟩) ?_ ?_
        rotate_left
        ·intro w'
         go_simp
         with_reducible rfl
        rotate_left
        ·simp only [Act.put, List.setIfInBounds_toArray, List.set_cons_zero, List.set_cons_succ, i64_w, i32_w]
         rfl
        refine last_ (i := 9) (N := none) #[true, true, true, true, true, true, true, true, true, true] rfl rfl (by kernel_rfl) (by decide) (fun K hK => ?_)
        have hs := (blk_cell BX13.out 2).trans rfl
        have hf := blk_frozen BX13.out 2
        refine skip_ (w1 := w13.setCell ⟨q, 2, none⟩ (.int .i64 (naskhref23_Sequences.dirR (rd l0 x) v1))) (by rfl) rfl ?_ ?_
        ·first | (go_simp; done) | (go_simp; rfl)
        refine hK.out _ _ ?_
        clear hK K hs hf
        refine done_ (by kernel_rfl) ?_
        have hw := (rfl : w13.setCell ⟨q, 2, none⟩ (.int .i64 (naskhref23_Sequences.dirR (rd l0 x) v1)) = w13.setCell ⟨q, 2, none⟩ (.int .i64 (naskhref23_Sequences.dirR (rd l0 x) v1)))
        generalize hw14 : w13.setCell ⟨q, 2, none⟩ (.int .i64 (naskhref23_Sequences.dirR (rd l0 x) v1)) = w14 at hw ⊢
        replace hw := hw14.symm
        have HU14 := Aside0.mk (show Kd.R Kd.bool 4 w14 w2.heap.size (fun k_ => k_ = gU) (.slice (some ⟨gU, 0, none⟩) nR cU) U by rw [hw]; exact Kd.R_far (p := ⟨q, 2, none⟩) HU13.out (fun k_ hk e => HQ.out.2 (e.symm.trans hk)) _)
        have HS14 := Aside0.mk (show Kd.S k51 51 w14 w2.heap.size (fun k_ => (k_ ≠ gU ∧ k_ ≠ q) ∧ some k_ ≠ (.slice (some a9) at_.length c9 : Value).ownBlock) u12 out by rw [hw]; exact Kd.S_far (p := ⟨q, 2, none⟩) HS13.out (fun k_ hk => hk.1.2) _)
        have HR14 := Aside0.mk (show Kd.R (Kd.int .i64) 3 w14 w2.heap.size (fun k_ => k_ ≠ gU ∧ k_ ≠ q ∧ some k_ ≠ u12.ownBlock) (.slice (some a9) at_.length c9) at_ by rw [hw]; exact Kd.R_far (p := ⟨q, 2, none⟩) HR13.out (fun k_ hk => hk.2.1) _)
        have BX14 := Aside0.mk (show w14.heap[q]? = some (.cells #[.slice (some a9) at_.length c9, .int .i64 (rd l0 x), .int .i64 (naskhref23_Sequences.dirR (rd l0 x) v1), .int .i64 0] 51 (0, 0)) by rw [hw]; exact blk_put BX13.out 2 (.int .i64 (naskhref23_Sequences.dirR (rd l0 x) v1)) rfl)
        have HB14 := Aside0.mk (show Below w2.heap.size w2 w14 by rw [hw]; exact below_set HB13.out HQ.out.1)
        clear hw hw14
        go_wp2
        replace HU14 := Aside0.mk (Kd.R_drew HU14.out)
        replace HS14 := Aside0.mk (Kd.S_drew HS14.out)
        replace HR14 := Aside0.mk (Kd.R_drew HR14.out)
        replace BX14 := Aside0.mk (blk_below BX14.out (below_drew (Below.refl _ _)))
        replace HB14 := Aside0.mk (below_drew1 HB14.out)
        refine start_ (n := 12) (S := fun w' => w'.cell? (al.add y.toNat) = some (.int .i64 (rd l0 y))) (ds := [11]) #[false, false, false, false, false, false, false, false, false, false, false, false] (by kernel_rfl) rfl rfl (b_cell rfl HB14.out HXY.out) (fun hHeld => ?_)
        generalize w14.drew = w14d at HU14 HS14 HR14 BX14 HB14 hHeld ⊢
        refine pure_ (i := 0) (N := some 124) (v := ?_) (a' := ?_) #[true, false, false, false, false, false, false, false, false, false, false, false] rfl rfl (by kernel_rfl) (fun _ _ _ h => h) (Or.inl ⟨by rfl, ?_⟩) ?_ ?_
        rotate_left
        ·intro w'
         go_simp
         with_reducible rfl
        rotate_left
        ·simp only [Act.put, List.setIfInBounds_toArray, List.set_cons_zero, List.set_cons_succ, i64_w, i32_w]
         rfl
        refine pure_ (i := 1) (N := some 125) (v := ?_) (a' := ?_) #[true, true, false, false, false, false, false, false, false, false, false, false] rfl rfl (by kernel_rfl) (fun _ _ _ h => h) (Or.inl ⟨by rfl, ?_⟩) ?_ ?_
        rotate_left
        ·intro w'
         go_simp
         with_reducible rfl
        rotate_left
        ·simp only [Act.put, List.setIfInBounds_toArray, List.set_cons_zero, List.set_cons_succ, i64_w, i32_w]
         rfl
        refine pure_ (i := 2) (N := some 126) (v := ?_) (a' := ?_) #[true, true, true, false, false, false, false, false, false, false, false, false] rfl rfl (by kernel_rfl) (fun _ _ _ h => h) (Or.inl ⟨by rfl, ?_⟩) ?_ ?_
        rotate_left
        ·intro w'
         go_simp
         with_reducible rfl
        rotate_left
        ·simp only [Act.put, List.setIfInBounds_toArray, List.set_cons_zero, List.set_cons_succ, i64_w, i32_w]
         rfl
        refine take_ (i := 3) (N := some 127) (v := ?_) (a' := ?_) #[true, true, true, true, false, false, false, false, false, false, false, false] rfl rfl (by kernel_rfl) (fun _ _ _ h => h) (Or.inl ⟨by rfl, ?_⟩) hHeld ?_ ?_
        rotate_left
        ·rintro w' s0
         go_simp
         with_reducible rfl
        rotate_left
        ·simp only [Act.put, List.setIfInBounds_toArray, List.set_cons_zero, List.set_cons_succ, i64_w, i32_w]
         rfl
        refine pure_ (i := 4) (N := some 128) (v := ?_) (a' := ?_) #[true, true, true, true, true, false, false, false, false, false, false, false] rfl rfl (by kernel_rfl) (fun _ _ _ h => h) (Or.inl ⟨by rfl, ?_⟩) ?_ ?_
        rotate_left
        ·intro w'
         go_simp
         with_reducible rfl
        rotate_left
        ·simp only [Act.put, List.setIfInBounds_toArray, List.set_cons_zero, List.set_cons_succ, i64_w, i32_w]
         rfl
        refine pure_ (i := 5) (N := some 129) (v := ?_) (a' := ?_) #[true, true, true, true, true, true, false, false, false, false, false, false] rfl rfl (by kernel_rfl) (fun _ _ _ h => h) (Or.inl ⟨by rfl, ?_⟩) ?_ ?_
        rotate_left
        ·intro w'
         go_simp
         with_reducible rfl
        rotate_left
        ·simp only [Act.put, List.setIfInBounds_toArray, List.set_cons_zero, List.set_cons_succ, i64_w, i32_w]
         rfl
        refine pure_ (i := 6) (N := some 130) (v := ?_) (a' := ?_) #[true, true, true, true, true, true, true, false, false, false, false, false] rfl rfl (by kernel_rfl) (fun _ _ _ h => h) (Or.inl ⟨by rfl, ?_⟩) ?_ ?_
        rotate_left
        ·intro w'
         go_simp
         with_reducible rfl
        rotate_left
        ·simp only [Act.put, List.setIfInBounds_toArray, List.set_cons_zero, List.set_cons_succ, i64_w, i32_w]
         rfl
        refine pure_ (i := 7) (N := some 131) (v := ?_) (a' := ?_) #[true, true, true, true, true, true, true, true, false, false, false, false] rfl rfl (by kernel_rfl) (fun _ _ _ h => h) (Or.inl ⟨by rfl, ?_⟩) ?_ ?_
        rotate_left
        ·intro w'
         go_simp
         with_reducible rfl
        rotate_left
        ·simp only [Act.put, List.setIfInBounds_toArray, List.set_cons_zero, List.set_cons_succ, i64_w, i32_w]
         rfl
        refine one_ (i := 8) (N := some 132) #[true, true, true, true, true, true, true, true, true, false, false, false] rfl rfl (by kernel_rfl) (by decide) (fun K hK => ?_)
        refine (goes_ Try.func42 (by kernel_rfl) rfl #[.slice (some al) l0.length c0, .slice A1 l1.length c1, .int .i64 y, .int .i64 a3] (by rfl) rfl rfl (by (try simp only [List.map_toArray, List.map_cons, List.map_nil]); first | done | rfl) ?_)
        (with_reducible refine (naskhref23_Sequences.below_of (naskhref23_behind.calls k (some al) c0 l0 A1 c1 l1 y a3 v2 _ (Kd.C_below HR0.out (below_step HB2.out HB14.out)) HC0.out (Kd.C_below HR1.out (below_step HB2.out HB14.out)) HC1.out HV2.out)).mono ?_)
        rintro e w15 ⟨rfl, hb⟩
        refine ⟨_, rfl, ?_⟩
        have HU15 := Aside0.mk (Kd.R_below HU14.out hb)
        have HS15 := Aside0.mk (Kd.S_below HS14.out hb)
        have HR15 := Aside0.mk (Kd.R_below HR14.out hb)
        have BX15 := Aside0.mk (blk_below BX14.out hb)
        have HB15 := Aside0.mk (below_step HB14.out hb)
        clear hb
        refine hK.out _ _ (b_cell rfl HB15.out HXY.out) (fun hHeld => ?_)
        clear hK K
        refine norm_ (a' := ?_) ?_ ?_
        rotate_left
        ·show Act.put _ (some 132) _ = _
         simp only [Act.put, List.setIfInBounds_toArray, List.set_cons_zero, List.set_cons_succ, i64_w, i32_w]
         rfl
        refine one_ (i := 9) (N := some 133) #[true, true, true, true, true, true, true, true, true, true, false, false] rfl rfl (by kernel_rfl) (by decide) (fun K hK => ?_)
        refine (goes_ Try.func40 (by kernel_rfl) rfl #[.int .i64 (rd l0 y), .int .i64 v2] (by rfl) rfl rfl (by (try simp only [List.map_toArray, List.map_cons, List.map_nil]); first | done | rfl) ?_)
        (with_reducible refine (naskhref23_Sequences.b_dir _ _ _).mono ?_)
        rintro e w16 ⟨rfl, hb⟩
        refine ⟨_, rfl, ?_⟩
        have HU16 := Aside0.mk (Kd.R_below HU15.out hb)
        have HS16 := Aside0.mk (Kd.S_below HS15.out hb)
        have HR16 := Aside0.mk (Kd.R_below HR15.out hb)
        have BX16 := Aside0.mk (blk_below BX15.out hb)
        have HB16 := Aside0.mk (below_step HB15.out hb)
        clear hb
        refine hK.out _ _ (b_cell rfl HB16.out HXY.out) (fun hHeld => ?_)
        clear hK K
        refine norm_ (a' := ?_) ?_ ?_
        rotate_left
        ·show Act.put _ (some 133) _ = _
         simp only [Act.put, List.setIfInBounds_toArray, List.set_cons_zero, List.set_cons_succ, i64_w, i32_w]
         rfl
        refine pure_ (i := 10) (N := some 134) (v := ?_) (a' := ?_) #[true, true, true, true, true, true, true, true, true, true, true, false] rfl rfl (by kernel_rfl) (fun _ _ _ h => h) (Or.inl ⟨by rfl, ?_⟩) ?_ ?_
        rotate_left
        ·intro w'
         go_simp
         with_reducible rfl
        rotate_left
        ·simp only [Act.put, List.setIfInBounds_toArray, List.set_cons_zero, List.set_cons_succ, i64_w, i32_w]
         rfl
        refine last_ (i := 11) (N := none) #[true, true, true, true, true, true, true, true, true, true, true, true] rfl rfl (by kernel_rfl) (by decide) (fun K hK => ?_)
        have hs := (blk_cell BX16.out 3).trans rfl
        have hf := blk_frozen BX16.out 3
        refine skip_ (w1 := w16.setCell ⟨q, 3, none⟩ (.int .i64 (naskhref23_Sequences.dirR (rd l0 y) v2))) (by rfl) rfl ?_ ?_
        ·first | (go_simp; done) | (go_simp; rfl)
        refine hK.out _ _ ?_
        clear hK K hs hf
        refine done_ (by kernel_rfl) ?_
        generalize hw17 : w16.setCell ⟨q, 3, none⟩ (.int .i64 (naskhref23_Sequences.dirR (rd l0 y) v2)) = w17 at ⊢
        have hw := hw17.symm
        have HU17 := Aside0.mk (show Kd.R Kd.bool 4 w17 w2.heap.size (fun k_ => k_ = gU) (.slice (some ⟨gU, 0, none⟩) nR cU) U by rw [hw]; exact Kd.R_far (p := ⟨q, 3, none⟩) HU16.out (fun k_ hk e => HQ.out.2 (e.symm.trans hk)) _)
        have HS17 := Aside0.mk (show Kd.S k51 51 w17 w2.heap.size (fun k_ => (k_ ≠ gU ∧ k_ ≠ q) ∧ some k_ ≠ (.slice (some a9) at_.length c9 : Value).ownBlock) u12 out by rw [hw]; exact Kd.S_far (p := ⟨q, 3, none⟩) HS16.out (fun k_ hk => hk.1.2) _)
        have HR17 := Aside0.mk (show Kd.R (Kd.int .i64) 3 w17 w2.heap.size (fun k_ => k_ ≠ gU ∧ k_ ≠ q ∧ some k_ ≠ u12.ownBlock) (.slice (some a9) at_.length c9) at_ by rw [hw]; exact Kd.R_far (p := ⟨q, 3, none⟩) HR16.out (fun k_ hk => hk.2.1) _)
        have BX17 := Aside0.mk (show w17.heap[q]? = some (.cells #[.slice (some a9) at_.length c9, .int .i64 (rd l0 x), .int .i64 (naskhref23_Sequences.dirR (rd l0 x) v1), .int .i64 (naskhref23_Sequences.dirR (rd l0 y) v2)] 51 (0, 0)) by rw [hw]; exact blk_put BX16.out 3 (.int .i64 (naskhref23_Sequences.dirR (rd l0 y) v2)) rfl)
        have HB17 := Aside0.mk (show Below w2.heap.size w2 w17 by rw [hw]; exact below_set HB16.out HQ.out.1)
        clear hw hw17
        have lb17 := b_cell rfl HB17.out HXB.out
        by_cases hi : isoB (rd l2 y) = true
        ·by_cases hm : rd M y = (l2.length : Int)
         ·have hbh : behF l2 M y a3 v2 = a3 := by unfold behF; rw [if_pos hi, if_pos hm]
          rw [hbh] at HGO2
          have HOP := Aside0.mk (fun (W : World) => (show Calls Try.prog 24 #[.int .i64 (rd l2 y)] W (fun e w' => e = .returned (.bool true) ∧ Below W.heap.size W w') from by rw [← hi]; exact naskhref23_Sequences.b_opens _ W))
          have m9 : (rd M y == (l2.length : Int)) = true := beq_iff_eq.mpr hm
          clear hi hm hbh
          go_wp2_with (first | (go_at_call 24; (with_reducible refine (HOP.out _).mono ?_); rintro e w18 ⟨rfl, hb⟩; have HU18 := Aside0.mk (Kd.R_below HU17.out hb); have HS18 := Aside0.mk (Kd.S_below HS17.out hb); have HR18 := Aside0.mk (Kd.R_below HR17.out hb); have BX18 := Aside0.mk (blk_below BX17.out hb); have HB18 := Aside0.mk (below_step HB17.out hb); clear hb lb17; have l18 := b_cell rfl HB18.out HXM.out; have y18 := b_cell rfl HB18.out HXY.out) | (go_at_call 40; (with_reducible refine (naskhref23_Sequences.b_dir _ _ _).mono ?_); rintro e w19 ⟨rfl, hb⟩; have HU19 := Aside0.mk (Kd.R_below HU18.out hb); have HS19 := Aside0.mk (Kd.S_below HS18.out hb); have HR19 := Aside0.mk (Kd.R_below HR18.out hb); have BX19 := Aside0.mk (blk_below BX18.out hb); have HB19 := Aside0.mk (below_step HB18.out hb); clear hb l18 y18; have hs := (blk_cell BX19.out 3).trans rfl; have hf := blk_frozen BX19.out 3) | ((with_reducible refine gate_store (t := 3) (p := 155) rfl ?_); refine store_event (t := 3) (p := 155) (v := .tmp 154) (w1 := w19.setCell ⟨q, 3, none⟩ (.int .i64 (naskhref23_Sequences.dirR (rd l0 y) a3))) ?hg ?ho ?hn ?hr ?_; (case ho => rfl); (case hg => rfl); (case hn => rfl); (case hr => first | (go_simp; done) | (go_simp; rfl)); intro w20 hw; have HU20 := Aside0.mk (show Kd.R Kd.bool 4 w20 w2.heap.size (fun k_ => k_ = gU) (.slice (some ⟨gU, 0, none⟩) nR cU) U by rw [hw]; exact Kd.R_far (p := ⟨q, 3, none⟩) HU19.out (fun k_ hk e => HQ.out.2 (e.symm.trans hk)) _); have HS20 := Aside0.mk (show Kd.S k51 51 w20 w2.heap.size (fun k_ => (k_ ≠ gU ∧ k_ ≠ q) ∧ some k_ ≠ (.slice (some a9) at_.length c9 : Value).ownBlock) u12 out by rw [hw]; exact Kd.S_far (p := ⟨q, 3, none⟩) HS19.out (fun k_ hk => hk.1.2) _); have HR20 := Aside0.mk (show Kd.R (Kd.int .i64) 3 w20 w2.heap.size (fun k_ => k_ ≠ gU ∧ k_ ≠ q ∧ some k_ ≠ u12.ownBlock) (.slice (some a9) at_.length c9) at_ by rw [hw]; exact Kd.R_far (p := ⟨q, 3, none⟩) HR19.out (fun k_ hk => hk.2.1) _); have BX20 := Aside0.mk (show w20.heap[q]? = some (.cells #[.slice (some a9) at_.length c9, .int .i64 (rd l0 x), .int .i64 (naskhref23_Sequences.dirR (rd l0 x) v1), .int .i64 (naskhref23_Sequences.dirR (rd l0 y) a3)] 51 (0, 0)) by rw [hw]; exact blk_put BX19.out 3 (.int .i64 (naskhref23_Sequences.dirR (rd l0 y) a3)) rfl); have HB20 := Aside0.mk (show Below w2.heap.size w2 w20 by rw [hw]; exact below_set HB19.out HQ.out.1); clear hw; clear hs hf; have m0 := (blk_cell BX20.out 0).trans rfl; have m1 := (blk_cell BX20.out 1).trans rfl; have m2 := (blk_cell BX20.out 2).trans rfl; have m3 := (blk_cell BX20.out 3).trans rfl) | ((with_reducible refine gate_builtin (b := .append) (xs := #[.tmp 156, .tmp 158]) rfl ?_); at_builtin; refine Kd.S_append k51 (w0 := w2) w2.heap.size rfl (.tmp 156) (.tmp 158) 29 51 (.agg #[(.slice none 0 0), (.int .i64 0), (.int .i64 0), (.int .i64 0)]) 48 rfl Try.underlying29 (by kernel_rfl) rfl (by decide) (by omega) u12 out ⟨at_, rd l0 x, naskhref23_Sequences.dirR (rd l0 x) v1, (naskhref23_Sequences.dirR (rd l0 y) a3)⟩ [.slice (some a9) at_.length c9, .int .i64 (rd l0 x), .int .i64 (naskhref23_Sequences.dirR (rd l0 x) v1), .int .i64 (naskhref23_Sequences.dirR (rd l0 y) a3)] (fun k_ => k_ ≠ gU) (fun k_ => some k_ = (Value.slice (some a9) at_.length c9).ownBlock) rfl rfl ?aP ?aQ ?aF ?aO ?aB ?aS ?aL ?_; (case aP => exact k51_mkM _ _ _ _ (Kd.R_mono (Kd.R_tight rfl HR20.out) (fun _ e => e))); (case aQ => exact (fun k_ hk => ⟨(HR20.out.1 k_ hk.symm).1, (HR20.out.1 k_ hk.symm).2.2⟩)); (case aF => exact (fun k_ hk e => by have h1 := Kd.R_lt HU20.out gU (by simp [Value.ownBlock]); omega)); (case aO => exact Kd.S_mono HS20.out (fun k_ hk => ⟨hk.1.1, hk.2⟩)); (case aB => exact HB20.out); (case aS => exact HB20.out.size); (case aL => have := HLO.out; omega); intro v30 w30 ho hb hg hat; have HS30 := Aside0.mk ho; have HB30 := Aside0.mk hb; have HU30 := Aside0.mk (Kd.R_grown HU20.out hg (fun k_ hk e => by subst hk; exact ((Kd.S_R HS20.out).1 _ e.symm).1.1 rfl)); clear ho hb hg hat))
          go_roundg (R.length - (i + 1))
          case measure => have := HI.out; have := HLT.out; omega
          case rel => exact ⟨i + 1, U, _, by first | rfl | go_num | rw [hwi], ⟨by have := HLT.out; omega, rfl⟩, HUL, HU30, HS30, HB30, HGO2⟩
         ·have hbh : behF l2 M y a3 v2 = v2 := by unfold behF; rw [if_pos hi, if_neg hm]
          rw [hbh] at HGO2
          have HOP := Aside0.mk (fun (W : World) => (show Calls Try.prog 24 #[.int .i64 (rd l2 y)] W (fun e w' => e = .returned (.bool true) ∧ Below W.heap.size W w') from by rw [← hi]; exact naskhref23_Sequences.b_opens _ W))
          have m9 : (rd M y == (l2.length : Int)) = false := beq_eq_false_iff_ne.mpr hm
          clear hi hm hbh
          go_wp2_with (first | (go_at_call 24; (with_reducible refine (HOP.out _).mono ?_); rintro e w18 ⟨rfl, hb⟩; have HU18 := Aside0.mk (Kd.R_below HU17.out hb); have HS18 := Aside0.mk (Kd.S_below HS17.out hb); have HR18 := Aside0.mk (Kd.R_below HR17.out hb); have BX18 := Aside0.mk (blk_below BX17.out hb); have HB18 := Aside0.mk (below_step HB17.out hb); clear hb lb17; have l18 := b_cell rfl HB18.out HXM.out; have y18 := b_cell rfl HB18.out HXY.out; have m0 := (blk_cell BX18.out 0).trans rfl; have m1 := (blk_cell BX18.out 1).trans rfl; have m2 := (blk_cell BX18.out 2).trans rfl; have m3 := (blk_cell BX18.out 3).trans rfl) | ((with_reducible refine gate_builtin (b := .append) (xs := #[.tmp 156, .tmp 158]) rfl ?_); at_builtin; refine Kd.S_append k51 (w0 := w2) w2.heap.size rfl (.tmp 156) (.tmp 158) 29 51 (.agg #[(.slice none 0 0), (.int .i64 0), (.int .i64 0), (.int .i64 0)]) 48 rfl Try.underlying29 (by kernel_rfl) rfl (by decide) (by omega) u12 out ⟨at_, rd l0 x, naskhref23_Sequences.dirR (rd l0 x) v1, (naskhref23_Sequences.dirR (rd l0 y) v2)⟩ [.slice (some a9) at_.length c9, .int .i64 (rd l0 x), .int .i64 (naskhref23_Sequences.dirR (rd l0 x) v1), .int .i64 (naskhref23_Sequences.dirR (rd l0 y) v2)] (fun k_ => k_ ≠ gU) (fun k_ => some k_ = (Value.slice (some a9) at_.length c9).ownBlock) rfl rfl ?aP ?aQ ?aF ?aO ?aB ?aS ?aL ?_; (case aP => exact k51_mkM _ _ _ _ (Kd.R_mono (Kd.R_tight rfl HR18.out) (fun _ e => e))); (case aQ => exact (fun k_ hk => ⟨(HR18.out.1 k_ hk.symm).1, (HR18.out.1 k_ hk.symm).2.2⟩)); (case aF => exact (fun k_ hk e => by have h1 := Kd.R_lt HU18.out gU (by simp [Value.ownBlock]); omega)); (case aO => exact Kd.S_mono HS18.out (fun k_ hk => ⟨hk.1.1, hk.2⟩)); (case aB => exact HB18.out); (case aS => exact HB18.out.size); (case aL => have := HLO.out; omega); intro v30 w30 ho hb hg hat; have HS30 := Aside0.mk ho; have HB30 := Aside0.mk hb; have HU30 := Aside0.mk (Kd.R_grown HU18.out hg (fun k_ hk e => by subst hk; exact ((Kd.S_R HS18.out).1 _ e.symm).1.1 rfl)); clear ho hb hg hat))
          go_roundg (R.length - (i + 1))
          case measure => have := HI.out; have := HLT.out; omega
          case rel => exact ⟨i + 1, U, _, by first | rfl | go_num | rw [hwi], ⟨by have := HLT.out; omega, rfl⟩, HUL, HU30, HS30, HB30, HGO2⟩
        ·have hbh : behF l2 M y a3 v2 = v2 := by unfold behF; rw [if_neg hi]
         rw [hbh] at HGO2
         replace hi := Bool.eq_false_iff.mpr hi
         have HOP := Aside0.mk (fun (W : World) => (show Calls Try.prog 24 #[.int .i64 (rd l2 y)] W (fun e w' => e = .returned (.bool false) ∧ Below W.heap.size W w') from by rw [← hi]; exact naskhref23_Sequences.b_opens _ W))
         clear hi hbh
         go_wp2_with (first | (go_at_call 24; (with_reducible refine (HOP.out _).mono ?_); rintro e w18 ⟨rfl, hb⟩; have HU18 := Aside0.mk (Kd.R_below HU17.out hb); have HS18 := Aside0.mk (Kd.S_below HS17.out hb); have HR18 := Aside0.mk (Kd.R_below HR17.out hb); have BX18 := Aside0.mk (blk_below BX17.out hb); have HB18 := Aside0.mk (below_step HB17.out hb); clear hb lb17; have l18 := b_cell rfl HB18.out HXM.out; have y18 := b_cell rfl HB18.out HXY.out; have m0 := (blk_cell BX18.out 0).trans rfl; have m1 := (blk_cell BX18.out 1).trans rfl; have m2 := (blk_cell BX18.out 2).trans rfl; have m3 := (blk_cell BX18.out 3).trans rfl) | ((with_reducible refine gate_builtin (b := .append) (xs := #[.tmp 156, .tmp 158]) rfl ?_); at_builtin; refine Kd.S_append k51 (w0 := w2) w2.heap.size rfl (.tmp 156) (.tmp 158) 29 51 (.agg #[(.slice none 0 0), (.int .i64 0), (.int .i64 0), (.int .i64 0)]) 48 rfl Try.underlying29 (by kernel_rfl) rfl (by decide) (by omega) u12 out ⟨at_, rd l0 x, naskhref23_Sequences.dirR (rd l0 x) v1, (naskhref23_Sequences.dirR (rd l0 y) v2)⟩ [.slice (some a9) at_.length c9, .int .i64 (rd l0 x), .int .i64 (naskhref23_Sequences.dirR (rd l0 x) v1), .int .i64 (naskhref23_Sequences.dirR (rd l0 y) v2)] (fun k_ => k_ ≠ gU) (fun k_ => some k_ = (Value.slice (some a9) at_.length c9).ownBlock) rfl rfl ?aP ?aQ ?aF ?aO ?aB ?aS ?aL ?_; (case aP => exact k51_mkM _ _ _ _ (Kd.R_mono (Kd.R_tight rfl HR18.out) (fun _ e => e))); (case aQ => exact (fun k_ hk => ⟨(HR18.out.1 k_ hk.symm).1, (HR18.out.1 k_ hk.symm).2.2⟩)); (case aF => exact (fun k_ hk e => by have h1 := Kd.R_lt HU18.out gU (by simp [Value.ownBlock]); omega)); (case aO => exact Kd.S_mono HS18.out (fun k_ hk => ⟨hk.1.1, hk.2⟩)); (case aB => exact HB18.out); (case aS => exact HB18.out.size); (case aL => have := HLO.out; omega); intro v30 w30 ho hb hg hat; have HS30 := Aside0.mk ho; have HB30 := Aside0.mk hb; have HU30 := Aside0.mk (Kd.R_grown HU18.out hg (fun k_ hk e => by subst hk; exact ((Kd.S_R HS18.out).1 _ e.symm).1.1 rfl)); clear ho hb hg hat))
         go_roundg (R.length - (i + 1))
         case measure => have := HI.out; have := HLT.out; omega
         case rel => exact ⟨i + 1, U, _, by first | rfl | go_num | rw [hwi], ⟨by have := HLT.out; omega, rfl⟩, HUL, HU30, HS30, HB30, HGO2⟩
       ·obtain ⟨ar0, Ar, cr, e, xr, hl, hC⟩ := at_row HRW.out j.toNat (by have := HUL.out; omega)
        cases e
        obtain ⟨xu, fu⟩ := Kd.R_celln false HU.out j h1 (by have := HUL.out; omega)
        rw [h3] at xu
        have j0 : decide (0 ≤ j) = true := decide_eq_true h1
        have j1 := eq_true h1
        have j2 := eq_true (show j < (nR : Int) by have := HUL.out; omega)
        generalize R.getD j.toNat [] = run at xr hl hC h4 h5 h6 h7 h8 h9 h10
        have HXR := Aside0.mk xr
        have HCR := Aside0.mk hC
        have HLN := Aside0.mk h4
        have hat1 : (at_ ++ run).length = at_.length + run.length := List.length_append
        obtain ⟨at1, nat⟩ : ∃ a, a = at_ ++ run := ⟨_, rfl⟩
        rw [← nat] at h6 h7 h8 h9 h10 hat1
        have NAT := Aside0.mk nat
        obtain ⟨y, hy⟩ : ∃ y, lastL at1 = y := ⟨_, rfl⟩
        obtain ⟨z, hz⟩ : ∃ z, (at1.length : Int) - 1 = z := ⟨_, rfl⟩
        have hy2 : rd at1 z = y := by rw [← hz]; exact hy
        rw [hy] at h6 h7 h8 h9
        have HY := Aside0.mk hy2
        have HZ0 := Aside0.mk (show 0 ≤ z by omega)
        have HZ1 := Aside0.mk (show z < (at1.length : Int) by omega)
        have zw : wrap64 ((at1.length : Int) - 1) = z := by unfold wrap64; omega
        have zw2 : IntKind.i64.wrap ((at1.length : Int) - 1) = z := (i64_w _).trans zw
        obtain ⟨ab, e, yb⟩ := Kd.at_int HR2.out y h6 h7
        cases e
        obtain ⟨am, e, ym⟩ := Kd.at_int HMW.out y h6 h8
        cases e
        have HXB := Aside0.mk (b_cell rfl HB2.out yb)
        have HXM := Aside0.mk ym
        have q2 := eq_true h5
        have q3 := eq_true (show (0 : Int) < (run.length : Int) by omega)
        have q4 := eq_true HZ0.out
        have q5 := eq_true HZ1.out
        have q6 := eq_true h6
        have q7 := eq_true h7
        have q8 := eq_true (show y < (nM : Int) by omega)
        clear h1 h2 h3 h4 h5 h6 h7 h8 xr hl hC nat hy hz hy2 hat1 yb ym HCH
        unfold naskhref23_Sequences.nextJ at h9
        by_cases hi : isoB (rd l2 y) = true
        ·rw [if_pos hi] at h9
         have HOP := Aside0.mk (fun (W : World) => (show Calls Try.prog 24 #[.int .i64 (rd l2 y)] W (fun e w' => e = .returned (.bool true) ∧ Below W.heap.size W w') from by rw [← hi]; exact naskhref23_Sequences.b_opens _ W))
         by_cases hm : rd M y < (l2.length : Int)
         ·rw [if_pos hm] at h9
          have m9 : decide (rd M y < (l2.length : Int)) = true := decide_eq_true hm
          have HBEG := Aside0.mk (fun (W : World) (hb : Below w2.heap.size w2 W) => (show Calls Try.prog 39 #[.slice (some ar0) nR cR, .int .i64 (rd M y)] W (fun e w' => e = .returned (.int .i64 j') ∧ Below W.heap.size W w') from by rw [← hnR]; exact naskhref23_Sequences.below_of (naskhref23_begins.calls k (some ar0) cR R (rd M y) j' W (Kd.C_below HRW.out hb) HLR.out h9)))
          have HCH1 := Aside0.mk h10
          clear hi hm h9 h10
          go_wp2_with (first | ((with_reducible refine gate_store (t := 4) (p := 61) rfl ?_); refine store_event (t := 4) (p := 61) (v := .const (.bool true)) (w1 := wr.setCell ⟨gU, j.toNat, none⟩ (.bool true)) ?hg ?ho ?hn ?hr ?_; (case ho => rfl); (case hg => rfl); (case hn => rfl); (case hr => first | (go_simp; done) | (go_simp; rfl)); intro w5 hw; have HU5 := Aside0.mk (show Kd.R Kd.bool 4 w5 w2.heap.size (fun k_ => k_ = gU) (.slice (some ⟨gU, 0, none⟩) nR cU) (U.set j.toNat true) by rw [hw]; exact (Kd.R_putg HU.out j true).1); have HR5 := Aside0.mk (show Kd.R (Kd.int .i64) 3 w5 w2.heap.size (fun k_ => k_ ≠ gU ∧ k_ ≠ q ∧ some k_ ≠ u12.ownBlock) va at_ by rw [hw]; exact Kd.R_far (p := ⟨gU, j.toNat, none⟩) HR.out (fun k_ hk => hk.1) _); have HS5 := Aside0.mk (show Kd.S k51 51 w5 w2.heap.size (fun k_ => (k_ ≠ gU ∧ k_ ≠ q) ∧ some k_ ≠ va.ownBlock) u12 out by rw [hw]; exact Kd.S_far (p := ⟨gU, j.toNat, none⟩) HS.out (fun k_ hk => hk.1.1) _); have BX5 := Aside0.mk (show w5.heap[q]? = some (.cells #[va, .int .i64 0, .int .i64 0, .int .i64 0] 51 (0, 0)) by rw [hw]; exact blk_far (p := ⟨gU, j.toNat, none⟩) BX.out HQ.out.2 _); have HB5 := Aside0.mk (show Below w2.heap.size w2 w5 by rw [hw]; exact below_set HB.out HGU.out); clear hw))
          have HU6 := Aside0.mk (Kd.R_drew HU5.out)
          have HS6 := Aside0.mk (Kd.S_drew HS5.out)
          have HR6 := Aside0.mk (Kd.R_drew HR5.out)
          have BX6 := Aside0.mk (blk_below BX5.out (below_drew (Below.refl _ _)))
          have HB6 := Aside0.mk (below_drew1 HB5.out)
          clear HU5 HS5 HR5 BX5 HB5
          refine start_ (n := 9) (S := fun w' => w'.cell? ⟨q, 0, none⟩ = some va ∧ w'.cell? (ar0.add j.toNat) = some (.slice Ar run.length cr)) (ds := [8]) #[false, false, false, false, false, false, false, false, false] (by kernel_rfl) rfl rfl ⟨(blk_cell BX6.out 0).trans rfl, b_cell rfl HB6.out HXR.out⟩ (fun hHeld => ?_)
          generalize w5.drew = w5d at HU6 HR6 HS6 BX6 HB6 hHeld ⊢
          refine pure_ (i := 0) (N := some 62) (v := ?_) (a' := ?_) #[true, false, false, false, false, false, false, false, false] rfl rfl (by kernel_rfl) (fun _ _ _ h => h) (Or.inl ⟨by rfl, ?_⟩) ?_ ?_
          rotate_left
          ·intro w'
           go_simp
           with_reducible rfl
          rotate_left
          ·simp only [Act.put, List.setIfInBounds_toArray, List.set_cons_zero, List.set_cons_succ, i64_w, i32_w]
           rfl
          refine take_ (i := 1) (N := some 63) (v := ?_) (a' := ?_) #[true, true, false, false, false, false, false, false, false] rfl rfl (by kernel_rfl) (fun _ _ _ h => h) (Or.inl ⟨by rfl, ?_⟩) hHeld ?_ ?_
          rotate_left
          ·rintro w' ⟨s0, s1⟩
           go_simp
           with_reducible rfl
          rotate_left
          ·simp only [Act.put, List.setIfInBounds_toArray, List.set_cons_zero, List.set_cons_succ, i64_w, i32_w]
           rfl
          refine pure_ (i := 2) (N := some 64) (v := ?_) (a' := ?_) #[true, true, true, false, false, false, false, false, false] rfl rfl (by kernel_rfl) (fun _ _ _ h => h) (Or.inl ⟨by rfl, ?_⟩) ?_ ?_
          rotate_left
          ·intro w'
           go_simp
           with_reducible rfl
          rotate_left
          ·simp only [Act.put, List.setIfInBounds_toArray, List.set_cons_zero, List.set_cons_succ, i64_w, i32_w]
           rfl
          refine pure_ (i := 3) (N := some 65) (v := ?_) (a' := ?_) #[true, true, true, true, false, false, false, false, false] rfl rfl (by kernel_rfl) (fun _ _ _ h => h) (Or.inl ⟨by rfl, ?_⟩) ?_ ?_
          rotate_left
          ·intro w'
           go_simp
           with_reducible rfl
          rotate_left
          ·simp only [Act.put, List.setIfInBounds_toArray, List.set_cons_zero, List.set_cons_succ, i64_w, i32_w]
           rfl
          refine pure_ (i := 4) (N := some 66) (v := ?_) (a' := ?_) #[true, true, true, true, true, false, false, false, false] rfl rfl (by kernel_rfl) (fun _ _ _ h => h) (Or.inl ⟨by rfl, ?_⟩) ?_ ?_
          rotate_left
          ·intro w'
           go_simp
           with_reducible rfl
          rotate_left
          ·simp only [Act.put, List.setIfInBounds_toArray, List.set_cons_zero, List.set_cons_succ, i64_w, i32_w]
           rfl
          refine take_ (i := 5) (N := some 67) (v := ?_) (a' := ?_) #[true, true, true, true, true, true, false, false, false] rfl rfl (by kernel_rfl) (fun _ _ _ h => h) (Or.inl ⟨by rfl, ?_⟩) hHeld ?_ ?_
          rotate_left
          ·rintro w' ⟨s0, s1⟩
           go_simp
           with_reducible rfl
          rotate_left
          ·simp only [Act.put, List.setIfInBounds_toArray, List.set_cons_zero, List.set_cons_succ, i64_w, i32_w]
           rfl
          refine one_ (i := 6) (N := some 68) #[true, true, true, true, true, true, true, false, false] rfl rfl (by kernel_rfl) (by decide) (fun K hK => ?_)
          refine Kd.R_append_rows_step (Kd.int .i64) (Rr := (Kd.int .i64).K w5d) (w0 := w2) w2.heap.size (by rfl) (.tmp 63) (.tmp 67) 22 3 (.int .i64 0) 8 rfl Try.underlying22 (by kernel_rfl) rfl (by decide) (by omega) va at_ run Ar run.length cr (fun k_ => k_ ≠ gU ∧ k_ ≠ q ∧ some k_ ≠ u12.ownBlock) (fun _ => False) rfl rfl ?aO ?aR ?aM (fun _ hk => hk.elim) ?aF ?aB ?aS ?aL ?_
          (case aO => exact HR6.out)
          (case aR => exact Kd.C_below HCR.out HB6.out)
          (case aM => exact (fun _ _ hK => hK))
          (case aF => exact (fun k_ hk => ⟨fun e => by have := Kd.R_lt HU6.out gU (by simp [Value.ownBlock]); omega, fun e => by have := blk_lt BX6.out; omega, fun e => by have := Kd.S_lt HS6.out k_ e.symm; omega⟩))
          (case aB => exact HB6.out)
          (case aS => exact HB6.out.size)
          (case aL => have := HLN.out; omega)
          intro v7 w7 ho hb hg hat
          rw [← NAT.out] at ho
          have HR7 := Aside0.mk ho
          have HB7 := Aside0.mk hb
          have HS7 := Aside0.mk (Kd.S_after HS6.out hg hat)
          have HU7 := Aside0.mk (Kd.R_grown HU6.out hg (fun k_ hk e => by subst hk; exact (HR6.out.1 _ e.symm).1 rfl))
          have BX7 := Aside0.mk (blk_grown BX6.out hg (fun e => (HR6.out.1 q e.symm).2.1 rfl))
          clear ho hb hg hat
          obtain ⟨A7, c7, e7, l7, r7⟩ := Kd.R_reads HR7.out
          obtain ⟨a7, ea7, x7⟩ := Kd.at_int r7 z HZ0.out HZ1.out
          subst ea7
          subst e7
          rw [HY.out] at x7
          clear l7 r7
          refine hK.out _ _ ⟨(blk_cell BX7.out 0).trans rfl, b_cell rfl HB7.out HXR.out⟩ (fun hHeld => ?_)
          clear hK K
          simp only [Act.put, List.setIfInBounds_toArray, List.set_cons_zero, List.set_cons_succ, i64_w, i32_w]
          refine pure_ (i := 7) (N := some 69) (v := ?_) (a' := ?_) #[true, true, true, true, true, true, true, true, false] rfl rfl (by kernel_rfl) (fun _ _ _ h => h) (Or.inl ⟨by rfl, ?_⟩) ?_ ?_
          rotate_left
          ·intro w'
           go_simp
           with_reducible rfl
          rotate_left
          ·simp only [Act.put, List.setIfInBounds_toArray, List.set_cons_zero, List.set_cons_succ, i64_w, i32_w]
           rfl
          refine last_ (i := 8) (N := none) #[true, true, true, true, true, true, true, true, true] rfl rfl (by kernel_rfl) (by decide) (fun K hK => ?_)
          have hs := (blk_cell BX7.out 0).trans rfl
          have hf := blk_frozen BX7.out 0
          refine skip_ (w1 := w7.setCell ⟨q, 0, none⟩ (.slice (some a7) at1.length c7)) (by rfl) rfl ?_ ?_
          ·first | (go_simp; done) | (go_simp; rfl)
          refine hK.out _ _ ?_
          clear hK K hs hf
          refine done_ (by kernel_rfl) ?_
          have x78 : (w7.setCell ⟨q, 0, none⟩ (.slice (some a7) at1.length c7)).cell? (a7.add z.toNat) = some (.int .i64 y) := (cell_far (p := ⟨q, 0, none⟩) (by rw [add_block]; exact (HR7.out.1 a7.block (by simp [Value.ownBlock])).2.1) _).trans x7
          clear x7
          generalize hw8 : w7.setCell ⟨q, 0, none⟩ (.slice (some a7) at1.length c7) = w8 at x78 ⊢
          have hw := hw8.symm
          have HU8 := Aside0.mk (show Kd.R Kd.bool 4 w8 w2.heap.size (fun k_ => k_ = gU) (.slice (some ⟨gU, 0, none⟩) nR cU) (U.set j.toNat true) by rw [hw]; exact Kd.R_far (p := ⟨q, 0, none⟩) HU7.out (fun k_ hk e => HQ.out.2 (e.symm.trans hk)) _)
          have HS8 := Aside0.mk (show Kd.S k51 51 w8 w2.heap.size (fun k_ => (k_ ≠ gU ∧ k_ ≠ q) ∧ some k_ ≠ (.slice (some a7) at1.length c7 : Value).ownBlock) u12 out by rw [hw]; exact Kd.S_far (p := ⟨q, 0, none⟩) HS7.out (fun k_ hk => hk.1.2) _)
          have HR8 := Aside0.mk (show Kd.R (Kd.int .i64) 3 w8 w2.heap.size (fun k_ => k_ ≠ gU ∧ k_ ≠ q ∧ some k_ ≠ u12.ownBlock) (.slice (some a7) at1.length c7) at1 by rw [hw]; exact Kd.R_far (p := ⟨q, 0, none⟩) HR7.out (fun k_ hk => hk.2.1) _)
          have BX8 := Aside0.mk (show w8.heap[q]? = some (.cells #[.slice (some a7) at1.length c7, .int .i64 0, .int .i64 0, .int .i64 0] 51 (0, 0)) by rw [hw]; exact blk_put BX7.out 0 (.slice (some a7) at1.length c7) rfl)
          have HB8 := Aside0.mk (show Below w2.heap.size w2 w8 by rw [hw]; exact below_set HB7.out HQ.out.1)
          clear hw hw8
          clear HU7 HS7 HR7 BX7 HB7
          have lq8 := (blk_cell BX8.out 0).trans rfl
          have lb8 := b_cell rfl HB8.out HXB.out
          go_wp2_with (first | (go_at_call 24; (with_reducible refine (HOP.out _).mono ?_); rintro e w9 ⟨rfl, hb⟩; have HU9 := Aside0.mk (Kd.R_below HU8.out hb); have HS9 := Aside0.mk (Kd.S_below HS8.out hb); have HR9 := Aside0.mk (Kd.R_below HR8.out hb); have BX9 := Aside0.mk (blk_below BX8.out hb); have HB9 := Aside0.mk (below_step HB8.out hb); clear hb lb8; have l9 := b_cell rfl HB9.out HXM.out; clear lq8 x78) | (go_at_call 39; (with_reducible refine (HBEG.out _ HB9.out).mono ?_); rintro e w10 ⟨rfl, hb⟩; have HU10 := Aside0.mk (Kd.R_below HU9.out hb); have HS10 := Aside0.mk (Kd.S_below HS9.out hb); have HR10 := Aside0.mk (Kd.R_below HR9.out hb); have BX10 := Aside0.mk (blk_below BX9.out hb); have HB10 := Aside0.mk (below_step HB9.out hb); clear hb l9))
          go_roundg k1
          case measure => omega
          case rel => exact ⟨j', U.set j.toNat true, at1, .slice (some a7) at1.length c7, rfl, ⟨by rw [List.length_set]; exact HUL.out⟩, HU10, HS10, HR10, BX10, HB10, HCH1⟩
         ·rw [if_neg hm] at h9
          obtain rfl := Option.some.inj h9
          have m9 : decide (rd M y < (l2.length : Int)) = false := decide_eq_false hm
          have HCH1 := Aside0.mk h10
          clear hi hm h9 h10
          go_wp2_with (first | ((with_reducible refine gate_store (t := 4) (p := 61) rfl ?_); refine store_event (t := 4) (p := 61) (v := .const (.bool true)) (w1 := wr.setCell ⟨gU, j.toNat, none⟩ (.bool true)) ?hg ?ho ?hn ?hr ?_; (case ho => rfl); (case hg => rfl); (case hn => rfl); (case hr => first | (go_simp; done) | (go_simp; rfl)); intro w5 hw; have HU5 := Aside0.mk (show Kd.R Kd.bool 4 w5 w2.heap.size (fun k_ => k_ = gU) (.slice (some ⟨gU, 0, none⟩) nR cU) (U.set j.toNat true) by rw [hw]; exact (Kd.R_putg HU.out j true).1); have HR5 := Aside0.mk (show Kd.R (Kd.int .i64) 3 w5 w2.heap.size (fun k_ => k_ ≠ gU ∧ k_ ≠ q ∧ some k_ ≠ u12.ownBlock) va at_ by rw [hw]; exact Kd.R_far (p := ⟨gU, j.toNat, none⟩) HR.out (fun k_ hk => hk.1) _); have HS5 := Aside0.mk (show Kd.S k51 51 w5 w2.heap.size (fun k_ => (k_ ≠ gU ∧ k_ ≠ q) ∧ some k_ ≠ va.ownBlock) u12 out by rw [hw]; exact Kd.S_far (p := ⟨gU, j.toNat, none⟩) HS.out (fun k_ hk => hk.1.1) _); have BX5 := Aside0.mk (show w5.heap[q]? = some (.cells #[va, .int .i64 0, .int .i64 0, .int .i64 0] 51 (0, 0)) by rw [hw]; exact blk_far (p := ⟨gU, j.toNat, none⟩) BX.out HQ.out.2 _); have HB5 := Aside0.mk (show Below w2.heap.size w2 w5 by rw [hw]; exact below_set HB.out HGU.out); clear hw))
          have HU6 := Aside0.mk (Kd.R_drew HU5.out)
          have HS6 := Aside0.mk (Kd.S_drew HS5.out)
          have HR6 := Aside0.mk (Kd.R_drew HR5.out)
          have BX6 := Aside0.mk (blk_below BX5.out (below_drew (Below.refl _ _)))
          have HB6 := Aside0.mk (below_drew1 HB5.out)
          clear HU5 HS5 HR5 BX5 HB5
          refine start_ (n := 9) (S := fun w' => w'.cell? ⟨q, 0, none⟩ = some va ∧ w'.cell? (ar0.add j.toNat) = some (.slice Ar run.length cr)) (ds := [8]) #[false, false, false, false, false, false, false, false, false] (by kernel_rfl) rfl rfl ⟨(blk_cell BX6.out 0).trans rfl, b_cell rfl HB6.out HXR.out⟩ (fun hHeld => ?_)
          generalize w5.drew = w5d at HU6 HR6 HS6 BX6 HB6 hHeld ⊢
          refine pure_ (i := 0) (N := some 62) (v := ?_) (a' := ?_) #[true, false, false, false, false, false, false, false, false] rfl rfl (by kernel_rfl) (fun _ _ _ h => h) (Or.inl ⟨by rfl, ?_⟩) ?_ ?_
          rotate_left
          ·intro w'
           go_simp
           with_reducible rfl
          rotate_left
          ·simp only [Act.put, List.setIfInBounds_toArray, List.set_cons_zero, List.set_cons_succ, i64_w, i32_w]
           rfl
          refine take_ (i := 1) (N := some 63) (v := ?_) (a' := ?_) #[true, true, false, false, false, false, false, false, false] rfl rfl (by kernel_rfl) (fun _ _ _ h => h) (Or.inl ⟨by rfl, ?_⟩) hHeld ?_ ?_
          rotate_left
          ·rintro w' ⟨s0, s1⟩
           go_simp
           with_reducible rfl
          rotate_left
          ·simp only [Act.put, List.setIfInBounds_toArray, List.set_cons_zero, List.set_cons_succ, i64_w, i32_w]
           rfl
          refine pure_ (i := 2) (N := some 64) (v := ?_) (a' := ?_) #[true, true, true, false, false, false, false, false, false] rfl rfl (by kernel_rfl) (fun _ _ _ h => h) (Or.inl ⟨by rfl, ?_⟩) ?_ ?_
          rotate_left
          ·intro w'
           go_simp
           with_reducible rfl
          rotate_left
          ·simp only [Act.put, List.setIfInBounds_toArray, List.set_cons_zero, List.set_cons_succ, i64_w, i32_w]
           rfl
          refine pure_ (i := 3) (N := some 65) (v := ?_) (a' := ?_) #[true, true, true, true, false, false, false, false, false] rfl rfl (by kernel_rfl) (fun _ _ _ h => h) (Or.inl ⟨by rfl, ?_⟩) ?_ ?_
          rotate_left
          ·intro w'
           go_simp
           with_reducible rfl
          rotate_left
          ·simp only [Act.put, List.setIfInBounds_toArray, List.set_cons_zero, List.set_cons_succ, i64_w, i32_w]
           rfl
          refine pure_ (i := 4) (N := some 66) (v := ?_) (a' := ?_) #[true, true, true, true, true, false, false, false, false] rfl rfl (by kernel_rfl) (fun _ _ _ h => h) (Or.inl ⟨by rfl, ?_⟩) ?_ ?_
          rotate_left
          ·intro w'
           go_simp
           with_reducible rfl
          rotate_left
          ·simp only [Act.put, List.setIfInBounds_toArray, List.set_cons_zero, List.set_cons_succ, i64_w, i32_w]
           rfl
          refine take_ (i := 5) (N := some 67) (v := ?_) (a' := ?_) #[true, true, true, true, true, true, false, false, false] rfl rfl (by kernel_rfl) (fun _ _ _ h => h) (Or.inl ⟨by rfl, ?_⟩) hHeld ?_ ?_
          rotate_left
          ·rintro w' ⟨s0, s1⟩
           go_simp
           with_reducible rfl
          rotate_left
          ·simp only [Act.put, List.setIfInBounds_toArray, List.set_cons_zero, List.set_cons_succ, i64_w, i32_w]
           rfl
          refine one_ (i := 6) (N := some 68) #[true, true, true, true, true, true, true, false, false] rfl rfl (by kernel_rfl) (by decide) (fun K hK => ?_)
          refine Kd.R_append_rows_step (Kd.int .i64) (Rr := (Kd.int .i64).K w5d) (w0 := w2) w2.heap.size (by rfl) (.tmp 63) (.tmp 67) 22 3 (.int .i64 0) 8 rfl Try.underlying22 (by kernel_rfl) rfl (by decide) (by omega) va at_ run Ar run.length cr (fun k_ => k_ ≠ gU ∧ k_ ≠ q ∧ some k_ ≠ u12.ownBlock) (fun _ => False) rfl rfl ?aO ?aR ?aM (fun _ hk => hk.elim) ?aF ?aB ?aS ?aL ?_
          (case aO => exact HR6.out)
          (case aR => exact Kd.C_below HCR.out HB6.out)
          (case aM => exact (fun _ _ hK => hK))
          (case aF => exact (fun k_ hk => ⟨fun e => by have := Kd.R_lt HU6.out gU (by simp [Value.ownBlock]); omega, fun e => by have := blk_lt BX6.out; omega, fun e => by have := Kd.S_lt HS6.out k_ e.symm; omega⟩))
          (case aB => exact HB6.out)
          (case aS => exact HB6.out.size)
          (case aL => have := HLN.out; omega)
          intro v7 w7 ho hb hg hat
          rw [← NAT.out] at ho
          have HR7 := Aside0.mk ho
          have HB7 := Aside0.mk hb
          have HS7 := Aside0.mk (Kd.S_after HS6.out hg hat)
          have HU7 := Aside0.mk (Kd.R_grown HU6.out hg (fun k_ hk e => by subst hk; exact (HR6.out.1 _ e.symm).1 rfl))
          have BX7 := Aside0.mk (blk_grown BX6.out hg (fun e => (HR6.out.1 q e.symm).2.1 rfl))
          clear ho hb hg hat
          obtain ⟨A7, c7, e7, l7, r7⟩ := Kd.R_reads HR7.out
          obtain ⟨a7, ea7, x7⟩ := Kd.at_int r7 z HZ0.out HZ1.out
          subst ea7
          subst e7
          rw [HY.out] at x7
          clear l7 r7
          refine hK.out _ _ ⟨(blk_cell BX7.out 0).trans rfl, b_cell rfl HB7.out HXR.out⟩ (fun hHeld => ?_)
          clear hK K
          simp only [Act.put, List.setIfInBounds_toArray, List.set_cons_zero, List.set_cons_succ, i64_w, i32_w]
          refine pure_ (i := 7) (N := some 69) (v := ?_) (a' := ?_) #[true, true, true, true, true, true, true, true, false] rfl rfl (by kernel_rfl) (fun _ _ _ h => h) (Or.inl ⟨by rfl, ?_⟩) ?_ ?_
          rotate_left
          ·intro w'
           go_simp
           with_reducible rfl
          rotate_left
          ·simp only [Act.put, List.setIfInBounds_toArray, List.set_cons_zero, List.set_cons_succ, i64_w, i32_w]
           rfl
          refine last_ (i := 8) (N := none) #[true, true, true, true, true, true, true, true, true] rfl rfl (by kernel_rfl) (by decide) (fun K hK => ?_)
          have hs := (blk_cell BX7.out 0).trans rfl
          have hf := blk_frozen BX7.out 0
          refine skip_ (w1 := w7.setCell ⟨q, 0, none⟩ (.slice (some a7) at1.length c7)) (by rfl) rfl ?_ ?_
          ·first | (go_simp; done) | (go_simp; rfl)
          refine hK.out _ _ ?_
          clear hK K hs hf
          refine done_ (by kernel_rfl) ?_
          have x78 : (w7.setCell ⟨q, 0, none⟩ (.slice (some a7) at1.length c7)).cell? (a7.add z.toNat) = some (.int .i64 y) := (cell_far (p := ⟨q, 0, none⟩) (by rw [add_block]; exact (HR7.out.1 a7.block (by simp [Value.ownBlock])).2.1) _).trans x7
          clear x7
          generalize hw8 : w7.setCell ⟨q, 0, none⟩ (.slice (some a7) at1.length c7) = w8 at x78 ⊢
          have hw := hw8.symm
          have HU8 := Aside0.mk (show Kd.R Kd.bool 4 w8 w2.heap.size (fun k_ => k_ = gU) (.slice (some ⟨gU, 0, none⟩) nR cU) (U.set j.toNat true) by rw [hw]; exact Kd.R_far (p := ⟨q, 0, none⟩) HU7.out (fun k_ hk e => HQ.out.2 (e.symm.trans hk)) _)
          have HS8 := Aside0.mk (show Kd.S k51 51 w8 w2.heap.size (fun k_ => (k_ ≠ gU ∧ k_ ≠ q) ∧ some k_ ≠ (.slice (some a7) at1.length c7 : Value).ownBlock) u12 out by rw [hw]; exact Kd.S_far (p := ⟨q, 0, none⟩) HS7.out (fun k_ hk => hk.1.2) _)
          have HR8 := Aside0.mk (show Kd.R (Kd.int .i64) 3 w8 w2.heap.size (fun k_ => k_ ≠ gU ∧ k_ ≠ q ∧ some k_ ≠ u12.ownBlock) (.slice (some a7) at1.length c7) at1 by rw [hw]; exact Kd.R_far (p := ⟨q, 0, none⟩) HR7.out (fun k_ hk => hk.2.1) _)
          have BX8 := Aside0.mk (show w8.heap[q]? = some (.cells #[.slice (some a7) at1.length c7, .int .i64 0, .int .i64 0, .int .i64 0] 51 (0, 0)) by rw [hw]; exact blk_put BX7.out 0 (.slice (some a7) at1.length c7) rfl)
          have HB8 := Aside0.mk (show Below w2.heap.size w2 w8 by rw [hw]; exact below_set HB7.out HQ.out.1)
          clear hw hw8
          clear HU7 HS7 HR7 BX7 HB7
          have lq8 := (blk_cell BX8.out 0).trans rfl
          have lb8 := b_cell rfl HB8.out HXB.out
          go_wp2_with (first | (go_at_call 24; (with_reducible refine (HOP.out _).mono ?_); rintro e w9 ⟨rfl, hb⟩; have HU9 := Aside0.mk (Kd.R_below HU8.out hb); have HS9 := Aside0.mk (Kd.S_below HS8.out hb); have HR9 := Aside0.mk (Kd.R_below HR8.out hb); have BX9 := Aside0.mk (blk_below BX8.out hb); have HB9 := Aside0.mk (below_step HB8.out hb); clear hb lb8; have l9 := b_cell rfl HB9.out HXM.out; clear lq8 x78))
          go_roundg k1
          case measure => omega
          case rel => exact ⟨-1, U.set j.toNat true, at1, .slice (some a7) at1.length c7, rfl, ⟨by rw [List.length_set]; exact HUL.out⟩, HU9, HS9, HR9, BX9, HB9, HCH1⟩
        ·rw [if_neg hi] at h9
         obtain rfl := Option.some.inj h9
         replace hi := Bool.eq_false_iff.mpr hi
         have HOP := Aside0.mk (fun (W : World) => (show Calls Try.prog 24 #[.int .i64 (rd l2 y)] W (fun e w' => e = .returned (.bool false) ∧ Below W.heap.size W w') from by rw [← hi]; exact naskhref23_Sequences.b_opens _ W))
         have HCH1 := Aside0.mk h10
         clear hi h9 h10
         go_wp2_with (first | ((with_reducible refine gate_store (t := 4) (p := 61) rfl ?_); refine store_event (t := 4) (p := 61) (v := .const (.bool true)) (w1 := wr.setCell ⟨gU, j.toNat, none⟩ (.bool true)) ?hg ?ho ?hn ?hr ?_; (case ho => rfl); (case hg => rfl); (case hn => rfl); (case hr => first | (go_simp; done) | (go_simp; rfl)); intro w5 hw; have HU5 := Aside0.mk (show Kd.R Kd.bool 4 w5 w2.heap.size (fun k_ => k_ = gU) (.slice (some ⟨gU, 0, none⟩) nR cU) (U.set j.toNat true) by rw [hw]; exact (Kd.R_putg HU.out j true).1); have HR5 := Aside0.mk (show Kd.R (Kd.int .i64) 3 w5 w2.heap.size (fun k_ => k_ ≠ gU ∧ k_ ≠ q ∧ some k_ ≠ u12.ownBlock) va at_ by rw [hw]; exact Kd.R_far (p := ⟨gU, j.toNat, none⟩) HR.out (fun k_ hk => hk.1) _); have HS5 := Aside0.mk (show Kd.S k51 51 w5 w2.heap.size (fun k_ => (k_ ≠ gU ∧ k_ ≠ q) ∧ some k_ ≠ va.ownBlock) u12 out by rw [hw]; exact Kd.S_far (p := ⟨gU, j.toNat, none⟩) HS.out (fun k_ hk => hk.1.1) _); have BX5 := Aside0.mk (show w5.heap[q]? = some (.cells #[va, .int .i64 0, .int .i64 0, .int .i64 0] 51 (0, 0)) by rw [hw]; exact blk_far (p := ⟨gU, j.toNat, none⟩) BX.out HQ.out.2 _); have HB5 := Aside0.mk (show Below w2.heap.size w2 w5 by rw [hw]; exact below_set HB.out HGU.out); clear hw))
         have HU6 := Aside0.mk (Kd.R_drew HU5.out)
         have HS6 := Aside0.mk (Kd.S_drew HS5.out)
         have HR6 := Aside0.mk (Kd.R_drew HR5.out)
         have BX6 := Aside0.mk (blk_below BX5.out (below_drew (Below.refl _ _)))
         have HB6 := Aside0.mk (below_drew1 HB5.out)
         clear HU5 HS5 HR5 BX5 HB5
         refine start_ (n := 9) (S := fun w' => w'.cell? ⟨q, 0, none⟩ = some va ∧ w'.cell? (ar0.add j.toNat) = some (.slice Ar run.length cr)) (ds := [8]) #[false, false, false, false, false, false, false, false, false] (by kernel_rfl) rfl rfl ⟨(blk_cell BX6.out 0).trans rfl, b_cell rfl HB6.out HXR.out⟩ (fun hHeld => ?_)
         generalize w5.drew = w5d at HU6 HR6 HS6 BX6 HB6 hHeld ⊢
         refine pure_ (i := 0) (N := some 62) (v := ?_) (a' := ?_) #[true, false, false, false, false, false, false, false, false] rfl rfl (by kernel_rfl) (fun _ _ _ h => h) (Or.inl ⟨by rfl, ?_⟩) ?_ ?_
         rotate_left
         ·intro w'
          go_simp
          with_reducible rfl
         rotate_left
         ·simp only [Act.put, List.setIfInBounds_toArray, List.set_cons_zero, List.set_cons_succ, i64_w, i32_w]
          rfl
         refine take_ (i := 1) (N := some 63) (v := ?_) (a' := ?_) #[true, true, false, false, false, false, false, false, false] rfl rfl (by kernel_rfl) (fun _ _ _ h => h) (Or.inl ⟨by rfl, ?_⟩) hHeld ?_ ?_
         rotate_left
         ·rintro w' ⟨s0, s1⟩
          go_simp
          with_reducible rfl
         rotate_left
         ·simp only [Act.put, List.setIfInBounds_toArray, List.set_cons_zero, List.set_cons_succ, i64_w, i32_w]
          rfl
         refine pure_ (i := 2) (N := some 64) (v := ?_) (a' := ?_) #[true, true, true, false, false, false, false, false, false] rfl rfl (by kernel_rfl) (fun _ _ _ h => h) (Or.inl ⟨by rfl, ?_⟩) ?_ ?_
         rotate_left
         ·intro w'
          go_simp
          with_reducible rfl
         rotate_left
         ·simp only [Act.put, List.setIfInBounds_toArray, List.set_cons_zero, List.set_cons_succ, i64_w, i32_w]
          rfl
         refine pure_ (i := 3) (N := some 65) (v := ?_) (a' := ?_) #[true, true, true, true, false, false, false, false, false] rfl rfl (by kernel_rfl) (fun _ _ _ h => h) (Or.inl ⟨by rfl, ?_⟩) ?_ ?_
         rotate_left
         ·intro w'
          go_simp
          with_reducible rfl
         rotate_left
         ·simp only [Act.put, List.setIfInBounds_toArray, List.set_cons_zero, List.set_cons_succ, i64_w, i32_w]
          rfl
         refine pure_ (i := 4) (N := some 66) (v := ?_) (a' := ?_) #[true, true, true, true, true, false, false, false, false] rfl rfl (by kernel_rfl) (fun _ _ _ h => h) (Or.inl ⟨by rfl, ?_⟩) ?_ ?_
         rotate_left
         ·intro w'
          go_simp
          with_reducible rfl
         rotate_left
         ·simp only [Act.put, List.setIfInBounds_toArray, List.set_cons_zero, List.set_cons_succ, i64_w, i32_w]
          rfl
         refine take_ (i := 5) (N := some 67) (v := ?_) (a' := ?_) #[true, true, true, true, true, true, false, false, false] rfl rfl (by kernel_rfl) (fun _ _ _ h => h) (Or.inl ⟨by rfl, ?_⟩) hHeld ?_ ?_
         rotate_left
         ·rintro w' ⟨s0, s1⟩
          go_simp
          with_reducible rfl
         rotate_left
         ·simp only [Act.put, List.setIfInBounds_toArray, List.set_cons_zero, List.set_cons_succ, i64_w, i32_w]
          rfl
         refine one_ (i := 6) (N := some 68) #[true, true, true, true, true, true, true, false, false] rfl rfl (by kernel_rfl) (by decide) (fun K hK => ?_)
         refine Kd.R_append_rows_step (Kd.int .i64) (Rr := (Kd.int .i64).K w5d) (w0 := w2) w2.heap.size (by rfl) (.tmp 63) (.tmp 67) 22 3 (.int .i64 0) 8 rfl Try.underlying22 (by kernel_rfl) rfl (by decide) (by omega) va at_ run Ar run.length cr (fun k_ => k_ ≠ gU ∧ k_ ≠ q ∧ some k_ ≠ u12.ownBlock) (fun _ => False) rfl rfl ?aO ?aR ?aM (fun _ hk => hk.elim) ?aF ?aB ?aS ?aL ?_
         (case aO => exact HR6.out)
         (case aR => exact Kd.C_below HCR.out HB6.out)
         (case aM => exact (fun _ _ hK => hK))
         (case aF => exact (fun k_ hk => ⟨fun e => by have := Kd.R_lt HU6.out gU (by simp [Value.ownBlock]); omega, fun e => by have := blk_lt BX6.out; omega, fun e => by have := Kd.S_lt HS6.out k_ e.symm; omega⟩))
         (case aB => exact HB6.out)
         (case aS => exact HB6.out.size)
         (case aL => have := HLN.out; omega)
         intro v7 w7 ho hb hg hat
         rw [← NAT.out] at ho
         have HR7 := Aside0.mk ho
         have HB7 := Aside0.mk hb
         have HS7 := Aside0.mk (Kd.S_after HS6.out hg hat)
         have HU7 := Aside0.mk (Kd.R_grown HU6.out hg (fun k_ hk e => by subst hk; exact (HR6.out.1 _ e.symm).1 rfl))
         have BX7 := Aside0.mk (blk_grown BX6.out hg (fun e => (HR6.out.1 q e.symm).2.1 rfl))
         clear ho hb hg hat
         obtain ⟨A7, c7, e7, l7, r7⟩ := Kd.R_reads HR7.out
         obtain ⟨a7, ea7, x7⟩ := Kd.at_int r7 z HZ0.out HZ1.out
         subst ea7
         subst e7
         rw [HY.out] at x7
         clear l7 r7
         refine hK.out _ _ ⟨(blk_cell BX7.out 0).trans rfl, b_cell rfl HB7.out HXR.out⟩ (fun hHeld => ?_)
         clear hK K
         simp only [Act.put, List.setIfInBounds_toArray, List.set_cons_zero, List.set_cons_succ, i64_w, i32_w]
         refine pure_ (i := 7) (N := some 69) (v := ?_) (a' := ?_) #[true, true, true, true, true, true, true, true, false] rfl rfl (by kernel_rfl) (fun _ _ _ h => h) (Or.inl ⟨by rfl, ?_⟩) ?_ ?_
         rotate_left
         ·intro w'
          go_simp
          with_reducible rfl
         rotate_left
         ·simp only [Act.put, List.setIfInBounds_toArray, List.set_cons_zero, List.set_cons_succ, i64_w, i32_w]
          rfl
         refine last_ (i := 8) (N := none) #[true, true, true, true, true, true, true, true, true] rfl rfl (by kernel_rfl) (by decide) (fun K hK => ?_)
         have hs := (blk_cell BX7.out 0).trans rfl
         have hf := blk_frozen BX7.out 0
         refine skip_ (w1 := w7.setCell ⟨q, 0, none⟩ (.slice (some a7) at1.length c7)) (by rfl) rfl ?_ ?_
         ·first | (go_simp; done) | (go_simp; rfl)
         refine hK.out _ _ ?_
         clear hK K hs hf
         refine done_ (by kernel_rfl) ?_
         have x78 : (w7.setCell ⟨q, 0, none⟩ (.slice (some a7) at1.length c7)).cell? (a7.add z.toNat) = some (.int .i64 y) := (cell_far (p := ⟨q, 0, none⟩) (by rw [add_block]; exact (HR7.out.1 a7.block (by simp [Value.ownBlock])).2.1) _).trans x7
         clear x7
         generalize hw8 : w7.setCell ⟨q, 0, none⟩ (.slice (some a7) at1.length c7) = w8 at x78 ⊢
         have hw := hw8.symm
         have HU8 := Aside0.mk (show Kd.R Kd.bool 4 w8 w2.heap.size (fun k_ => k_ = gU) (.slice (some ⟨gU, 0, none⟩) nR cU) (U.set j.toNat true) by rw [hw]; exact Kd.R_far (p := ⟨q, 0, none⟩) HU7.out (fun k_ hk e => HQ.out.2 (e.symm.trans hk)) _)
         have HS8 := Aside0.mk (show Kd.S k51 51 w8 w2.heap.size (fun k_ => (k_ ≠ gU ∧ k_ ≠ q) ∧ some k_ ≠ (.slice (some a7) at1.length c7 : Value).ownBlock) u12 out by rw [hw]; exact Kd.S_far (p := ⟨q, 0, none⟩) HS7.out (fun k_ hk => hk.1.2) _)
         have HR8 := Aside0.mk (show Kd.R (Kd.int .i64) 3 w8 w2.heap.size (fun k_ => k_ ≠ gU ∧ k_ ≠ q ∧ some k_ ≠ u12.ownBlock) (.slice (some a7) at1.length c7) at1 by rw [hw]; exact Kd.R_far (p := ⟨q, 0, none⟩) HR7.out (fun k_ hk => hk.2.1) _)
         have BX8 := Aside0.mk (show w8.heap[q]? = some (.cells #[.slice (some a7) at1.length c7, .int .i64 0, .int .i64 0, .int .i64 0] 51 (0, 0)) by rw [hw]; exact blk_put BX7.out 0 (.slice (some a7) at1.length c7) rfl)
         have HB8 := Aside0.mk (show Below w2.heap.size w2 w8 by rw [hw]; exact below_set HB7.out HQ.out.1)
         clear hw hw8
         clear HU7 HS7 HR7 BX7 HB7
         have lq8 := (blk_cell BX8.out 0).trans rfl
         have lb8 := b_cell rfl HB8.out HXB.out
         go_wp2_with (first | (go_at_call 24; (with_reducible refine (HOP.out _).mono ?_); rintro e w9 ⟨rfl, hb⟩; have HU9 := Aside0.mk (Kd.R_below HU8.out hb); have HS9 := Aside0.mk (Kd.S_below HS8.out hb); have HR9 := Aside0.mk (Kd.R_below HR8.out hb); have BX9 := Aside0.mk (blk_below BX8.out hb); have HB9 := Aside0.mk (below_step HB8.out hb); clear hb lb8; have l9 := b_cell rfl HB9.out HXM.out; clear lq8 x78))
         go_roundg k1
         case measure => omega
         case rel => exact ⟨-1, U.set j.toNat true, at1, .slice (some a7) at1.length c7, rfl, ⟨by rw [List.length_set]; exact HUL.out⟩, HU9, HS9, HR9, BX9, HB9, HCH1⟩
    ·rw [if_neg hlo] at hgo; cases hgo
  ·have b0 : decide ((i : Int) < (nR : Int)) = false := decide_eq_false (by omega)
   have b1 : decide (i < nR) = false := decide_eq_false hlt
   have hgo := HGO.out
   rw [show R.length - i = 0 by have := HI.out; omega, naskhref23_Sequences.goR] at hgo
   obtain rfl := Option.some.inj hgo
   clear hlt hgo
   go_wp2
   go_ret
   exact ⟨_, by first | rfl | simp [*], Kd.S_lower (Kd.S_mono HS.out (fun _ _ => trivial)) HB2.out.size, below_step HB2.out HB.out⟩
theorem naskhref23_Sequences.calls (k : Nat) (A0 : Option Addr) (c0 : Nat) (l0 : List Int) (A1 : Option Addr) (c1 : Nat) (l1 : List Int) (A2 : Option Addr) (c2 : Nat) (l2 : List Int) (a3 : Int) (r : List (S51)) (w : World) (hr0 : Kd.C (Kd.int .i64) w A0 l0.length l0) (hc0 : l0.length ≤ c0) (hr1 : Kd.C (Kd.int .i64) w A1 l1.length l1) (hc1 : l1.length ≤ c1) (hr2 : Kd.C (Kd.int .i64) w A2 l2.length l2) (hc2 : l2.length ≤ c2) (h : naskhref23_Sequences.f k l0 l1 l2 a3 = some r) :
  Calls Try.prog 14 #[.slice A0 l0.length c0, .slice A1 l1.length c1, .slice A2 l2.length c2, .int .i64 a3] w fun e w' => ∃ v0_ : Value, e = .returned (v0_) ∧ Kd.S k51 51 w' w.heap.size (fun _ => True) v0_ r ∧ Below w.heap.size w w' := by
 unfold naskhref23_Sequences.f at h
 by_cases e1 : (l0.length : Int) = (l1.length : Int)
 ·rw [if_pos e1] at h
  by_cases e2 : (l2.length : Int) = (l1.length : Int)
  ·rw [if_pos e2] at h
   obtain ⟨R, hR, h⟩ := Option.bind_eq_some_iff.mp h
   obtain ⟨M, hM, h⟩ := Option.bind_eq_some_iff.mp h
   by_cases h1 : R.length ≤ 17592186043000
   ·rw [if_pos h1] at h
    exact naskhref23_Sequences.main k A0 c0 l0 A1 c1 l1 A2 c2 l2 a3 r w hr0 hc0 hr1 hc1 hr2 hc2 M R e1 e2 hR hM h1 h
   ·rw [if_neg h1] at h; cases h
  ·rw [if_neg e2] at h
   obtain rfl := Option.some.inj h
   exact naskhref23_Sequences.off2 k A0 c0 l0 A1 c1 l1 A2 c2 l2 a3 w hr0 hc0 hr1 hc1 hr2 hc2 e1 e2
 ·rw [if_neg e1] at h
  obtain rfl := Option.some.inj h
  exact naskhref23_Sequences.off1 k A0 c0 l0 A1 c1 l1 A2 c2 l2 a3 w hr0 hc0 hr1 hc1 hr2 hc2 e1
end
end Go.Proofs.Ytbkdaafphcfpdaa.PSeqOf
