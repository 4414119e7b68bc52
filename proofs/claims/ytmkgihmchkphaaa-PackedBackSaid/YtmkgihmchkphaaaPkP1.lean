/- Packed: whether numbers fit; ContainsFunc. -/
import Derived.Test.YtmkgihmchkphaaaTrQ
import Derived.Test.YtmkgihmchkphaaaPPackedNumbersx2
namespace Go.Proofs.Ytmkgihmchkphaaa.Stk
open Go.RowKit Go.Proofs.YtmkgihmchkphaaaW.PrintWords Go.Proofs.YtmkgihmchkphaaaW.PrintLast Go.Proofs.YtmkgihmchkphaaaW.PrintMore
attribute [local go_sem] max2_int min2_int max_two min_two max_three min_three max_four min_four   -- for this text's walks alone
set_option linter.unusedVariables false
set_option linter.unusedSimpArgs false
def fitP (n : Int) : Bool := decide (0 ≤ n) && decide (n ≤ 2147483648)
theorem p_fits (n : Int) (w : World) : Calls Try.prog 60 #[.int .i64 n] w fun e w' => e = .returned (.bool (fitP n)) ∧ Below w.heap.size w w' := by
  refine (PPackedNumbers.packed_fits.calls n (fitP n) w ?_).mono fun e w' ⟨a, b⟩ => ⟨a, drawn_below0 b⟩
  unfold PPackedNumbers.packed_fits.f fitP
  by_cases h : n ≥ 0
  · rw [if_pos h, decide_eq_true (show 0 ≤ n from h)]; rfl
  · rw [if_neg h, decide_eq_false (show ¬ 0 ≤ n from h)]; rfl
theorem p_enc1 (r : Rg) (w : World) : Calls Try.prog 73 #[.agg #[.int .i64 r.lo, .int .i64 r.hi, .int .i64 r.va]] w fun e w' => e = .returned (.bool (!fitP r.va)) ∧ Below w.heap.size w w' := by
  go_enter Try.func73, Try.ntmps73
  go_wp2_with (first | ((with_reducible refine gate_dst (N := 1) rfl ?_); refine box_event ?hg (N := 1) ?hd (cs := #[.int .i64 r.lo, .int .i64 r.hi, .int .i64 r.va]) (t := 66) ?hr ?_; (case hd => rfl); (case hg => rfl); (case hr => first | (go_simp; done) | (go_simp; rfl)); intro g3 hg w1 hbox hb; have HB1 := Aside0.mk hb; have k3_2 := (blk_cell hbox 2).trans rfl; clear hg hbox hb) | (go_at_call 60; (with_reducible refine (p_fits r.va w1).mono ?_); rintro e w2 ⟨rfl, hb⟩; have HB2 := Aside0.mk (below_step HB1.out hb); clear hb))
  go_ret
  exact ⟨by first | rfl | (simp; done), HB2.out⟩
/-- Whether one of the ranges has a value that does not fit. -/
def badR (l : List Rg) : Bool := l.any fun r => !fitP r.va
theorem bad_at {l : List Rg} {i : Nat} (hi : i < l.length) : badR (l.drop i) = (!fitP (rgAt l i).va || badR (l.drop (i + 1))) := by
  rw [List.drop_eq_getElem_cons hi, show l[i] = rgAt l i by simp [rgAt, List.getD, hi]]
  rfl
set_option maxHeartbeats 8000000 in
set_option maxRecDepth 100000 in
theorem p_indexf {w : World} {A : Option Addr} {c : Nat} {l : List Rg} (hC : Kd.C kR w A l.length l) :
    Calls Try.prog 91 #[.slice A l.length c, .func (.func 73) #[] #[]] w fun e w' => ∃ v : Int, e = .returned (.int .i64 v) ∧ decide (v ≥ 0) = badR l ∧ Below w.heap.size w w' := by
  have HC := Aside0.mk hC
  have HL := Aside0.mk hC.2.1
  have hk39 := Try.underlying66
  have HB0 := Aside0.mk (Below.refl w.heap.size w)
  clear hC
  go_enter Try.func91, Try.ntmps91
  go_wp2
  go_loopg [8] (l.length + 1) (fun kq v8 w' => ∃ (i : Nat), v8 = .int .i64 (i : Int) ∧ Aside0 (l.length + 1 - i ≤ kq ∧ badR l = badR (l.drop i)) ∧ Aside0 (Below w.heap.size w w'))
  case atStart => exact ⟨0, rfl, ⟨Nat.sub_le _ _, rfl⟩, ⟨by first | exact HB0.out | exact HB0.out.drew⟩⟩
  case round =>
    obtain ⟨i, rfl, HI, HB⟩ := hrel
    by_cases hlt : i < l.length
    · have q0 := decide_eq_true (show (i : Int) < (l.length : Int) by omega)
      have q1 := decide_eq_true hlt
      have r0 := eq_true (show (i : Int) < (l.length : Int) by omega)
      have r1 := eq_true hlt
      have r2 := eq_true (show (0 : Int) ≤ (i : Int) by omega)
      obtain ⟨ad, e, x0_, x1_, x2_⟩ := at_Rg (Kd.C_below HC.out HB.out) i hlt
      cases e
      have HST := Aside0.mk (HI.out.2.trans (bad_at hlt))
      obtain ⟨v, hv⟩ : ∃ v, (!fitP (rgAt l i).va) = v := ⟨_, rfl⟩
      rw [hv] at HST
      have HV := Aside0.mk hv
      generalize (rgAt l i).lo = x0 at x0_ HV
      generalize (rgAt l i).hi = x1 at x1_ HV
      generalize (rgAt l i).va = x2 at x2_ HV
      have HLT := Aside0.mk hlt
      have hwi : IntKind.i64.wrap ((i : Int) + 1) = ((i + 1 : Nat) : Int) := (i64_w _).trans (by have := HL.out; unfold wrap64; omega)
      clear hlt hv
      cases v with
      | true =>
        go_wp2_with (first | (go_at_call 73; (with_reducible refine (p_enc1 ⟨x0, x1, x2⟩ wr).mono ?_); rw [HV.out]; rintro e w5 ⟨rfl, hb⟩; have HB5 := Aside0.mk (below_step HB.out hb); clear hb))
        go_ret
        exact ⟨(i : Int), by first | rfl | (simp; done), by rw [HST.out, decide_eq_true (by omega)]; rfl, HB5.out⟩
      | false =>
        go_wp2_with (first | (go_at_call 73; (with_reducible refine (p_enc1 ⟨x0, x1, x2⟩ wr).mono ?_); rw [HV.out]; rintro e w5 ⟨rfl, hb⟩; have HB5 := Aside0.mk (below_step HB.out hb); clear hb))
        go_roundg (l.length + 1 - (i + 1))
        case measure => have h1_ := HI.out.1; have h2_ := HLT.out; omega
        case rel => exact ⟨i + 1, by first | rfl | go_num | rw [hwi], ⟨Nat.le_refl _, HST.out⟩, HB5⟩
    · have q0 := decide_eq_false (show ¬ (i : Int) < (l.length : Int) by omega)
      have q1 := decide_eq_false hlt
      have HE := Aside0.mk (show badR l = false by rw [HI.out.2, List.drop_eq_nil_of_le (by omega)]; rfl)
      clear hlt
      go_wp2
      go_ret
      exact ⟨-1, by first | rfl | (simp; done), by rw [HE.out]; rfl, HB.out⟩
theorem p_cont {w : World} {A : Option Addr} {c : Nat} {l : List Rg} (hC : Kd.C kR w A l.length l) :
    Calls Try.prog 74 #[.slice A l.length c, .func (.func 73) #[] #[]] w fun e w' => e = .returned (.bool (badR l)) ∧ Below w.heap.size w w' := by
  have HC := Aside0.mk hC
  clear hC
  go_enter Try.func74, Try.ntmps74
  go_wp2_with (first | (go_at_call 91; (with_reducible refine (p_indexf HC.out).mono ?_); rintro e w1 ⟨v, rfl, hv, hb⟩; have HB1 := Aside0.mk hb; have HV := Aside0.mk hv; clear hv hb))
  go_ret
  exact ⟨by rw [← HV.out]; first | rfl | (simp; done), HB1.out⟩
end Go.Proofs.Ytmkgihmchkphaaa.Stk
