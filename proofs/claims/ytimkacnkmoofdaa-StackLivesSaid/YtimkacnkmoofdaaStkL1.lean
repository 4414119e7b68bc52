/- The law's own awake is true. -/
import Derived.Test.YtimkacnkmoofdaaStkP8
namespace Go.Proofs.Ytimkacnkmoofdaa.Stk
open Go.RowKit Go.Proofs.YtimkacnkmoofdaaW.PrintWords Go.Proofs.YtimkacnkmoofdaaW.PrintLast Go.Proofs.YtimkacnkmoofdaaW.PrintMore
attribute [local go_sem] max2_int min2_int max_two min_two max_three min_three max_four min_four   -- for this text's walks alone
set_option linter.unusedVariables false
set_option linter.unusedSimpArgs false
def L1 : List Ent := [⟨0, 13, false⟩]
def L2 : List Ent := [⟨0, 13, false⟩, ⟨1, 13, false⟩]
theorem L1_new : [newE 0] = L1 := rfl
theorem L1_good : Good L1 := Good.new 0
theorem L1_ok : okB 0 0 L1 true = true := by decide
theorem L1_embL : embL 0 0 L1 true 13 = L2 := by unfold embL; rw [if_pos L1_ok]; rfl
theorem L1_embB : embB 0 0 L1 true = 0 := by unfold embB; rw [if_pos L1_ok]
theorem L2_good : Good L2 := by have := (Went.emb (a := 0) (b := 0) L1_good true 13).1; rw [L1_embL] at this; exact this
theorem L2_top : topE L2 = ⟨1, 13, false⟩ := rfl
theorem L2_next : nextL false 1 = 2 := by decide
theorem L2_push : pushB L2 1 = false := by decide
theorem L2_pop : popE L2 = L1 := rfl
theorem L1_pop : popE L1 = L1 := rfl
set_option maxHeartbeats 8000000 in
set_option maxRecDepth 100000 in
theorem p_awake (w : World) : Calls Try.prog 22 #[] w fun e w' => e = .returned (.bool true) ∧ Below w.heap.size w w' := by
  have he := Try.underlying28
  have HE := Aside0.mk (fun (W : World) (g : Nat) (v : Value) (h : StkP W w.heap.size g v 0 0 0 L1) => (by have h1 := p_embed h L1_good true 13; rw [L1_ok, L1_embB, L1_embL] at h1; exact h1 : Calls Try.prog 18 #[.pointer (some ⟨g, 0, none⟩), .bool true, .int .i64 13] W (Upd W w.heap.size g v (.returned (.bool true)) 0 0 0 L2)))
  have HT := Aside0.mk (fun (W : World) (g : Nat) (v : Value) (h : StkP W w.heap.size g v 0 0 0 L2) => (by have h1 := p_top h L2_good.1 (by decide); rw [L2_top] at h1; exact h1 : Calls Try.prog 16 #[.pointer (some ⟨g, 0, none⟩)] W fun e w' => e = .returned (.agg #[.int .i64 1, .int .i64 13, .bool false]) ∧ Below W.heap.size W w'))
  have HL := Aside0.mk (fun (W : World) (g : Nat) (v : Value) (h : StkP W w.heap.size g v 0 0 0 L2) => (p_len h L2_good.1 : Calls Try.prog 17 #[.pointer (some ⟨g, 0, none⟩)] W fun e w' => e = .returned (.int .i64 2) ∧ W = w'))
  have HN := Aside0.mk (fun (W : World) (g : Nat) (v : Value) (h : StkP W w.heap.size g v 0 0 0 L2) => (by have h1 := p_next h L2_good.1 (by decide) (by rw [L2_top]; decide) (by rw [L2_top]; decide) false; rw [L2_top, L2_next] at h1; exact h1 : Calls Try.prog 28 #[.pointer (some ⟨g, 0, none⟩), .bool false] W fun e w' => e = .returned (.int .i64 2) ∧ Below W.heap.size W w'))
  have HU := Aside0.mk (fun (W : World) (g : Nat) (v : Value) (h : StkP W w.heap.size g v 0 0 0 L2) => (by have h1 := p_push h L2_good 1 0 false; rw [L2_push] at h1; simp only [Bool.false_eq_true, if_false] at h1; exact h1 : Calls Try.prog 30 #[.pointer (some ⟨g, 0, none⟩), .agg #[.int .i64 1, .int .i64 0, .bool false]] W (Upd W w.heap.size g v (.returned (.bool false)) 0 0 0 L2)))
  have HP := Aside0.mk (fun (W : World) (g : Nat) (v : Value) (h : StkP W w.heap.size g v 0 0 0 L2) => (p_pop h L2_good.1 (by decide) : Calls Try.prog 31 #[.pointer (some ⟨g, 0, none⟩)] W (Upd W w.heap.size g v (.returned (.bool true)) 0 0 0 L1)))
  have HQ := Aside0.mk (fun (W : World) (g : Nat) (v : Value) (h : StkP W w.heap.size g v 0 0 0 L1) => (p_pop h L1_good.1 (by decide) : Calls Try.prog 31 #[.pointer (some ⟨g, 0, none⟩)] W (Upd W w.heap.size g v (.returned (.bool false)) 0 0 0 L1)))
  have hfl : ∀ (W : World) (x y : Int) (z : Bool), (Instr.field 28 (.agg #[.int .i64 x, .int .i64 y, .bool z]) 0).run Try.prog W = .ok (.int .i64 x) W := fun W x y z => by kernel_rfl
  go_enter Try.func22, Try.ntmps22
  go_wp2_with (first | (go_at_call 15; (with_reducible refine (p_new 0 w).mono ?_); rintro e w1 ⟨g, v, rfl, hS, hg, hb⟩; have HS1 := Aside0.mk (show StkP w1 w.heap.size g v 0 0 0 L1 from hS); have HB1 := Aside0.mk hb; clear hS hg hb) | (go_at_call 18; (with_reducible refine (HE.out _ _ _ HS1.out).mono ?_); rintro e w2 ⟨v2, rfl, hS, hM⟩; have HS2 := Aside0.mk hS; have HB2 := Aside0.mk (HB1.out.trans (hM.below HS1.out)); clear hS hM) | (go_at_call 16; (with_reducible refine (HT.out _ _ _ HS2.out).mono ?_); rintro e w3 ⟨rfl, hb⟩; have HS3 := Aside0.mk (show StkP w3 w.heap.size g v2 0 0 0 L2 from stk_below HS2.out hb); have HB3 := Aside0.mk (below_then HB2.out HB2.out.size hb); clear hb) | (go_at_call 17; (with_reducible refine (HL.out _ _ _ HS3.out).mono ?_); rintro e w_ ⟨rfl, rfl⟩) | (go_at_call 28; (with_reducible refine (HN.out _ _ _ HS3.out).mono ?_); rintro e w4 ⟨rfl, hb⟩; have HS4 := Aside0.mk (show StkP w4 w.heap.size g v2 0 0 0 L2 from stk_below HS3.out hb); have HB4 := Aside0.mk (below_then HB3.out HB3.out.size hb); clear hb) | (go_at_call 30; (with_reducible refine (HU.out _ _ _ HS4.out).mono ?_); rintro e w5 ⟨v5, rfl, hS, hM⟩; have HS5 := Aside0.mk hS; have HB5 := Aside0.mk (HB4.out.trans (hM.below HS4.out)); clear hS hM) | (go_at_call 31; (with_reducible refine (HQ.out _ _ _ HS6.out).mono ?_); rintro e w7 ⟨v7, rfl, hS, hM⟩; have HS7 := Aside0.mk hS; have HB7 := Aside0.mk (HB6.out.trans (hM.below HS6.out)); clear hS hM) | (go_at_call 31; (with_reducible refine (HP.out _ _ _ HS5.out).mono ?_); rintro e w6 ⟨v6, rfl, hS, hM⟩; have HS6 := Aside0.mk hS; have HB6 := Aside0.mk (HB5.out.trans (hM.below HS5.out)); clear hS hM))
  go_ret
  exact ⟨by first | rfl | simp [*], HB7.out⟩
end Go.Proofs.Ytimkacnkmoofdaa.Stk
