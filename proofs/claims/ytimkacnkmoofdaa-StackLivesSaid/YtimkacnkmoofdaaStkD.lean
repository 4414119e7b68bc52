/- Words of ours: a law's list of calls, read. -/
import Derived.Test.YtimkacnkmoofdaaStkL1
namespace Go.Proofs.Ytimkacnkmoofdaa.Stk
open Go.RowKit Go.Proofs.YtimkacnkmoofdaaW.PrintWords Go.Proofs.YtimkacnkmoofdaaW.PrintLast Go.Proofs.YtimkacnkmoofdaaW.PrintMore
attribute [local go_sem] max2_int min2_int max_two min_two max_three min_three max_four min_four   -- for this text's walks alone
set_option linter.unusedVariables false
set_option linter.unusedSimpArgs false
/-- A call of a stack, as the laws' lists have them. -/
structure DoE where
  op : Int
  n : Int
  right : Bool
  ov : Int
def zD : DoE := ⟨0, 0, false, 0⟩
def kD : Kd DoE := Kd.iso (Kd.pair (Kd.int .i64) (Kd.pair (Kd.int .i64) (Kd.pair Kd.bool (Kd.int .i64)))) (fun x : DoE => (x.op, x.n, x.right, x.ov))
theorem kD_open {w : World} {x : DoE} {cs : List Value} (h : kD.K w x cs) : cs = [.int .i64 x.op, .int .i64 x.n, .bool x.right, .int .i64 x.ov] := by
  obtain ⟨_, _, rfl, rfl, ⟨_, _, rfl, rfl, ⟨_, _, rfl, rfl, rfl⟩⟩⟩ := h
  exact rfl
theorem kD_mk (w : World) (x : DoE) : kD.K w x [.int .i64 x.op, .int .i64 x.n, .bool x.right, .int .i64 x.ov] := ⟨[.int .i64 x.op], [.int .i64 x.n, .bool x.right, .int .i64 x.ov], rfl, rfl, ⟨[.int .i64 x.n], [.bool x.right, .int .i64 x.ov], rfl, rfl, ⟨[.bool x.right], [.int .i64 x.ov], rfl, rfl, rfl⟩⟩⟩
theorem at_D {w : World} {A : Option Addr} {n : Nat} {xs : List DoE} (h : Kd.C kD w A n xs) (i : Nat) (h1 : i < n) : ∃ ad, A = some ad ∧ w.cell? (ad.add (i * 4)) = some (.int .i64 (xs.getD i zD).op) ∧ w.cell? ⟨(ad.add (i * 4)).block, (ad.add (i * 4)).off + 1, none⟩ = some (.int .i64 (xs.getD i zD).n) ∧ w.cell? ⟨(ad.add (i * 4)).block, (ad.add (i * 4)).off + 2, none⟩ = some (.bool (xs.getD i zD).right) ∧ w.cell? ⟨(ad.add (i * 4)).block, (ad.add (i * 4)).off + 3, none⟩ = some (.int .i64 (xs.getD i zD).ov) := by
  obtain ⟨ad, c, e, _, hK, hc0⟩ := Kd.C_get h zD (i : Int) (by omega) (by omega)
  rw [Int.toNat_natCast] at hK hc0
  have hc : ∀ j u, c[j]? = some u → w.cell? (ad.add (i * 4 + j)) = some u := hc0
  obtain rfl := kD_open hK
  exact ⟨ad, e, hc 0 _ rfl, by rw [← add_field _ _ 1 (by omega)]; exact hc 1 _ rfl, by rw [← add_field _ _ 2 (by omega)]; exact hc 2 _ rfl, by rw [← add_field _ _ 3 (by omega)]; exact hc 3 _ rfl⟩
/-- Which of ten a number is. -/
theorem op_cases (x : Int) : x = 0 ∨ x = 1 ∨ x = 2 ∨ x = 3 ∨ x = 4 ∨ x = 5 ∨ x = 6 ∨ x = 7 ∨ x = 8 ∨ (x ≠ 0 ∧ x ≠ 1 ∧ x ≠ 2 ∧ x ≠ 3 ∧ x ≠ 4 ∧ x ≠ 5 ∧ x ≠ 6 ∧ x ≠ 7 ∧ x ≠ 8) := by omega
end Go.Proofs.Ytimkacnkmoofdaa.Stk
