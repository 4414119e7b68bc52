import Derived.Test.YtknghhlielhleaaDoorSpO
namespace Go.Proofs.YtknghhlielhleaaDoor.Stk
open Go.RowKit Go.Proofs.YtknghhlielhleaaDoorW.PrintWords Go.Proofs.YtknghhlielhleaaDoorW.PrintLast Go.Proofs.YtknghhlielhleaaDoorW.PrintMore
attribute [local go_sem] max2_int min2_int max_two min_two max_three min_three max_four min_four   -- for this text's walks alone
set_option linter.unusedVariables false
set_option linter.unusedSimpArgs false
set_option maxHeartbeats 8000000 in
set_option maxRecDepth 100000 in
theorem p_rwords (i : Nat) (hi : i < 14) (w : World) :
    Calls Tryd.prog 31 #[.int .i64 (i : Int)] w fun e w' => ∃ g off cap, e = .returned (.slice (some ⟨g, off, none⟩) (W i).length cap) ∧ (∀ k, k < (W i).length → w'.cell? ⟨g, off + k, none⟩ = some (.string ((W i).getD k ⟨#[]⟩))) ∧ Below w.heap.size w w' := by
  obtain rfl | rfl | rfl | rfl | rfl | rfl | rfl | rfl | rfl | rfl | rfl | rfl | rfl | rfl : i = 0 ∨ i = 1 ∨ i = 2 ∨ i = 3 ∨ i = 4 ∨ i = 5 ∨ i = 6 ∨ i = 7 ∨ i = 8 ∨ i = 9 ∨ i = 10 ∨ i = 11 ∨ i = 12 ∨ i = 13 := by omega
  · show Calls Tryd.prog 31 #[.int .i64 0] w _
    clear hi
    go_enter Tryd.func31, Tryd.ntmps31
    go_wp2
    go_ret
    refine ⟨w.heap.size, 0, _, rfl, fun k hk => ?_, below_alloc (Below.refl _ _) _⟩
    have hb := blk_new w (.cells (#[.string ⟨#[108, 116, 114]⟩, .string ⟨#[114, 116, 108]⟩, .string ⟨#[102, 105, 114, 115, 116, 45, 108, 116, 114]⟩, .string ⟨#[102, 105, 114, 115, 116, 45, 114, 116, 108]⟩] : Array Value) 9 (0, 0))
    refine (blk_cell hb (0 + k)).trans ?_
    have hk' : k < 4 := hk
    clear hk hb
    obtain rfl | rfl | rfl | rfl : k = 0 ∨ k = 1 ∨ k = 2 ∨ k = 3 := by omega
    all_goals rfl
  · show Calls Tryd.prog 31 #[.int .i64 1] w _
    clear hi
    go_enter Tryd.func31, Tryd.ntmps31
    go_wp2
    go_ret
    refine ⟨w.heap.size, 0, _, rfl, fun k hk => ?_, below_alloc (Below.refl _ _) _⟩
    have hb := blk_new w (.cells (#[.string ⟨#[108, 97, 109, 45, 114, 101, 115, 105, 122, 101]⟩, .string ⟨#[108, 97, 109, 45, 110, 101, 97, 114]⟩, .string ⟨#[108, 97, 109, 45, 98, 101, 103, 105, 110]⟩, .string ⟨#[108, 97, 109, 45, 101, 110, 100]⟩] : Array Value) 9 (0, 0))
    refine (blk_cell hb (0 + k)).trans ?_
    have hk' : k < 4 := hk
    clear hk hb
    obtain rfl | rfl | rfl | rfl : k = 0 ∨ k = 1 ∨ k = 2 ∨ k = 3 := by omega
    all_goals rfl
  · show Calls Tryd.prog 31 #[.int .i64 2] w _
    clear hi
    go_enter Tryd.func31, Tryd.ntmps31
    go_wp2
    go_ret
    refine ⟨w.heap.size, 0, _, rfl, fun k hk => ?_, below_alloc (Below.refl _ _) _⟩
    have hb := blk_new w (.cells (#[.string ⟨#[109, 97, 114, 107, 45, 105, 115, 111, 108, 97, 116, 101, 100]⟩, .string ⟨#[109, 97, 114, 107, 45, 109, 101, 100, 105, 97, 108]⟩, .string ⟨#[109, 97, 114, 107, 45, 114, 101, 109, 111, 118, 101]⟩, .string ⟨#[109, 97, 114, 107, 45, 116, 97, 116, 119, 101, 101, 108]⟩] : Array Value) 9 (0, 0))
    refine (blk_cell hb (0 + k)).trans ?_
    have hk' : k < 4 := hk
    clear hk hb
    obtain rfl | rfl | rfl | rfl : k = 0 ∨ k = 1 ∨ k = 2 ∨ k = 3 := by omega
    all_goals rfl
  · show Calls Tryd.prog 31 #[.int .i64 3] w _
    clear hi
    go_enter Tryd.func31, Tryd.ntmps31
    go_wp2
    go_ret
    refine ⟨w.heap.size, 0, _, rfl, fun k hk => ?_, below_alloc (Below.refl _ _) _⟩
    have hb := blk_new w (.cells (#[.string ⟨#[116, 111, 45, 97, 114, 97, 98, 105, 99]⟩, .string ⟨#[116, 111, 45, 101, 117, 114, 111, 112, 101, 97, 110]⟩, .string ⟨#[99, 111, 110, 116, 101, 120, 116, 45, 108, 116, 114]⟩, .string ⟨#[99, 111, 110, 116, 101, 120, 116, 45, 97, 114, 97, 98, 105, 99]⟩] : Array Value) 9 (0, 0))
    refine (blk_cell hb (0 + k)).trans ?_
    have hk' : k < 4 := hk
    clear hk hb
    obtain rfl | rfl | rfl | rfl : k = 0 ∨ k = 1 ∨ k = 2 ∨ k = 3 := by omega
    all_goals rfl
  · show Calls Tryd.prog 31 #[.int .i64 4] w _
    clear hi
    go_enter Tryd.func31, Tryd.ntmps31
    go_wp2
    go_ret
    refine ⟨w.heap.size, 0, _, rfl, fun k hk => ?_, below_alloc (Below.refl _ _) _⟩
    have hb := blk_new w (.cells (#[.string ⟨#[101, 97, 115, 116, 101, 114, 110]⟩, .string ⟨#[108, 101, 116, 116, 101, 114, 115]⟩, .string ⟨#[116, 104, 114, 111, 117, 103, 104]⟩, .string ⟨#[112, 105, 108, 101]⟩, .string ⟨#[115, 101, 101, 110]⟩, .string ⟨#[121, 101, 104]⟩, .string ⟨#[114, 101, 111, 114, 100, 101, 114]⟩, .string ⟨#[109, 97, 114, 107, 115]⟩, .string ⟨#[109, 105, 114, 114, 111, 114]⟩, .string ⟨#[115, 116, 114, 105, 112]⟩] : Array Value) 9 (0, 0))
    refine (blk_cell hb (0 + k)).trans ?_
    have hk' : k < 1 := hk
    clear hk hb
    obtain rfl : k = 0 := by omega
    all_goals rfl
  · show Calls Tryd.prog 31 #[.int .i64 5] w _
    clear hi
    go_enter Tryd.func31, Tryd.ntmps31
    go_wp2
    go_ret
    refine ⟨w.heap.size, 1, _, rfl, fun k hk => ?_, below_alloc (Below.refl _ _) _⟩
    have hb := blk_new w (.cells (#[.string ⟨#[101, 97, 115, 116, 101, 114, 110]⟩, .string ⟨#[108, 101, 116, 116, 101, 114, 115]⟩, .string ⟨#[116, 104, 114, 111, 117, 103, 104]⟩, .string ⟨#[112, 105, 108, 101]⟩, .string ⟨#[115, 101, 101, 110]⟩, .string ⟨#[121, 101, 104]⟩, .string ⟨#[114, 101, 111, 114, 100, 101, 114]⟩, .string ⟨#[109, 97, 114, 107, 115]⟩, .string ⟨#[109, 105, 114, 114, 111, 114]⟩, .string ⟨#[115, 116, 114, 105, 112]⟩] : Array Value) 9 (0, 0))
    refine (blk_cell hb (1 + k)).trans ?_
    have hk' : k < 1 := hk
    clear hk hb
    obtain rfl : k = 0 := by omega
    all_goals rfl
  · show Calls Tryd.prog 31 #[.int .i64 6] w _
    clear hi
    go_enter Tryd.func31, Tryd.ntmps31
    go_wp2
    go_ret
    refine ⟨w.heap.size, 2, _, rfl, fun k hk => ?_, below_alloc (Below.refl _ _) _⟩
    have hb := blk_new w (.cells (#[.string ⟨#[101, 97, 115, 116, 101, 114, 110]⟩, .string ⟨#[108, 101, 116, 116, 101, 114, 115]⟩, .string ⟨#[116, 104, 114, 111, 117, 103, 104]⟩, .string ⟨#[112, 105, 108, 101]⟩, .string ⟨#[115, 101, 101, 110]⟩, .string ⟨#[121, 101, 104]⟩, .string ⟨#[114, 101, 111, 114, 100, 101, 114]⟩, .string ⟨#[109, 97, 114, 107, 115]⟩, .string ⟨#[109, 105, 114, 114, 111, 114]⟩, .string ⟨#[115, 116, 114, 105, 112]⟩] : Array Value) 9 (0, 0))
    refine (blk_cell hb (2 + k)).trans ?_
    have hk' : k < 1 := hk
    clear hk hb
    obtain rfl : k = 0 := by omega
    all_goals rfl
  · show Calls Tryd.prog 31 #[.int .i64 7] w _
    clear hi
    go_enter Tryd.func31, Tryd.ntmps31
    go_wp2
    go_ret
    refine ⟨w.heap.size, 3, _, rfl, fun k hk => ?_, below_alloc (Below.refl _ _) _⟩
    have hb := blk_new w (.cells (#[.string ⟨#[101, 97, 115, 116, 101, 114, 110]⟩, .string ⟨#[108, 101, 116, 116, 101, 114, 115]⟩, .string ⟨#[116, 104, 114, 111, 117, 103, 104]⟩, .string ⟨#[112, 105, 108, 101]⟩, .string ⟨#[115, 101, 101, 110]⟩, .string ⟨#[121, 101, 104]⟩, .string ⟨#[114, 101, 111, 114, 100, 101, 114]⟩, .string ⟨#[109, 97, 114, 107, 115]⟩, .string ⟨#[109, 105, 114, 114, 111, 114]⟩, .string ⟨#[115, 116, 114, 105, 112]⟩] : Array Value) 9 (0, 0))
    refine (blk_cell hb (3 + k)).trans ?_
    have hk' : k < 1 := hk
    clear hk hb
    obtain rfl : k = 0 := by omega
    all_goals rfl
  · show Calls Tryd.prog 31 #[.int .i64 8] w _
    clear hi
    go_enter Tryd.func31, Tryd.ntmps31
    go_wp2
    go_ret
    refine ⟨w.heap.size, 4, _, rfl, fun k hk => ?_, below_alloc (Below.refl _ _) _⟩
    have hb := blk_new w (.cells (#[.string ⟨#[101, 97, 115, 116, 101, 114, 110]⟩, .string ⟨#[108, 101, 116, 116, 101, 114, 115]⟩, .string ⟨#[116, 104, 114, 111, 117, 103, 104]⟩, .string ⟨#[112, 105, 108, 101]⟩, .string ⟨#[115, 101, 101, 110]⟩, .string ⟨#[121, 101, 104]⟩, .string ⟨#[114, 101, 111, 114, 100, 101, 114]⟩, .string ⟨#[109, 97, 114, 107, 115]⟩, .string ⟨#[109, 105, 114, 114, 111, 114]⟩, .string ⟨#[115, 116, 114, 105, 112]⟩] : Array Value) 9 (0, 0))
    refine (blk_cell hb (4 + k)).trans ?_
    have hk' : k < 1 := hk
    clear hk hb
    obtain rfl : k = 0 := by omega
    all_goals rfl
  · show Calls Tryd.prog 31 #[.int .i64 9] w _
    clear hi
    go_enter Tryd.func31, Tryd.ntmps31
    go_wp2
    go_ret
    refine ⟨w.heap.size, 5, _, rfl, fun k hk => ?_, below_alloc (Below.refl _ _) _⟩
    have hb := blk_new w (.cells (#[.string ⟨#[101, 97, 115, 116, 101, 114, 110]⟩, .string ⟨#[108, 101, 116, 116, 101, 114, 115]⟩, .string ⟨#[116, 104, 114, 111, 117, 103, 104]⟩, .string ⟨#[112, 105, 108, 101]⟩, .string ⟨#[115, 101, 101, 110]⟩, .string ⟨#[121, 101, 104]⟩, .string ⟨#[114, 101, 111, 114, 100, 101, 114]⟩, .string ⟨#[109, 97, 114, 107, 115]⟩, .string ⟨#[109, 105, 114, 114, 111, 114]⟩, .string ⟨#[115, 116, 114, 105, 112]⟩] : Array Value) 9 (0, 0))
    refine (blk_cell hb (5 + k)).trans ?_
    have hk' : k < 1 := hk
    clear hk hb
    obtain rfl : k = 0 := by omega
    all_goals rfl
  · show Calls Tryd.prog 31 #[.int .i64 10] w _
    clear hi
    go_enter Tryd.func31, Tryd.ntmps31
    go_wp2
    go_ret
    refine ⟨w.heap.size, 6, _, rfl, fun k hk => ?_, below_alloc (Below.refl _ _) _⟩
    have hb := blk_new w (.cells (#[.string ⟨#[101, 97, 115, 116, 101, 114, 110]⟩, .string ⟨#[108, 101, 116, 116, 101, 114, 115]⟩, .string ⟨#[116, 104, 114, 111, 117, 103, 104]⟩, .string ⟨#[112, 105, 108, 101]⟩, .string ⟨#[115, 101, 101, 110]⟩, .string ⟨#[121, 101, 104]⟩, .string ⟨#[114, 101, 111, 114, 100, 101, 114]⟩, .string ⟨#[109, 97, 114, 107, 115]⟩, .string ⟨#[109, 105, 114, 114, 111, 114]⟩, .string ⟨#[115, 116, 114, 105, 112]⟩] : Array Value) 9 (0, 0))
    refine (blk_cell hb (6 + k)).trans ?_
    have hk' : k < 1 := hk
    clear hk hb
    obtain rfl : k = 0 := by omega
    all_goals rfl
  · show Calls Tryd.prog 31 #[.int .i64 11] w _
    clear hi
    go_enter Tryd.func31, Tryd.ntmps31
    go_wp2
    go_ret
    refine ⟨w.heap.size, 7, _, rfl, fun k hk => ?_, below_alloc (Below.refl _ _) _⟩
    have hb := blk_new w (.cells (#[.string ⟨#[101, 97, 115, 116, 101, 114, 110]⟩, .string ⟨#[108, 101, 116, 116, 101, 114, 115]⟩, .string ⟨#[116, 104, 114, 111, 117, 103, 104]⟩, .string ⟨#[112, 105, 108, 101]⟩, .string ⟨#[115, 101, 101, 110]⟩, .string ⟨#[121, 101, 104]⟩, .string ⟨#[114, 101, 111, 114, 100, 101, 114]⟩, .string ⟨#[109, 97, 114, 107, 115]⟩, .string ⟨#[109, 105, 114, 114, 111, 114]⟩, .string ⟨#[115, 116, 114, 105, 112]⟩] : Array Value) 9 (0, 0))
    refine (blk_cell hb (7 + k)).trans ?_
    have hk' : k < 1 := hk
    clear hk hb
    obtain rfl : k = 0 := by omega
    all_goals rfl
  · show Calls Tryd.prog 31 #[.int .i64 12] w _
    clear hi
    go_enter Tryd.func31, Tryd.ntmps31
    go_wp2
    go_ret
    refine ⟨w.heap.size, 8, _, rfl, fun k hk => ?_, below_alloc (Below.refl _ _) _⟩
    have hb := blk_new w (.cells (#[.string ⟨#[101, 97, 115, 116, 101, 114, 110]⟩, .string ⟨#[108, 101, 116, 116, 101, 114, 115]⟩, .string ⟨#[116, 104, 114, 111, 117, 103, 104]⟩, .string ⟨#[112, 105, 108, 101]⟩, .string ⟨#[115, 101, 101, 110]⟩, .string ⟨#[121, 101, 104]⟩, .string ⟨#[114, 101, 111, 114, 100, 101, 114]⟩, .string ⟨#[109, 97, 114, 107, 115]⟩, .string ⟨#[109, 105, 114, 114, 111, 114]⟩, .string ⟨#[115, 116, 114, 105, 112]⟩] : Array Value) 9 (0, 0))
    refine (blk_cell hb (8 + k)).trans ?_
    have hk' : k < 1 := hk
    clear hk hb
    obtain rfl : k = 0 := by omega
    all_goals rfl
  · show Calls Tryd.prog 31 #[.int .i64 13] w _
    clear hi
    go_enter Tryd.func31, Tryd.ntmps31
    go_wp2
    go_ret
    refine ⟨w.heap.size, 9, _, rfl, fun k hk => ?_, below_alloc (Below.refl _ _) _⟩
    have hb := blk_new w (.cells (#[.string ⟨#[101, 97, 115, 116, 101, 114, 110]⟩, .string ⟨#[108, 101, 116, 116, 101, 114, 115]⟩, .string ⟨#[116, 104, 114, 111, 117, 103, 104]⟩, .string ⟨#[112, 105, 108, 101]⟩, .string ⟨#[115, 101, 101, 110]⟩, .string ⟨#[121, 101, 104]⟩, .string ⟨#[114, 101, 111, 114, 100, 101, 114]⟩, .string ⟨#[109, 97, 114, 107, 115]⟩, .string ⟨#[109, 105, 114, 114, 111, 114]⟩, .string ⟨#[115, 116, 114, 105, 112]⟩] : Array Value) 9 (0, 0))
    refine (blk_cell hb (9 + k)).trans ?_
    have hk' : k < 1 := hk
    clear hk hb
    obtain rfl : k = 0 := by omega
    all_goals rfl
theorem W_len (i : Nat) (hi : i < 14) : (W i).length ≤ 4 := by
  obtain rfl | rfl | rfl | rfl | rfl | rfl | rfl | rfl | rfl | rfl | rfl | rfl | rfl | rfl : i = 0 ∨ i = 1 ∨ i = 2 ∨ i = 3 ∨ i = 4 ∨ i = 5 ∨ i = 6 ∨ i = 7 ∨ i = 8 ∨ i = 9 ∨ i = 10 ∨ i = 11 ∨ i = 12 ∨ i = 13 := by omega
  all_goals decide
def fdF (word : ByteArray) : Int := if fF word < 14 then (fF word : Int) else -1
def fdN (word : ByteArray) : Int := if fF word < 14 then (ixW (W (fF word)) word : Int) + 1 else 0
set_option maxHeartbeats 8000000 in
set_option maxRecDepth 100000 in
theorem p_find (word : ByteArray) (w : World) :
    Calls Tryd.prog 23 #[.string word] w fun e w' => e = .returned (.tuple #[.int .i64 (fdF word), .int .i64 (fdN word)]) ∧ Below w.heap.size w w' := by
  go_enter Tryd.func23, Tryd.ntmps23
  go_wp2
  go_loopg [4] 15 (fun kq v4 w' => ∃ i : Nat, v4 = .int .i64 (i : Int) ∧ Aside0 (15 - i ≤ kq ∧ i ≤ 14 ∧ i ≤ fF word) ∧ Aside0 (Below w.heap.size w w'))
  case atStart => exact ⟨0, rfl, ⟨by omega, by omega, by omega⟩, ⟨Below.refl _ _⟩⟩
  case round =>
    obtain ⟨i, rfl, HI, HB⟩ := hrel
    by_cases hlt : i < 14
    · have q0 := decide_eq_true (show (i : Int) < 14 by omega)
      have r0 := eq_true (show (i : Int) < 14 by omega)
      have c := p_rwords i hlt
      have HLT := Aside0.mk hlt
      have hwi : IntKind.i64.wrap ((i : Int) + 1) = ((i + 1 : Nat) : Int) := (i64_w _).trans (by have := HLT.out; unfold wrap64; omega)
      have HW4 := Aside0.mk (W_len i hlt)
      have HYES : Aside0 (ixW (W i) word < (W i).length → fdF word = i ∧ fdN word = ixW (W i) word + 1) := ⟨fun h => by
        have h1 := fF_at hlt HI.out.2.2 (decide_eq_true h)
        unfold fdF fdN
        rw [h1, if_pos hlt, if_pos hlt]
        exact ⟨rfl, rfl⟩⟩
      have HNO : Aside0 (¬ ixW (W i) word < (W i).length → i + 1 ≤ fF word) := ⟨fun h => fF_no hlt HI.out.2.2 (decide_eq_false h)⟩
      generalize W i = ws at c HW4 HYES HNO
      clear hlt
      go_wp2_with (first | (go_at_call 31; (with_reducible refine (c _).mono ?_); rintro e w2 ⟨g, off, cap, rfl, hc, hb⟩; have HC := Aside0.mk hc; have HB2 := Aside0.mk (below_step HB.out hb); clear hc hb))
      go_loopg [6] (ws.length + 1) (fun kq v6 w' => ∃ k : Nat, v6 = .int .i64 (k : Int) ∧ w' = w2 ∧ Aside0 (ws.length + 1 - k ≤ kq ∧ k ≤ ws.length ∧ k ≤ ixW ws word))
      case atStart => exact ⟨0, rfl, rfl, ⟨by omega, by omega, by omega⟩⟩
      case round =>
        obtain ⟨k, rfl, rfl, HK⟩ := hrel
        by_cases hk : k < ws.length
        · have q2 := decide_eq_true (show (k : Int) < (ws.length : Int) by omega)
          have q3 := decide_eq_true hk
          have r2 := eq_true (show (k : Int) < (ws.length : Int) by omega)
          have r3 := eq_true hk
          have r4 := eq_true (show (0 : Int) ≤ (k : Int) by omega)
          have c_ := HC.out k hk
          have HKT := Aside0.mk hk
          have hwk : IntKind.i64.wrap ((k : Int) + 1) = ((k + 1 : Nat) : Int) := (i64_w _).trans (by have := HKT.out; have := HW4.out; unfold wrap64; omega)
          by_cases heq : ws.getD k ⟨#[]⟩ = word
          · have HE := Aside0.mk (idx_at hk HK.out.2.2 heq)
            rw [heq] at c_
            have n0 : (word.toList == word.toList) = true := by simp
            have HY := Aside0.mk (HYES.out (by rw [HE.out]; exact HKT.out))
            clear hk heq
            go_wp2
            go_ret2
            exact ⟨by rw [HY.out.1, HY.out.2, HE.out]; first | rfl | (rw [hwk]; rfl) | (simp only [hwk]; rfl), HB2.out⟩
          · have HE := Aside0.mk (idx_no hk HK.out.2.2 heq)
            generalize ws.getD k ⟨#[]⟩ = x at c_ heq
            have n0 : (x.toList == word.toList) = false := (str_eq x word).trans (decide_eq_false heq)
            clear hk heq
            go_wp2
            go_roundg (ws.length + 1 - (k + 1))
            case measure => have h1_ := HK.out.1; have h2_ := HKT.out; omega
            case rel => exact ⟨k + 1, by first | rfl | go_num | rw [hwk], rfl, ⟨Nat.le_refl _, HKT.out, HE.out⟩⟩
        · have q2 := decide_eq_false (show ¬ (k : Int) < (ws.length : Int) by omega)
          have q3 := decide_eq_false hk
          have HE := Aside0.mk (HNO.out (by have := HK.out; omega))
          clear hk
          go_wp2
          go_roundg (15 - (i + 1))
          case measure => have h1_ := HI.out.1; have h2_ := HLT.out; omega
          case rel => exact ⟨i + 1, by first | rfl | go_num | rw [hwi], ⟨Nat.le_refl _, HLT.out, HE.out⟩, HB2⟩
    · have q0 := decide_eq_false (show ¬ (i : Int) < 14 by omega)
      have HE := Aside0.mk (show fdF word = -1 ∧ fdN word = 0 by have h1 := HI.out; unfold fdF fdN; rw [if_neg (by omega), if_neg (by omega)]; exact ⟨rfl, rfl⟩)
      clear hlt
      go_wp2
      go_ret2
      exact ⟨by rw [HE.out.1, HE.out.2]; first | done | rfl, HB.out⟩
end Go.Proofs.YtknghhlielhleaaDoor.Stk
