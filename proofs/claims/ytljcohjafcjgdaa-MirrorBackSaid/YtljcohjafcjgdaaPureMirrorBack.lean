/- Mirrored twice, codes are what they were. No condition. -/
import Derived.Test.YtljcohjafcjgdaaPMirrorBackx
namespace Go.Proofs.Ytljcohjafcjgdaa.PureMirrorBackAux
open Go.RowKit Go.Proofs.Ytljcohjafcjgdaa.PMirrorBack Go.Proofs.YtljcohjafcjgdaaW.PrintWords Go.Proofs.YtljcohjafcjgdaaW.PrintLast

set_option linter.unusedSimpArgs false
set_option linter.unusedVariables false
theorem w64 {x : Int} (h0 : -9223372036854775808 ≤ x) (h1 : x ≤ 9223372036854775807) : wrap64 x = x := by unfold wrap64; omega
theorem rd_at (pre : List Int) (x : Int) (rest : List Int) : rd (pre ++ x :: rest) (pre.length : Int) = x := by simp [rd]
theorem rd_nat (l : List Int) (i : Nat) (h : i < l.length) : rd l (i : Int) = l[i] := by simp [rd, h]
theorem wf64 {x : Int} (h : (Lit.int .i64 x).wf = true) : -9223372036854775808 ≤ x ∧ x ≤ 9223372036854775807 := by
  simpa [Lit.wf, IntKind.min, IntKind.max, IntKind.signed, IntKind.bits] using h
theorem bsome {P : Prop} [Decidable P] {b : Bool} (h : b = true ↔ P) : some b = some (decide P) := by
  congr 1; rw [Bool.eq_iff_iff]; simpa using h
theorem u16w {x : Int} (h0 : 0 ≤ x) (h1 : x ≤ 65535) : IntKind.u16.wrap x = x := by
  simp [IntKind.wrap, IntKind.min, IntKind.max, IntKind.signed, IntKind.bits]; omega

theorem i64_and1 (n : Int) : Go.bits .and .i64 n 1 = n % 2 := by
  have h1 : (BitVec.ofInt 64 1).toNat = 2 ^ 1 - 1 := by decide
  have key : (BitVec.ofInt 64 n &&& BitVec.ofInt 64 1).toNat = (n % ((2 ^ 64 : Nat) : Int)).toNat % 2 ^ 1 := by
    rw [BitVec.toNat_and, BitVec.toNat_ofInt, h1, Nat.and_two_pow_sub_one_eq_mod]
  show IntKind.i64.wrap ((BitVec.ofInt 64 n &&& BitVec.ofInt 64 1).toNat : Nat) = n % 2
  rw [key, IntKind.wrap_i64]
  omega

theorem eq_loop_int_int (a b : List Int) (hl : a.length = b.length) (hm : a.length ≤ 9223372036854775806) : ∀ d k i : Nat, i + d = a.length → d < k →
    slices_Equal_int_int.l0 k a b a.length i = some (decide (a.drop i = b.drop i)) := by
  intro d
  induction d with
  | zero =>
    intro k i hi hk
    obtain ⟨k, rfl⟩ : ∃ m, k = m + 1 := ⟨k - 1, by omega⟩
    simp only [slices_Equal_int_int.l0]
    rw [if_neg (by omega), List.drop_eq_nil_of_le (by omega), List.drop_eq_nil_of_le (by omega)]
    simp
  | succ d ih =>
    intro k i hi hk
    obtain ⟨k, rfl⟩ : ∃ m, k = m + 1 := ⟨k - 1, by omega⟩
    simp only [slices_Equal_int_int.l0]
    rw [if_pos (by omega), if_pos (by omega), if_pos (by omega), if_pos (by omega), rd_nat a i (by omega), rd_nat b i (by omega),
      List.drop_eq_getElem_cons (by omega : i < a.length), List.drop_eq_getElem_cons (by omega : i < b.length)]
    by_cases h : a[i]'(by omega) = b[i]'(by omega)
    · rw [if_pos h, w64 (by omega) (by omega)]
      have := ih k (i + 1) (by omega) (by omega)
      rw [Int.natCast_add] at this
      rw [show ((1 : Nat) : Int) = 1 from rfl] at this
      rw [this]
      congr 1
      rw [decide_eq_decide, List.cons.injEq]
      simp only [h, true_and]
    · rw [if_neg h]
      congr 1
      symm
      rw [decide_eq_false_iff_not, List.cons.injEq]
      exact fun e => h e.1
theorem equal_f_int_int (a b : List Int) (hm : a.length ≤ 9223372036854775806) (k : Nat) (hk : a.length < k) : slices_Equal_int_int.f k a b = some (decide (a = b)) := by
  unfold slices_Equal_int_int.f
  by_cases hl : a.length = b.length
  · rw [if_pos (by omega), show (0 : Int) = ((0 : Nat) : Int) from rfl, eq_loop_int_int a b hl hm a.length k 0 (by omega) hk]
    simp
  · rw [if_neg (by omega)]
    have : a ≠ b := fun e => hl (by rw [e])
    simp [this]
theorem equal_self_int_int (a : List Int) (hm : a.length ≤ 9223372036854775806) (k : Nat) (hk : a.length < k) : slices_Equal_int_int.f k a a = some true := by
  rw [equal_f_int_int a a hm k hk]; simp

theorem rd66_at (pre : List S66) (x : S66) (rest : List S66) : rd_T66 (pre ++ x :: rest) (pre.length : Int) = x := by simp [rd_T66]
/-- The pair with a first one; with a second one. -/
def fnd (l : List S66) (a : Int) : Option S66 := l.find? (fun x => decide (x.f0 = a))
def bck (l : List S66) (a : Int) : Option S66 := l.find? (fun x => decide (x.f1 = a))
def out3 : Option S66 → Int × Int × Bool
  | some x => (x.f0, x.f1, true)
  | none => (0, 0, false)
def Asc (l : List S66) : Prop := l.Pairwise (fun x y => x.f0 < y.f0)
instance (l : List S66) : Decidable (Asc l) := inferInstanceAs (Decidable (l.Pairwise _))
theorem asc_split (a : Int) : ∀ l : List S66, Asc l → ∃ p s, l = p ++ s ∧ (∀ x ∈ p, x.f0 < a) ∧ (∀ x ∈ s, a ≤ x.f0)
  | [], _ => ⟨[], [], rfl, by simp, by simp⟩
  | y :: l, h => by
    have h2 := List.pairwise_cons.1 h
    by_cases hy : y.f0 < a
    · obtain ⟨p, s, e, h3, h4⟩ := asc_split a l h2.2
      refine ⟨y :: p, s, by rw [e]; rfl, fun x hx => ?_, h4⟩
      rcases List.mem_cons.1 hx with rfl | hx
      · exact hy
      · exact h3 x hx
    · refine ⟨[], y :: l, rfl, by simp, fun x hx => ?_⟩
      rcases List.mem_cons.1 hx with rfl | hx
      · omega
      · have := h2.1 x hx; omega
theorem find_f (l : List S66) (a : Int) (k : Nat) (hl : l.length ≤ 1000000) (h : Asc l) : pairs_list_find.f k l a = some (out3 (fnd l a)) := by
  unfold pairs_list_find.f
  rw [if_pos ⟨hl, h.imp (fun h => Int.le_of_lt h)⟩]
  obtain ⟨p, s, e, h1, h2⟩ := asc_split a l h
  have hc : pairs_list_find.cnt l a = p.length := by
    unfold pairs_list_find.cnt
    rw [e, List.countP_append]
    have e1 : p.countP (fun x => decide (x.f0 < a)) = p.length := List.countP_eq_length.2 (fun x hx => decide_eq_true (h1 x hx))
    have e2 : s.countP (fun x => decide (x.f0 < a)) = 0 := List.countP_eq_zero.2 (fun x hx => by have := h2 x hx; simp; omega)
    omega
  have hp : p.find? (fun x => decide (x.f0 = a)) = none := List.find?_eq_none.2 (fun x hx => by have := h1 x hx; simp; omega)
  rw [hc]
  match s, e, h2 with
  | [], e, _ =>
    rw [List.append_nil] at e
    rw [if_pos (by rw [e])]
    unfold fnd
    rw [e, hp]
    rfl
  | y :: s, e, h2 =>
    rw [if_neg (by rw [e]; simp)]
    have hr : rd_T66 l (p.length : Int) = y := by rw [e]; exact rd66_at p y s
    rw [hr]
    unfold fnd
    rw [e, List.find?_append, hp]
    by_cases hy : y.f0 = a
    · rw [if_pos hy]
      simp [hy, out3]
    · rw [if_neg hy]
      have hs : s.find? (fun x => decide (x.f0 = a)) = none := List.find?_eq_none.2 (fun x hx => by
        have h3 : Asc (y :: s) := by rw [e] at h; exact (List.pairwise_append.1 h).2.1
        have h4 := (List.pairwise_cons.1 h3).1 x hx
        have h5 := h2 y (by simp)
        simp; omega)
      simp [hy, hs, out3]
theorem back_loop (l : List S66) (a : Int) (hl : l.length ≤ 1000000) : ∀ (rest pre : List S66) (k : Nat), l = pre ++ rest → (∀ x ∈ pre, ¬ x.f1 = a) → rest.length < k → pairs_list_back.l0 k a l (l.length : Int) (pre.length : Int) = some (out3 (bck l a)) := by
  intro rest
  induction rest with
  | nil =>
    intro pre k e hp hk
    obtain ⟨k, rfl⟩ : ∃ m, k = m + 1 := ⟨k - 1, by omega⟩
    rw [pairs_list_back.l0, if_neg (by rw [e]; simp)]
    rw [List.append_nil] at e
    have : bck l a = none := List.find?_eq_none.2 (fun x hx => by have := hp x (by rw [← e]; exact hx); simpa using this)
    rw [this]; rfl
  | cons x rest ih =>
    intro pre k e hp hk
    obtain ⟨k, rfl⟩ : ∃ m, k = m + 1 := ⟨k - 1, by omega⟩
    rw [List.length_cons] at hk
    have hlen : l.length = pre.length + rest.length + 1 := by rw [e]; simp; omega
    have hr : rd_T66 l (pre.length : Int) = x := by rw [e]; exact rd66_at pre x rest
    rw [pairs_list_back.l0, if_pos (by omega), if_pos (by omega), if_pos (by omega), hr]
    by_cases h : x.f1 = a
    · rw [if_pos h]
      have hpn : pre.find? (fun x => decide (x.f1 = a)) = none := List.find?_eq_none.2 (fun y hy => by have := hp y hy; simpa using this)
      have : bck l a = some x := by unfold bck; rw [e, List.find?_append, hpn]; simp [h]
      rw [this]; rfl
    · rw [if_neg h, w64 (by omega) (by omega)]
      have step := ih (pre ++ [x]) k (by rw [e]; simp) (fun y hy => by
        rcases List.mem_append.1 hy with hy | hy
        · exact hp y hy
        · rw [List.mem_singleton] at hy; rw [hy]; exact h) (by omega)
      simp only [List.length_append, List.length_cons, List.length_nil, Nat.zero_add, Int.natCast_add, Int.natCast_one] at step
      exact step
theorem back_f (l : List S66) (a : Int) (k : Nat) (hl : l.length ≤ 1000000) (hk : l.length < k) : pairs_list_back.f k l a = some (out3 (bck l a)) := by
  unfold pairs_list_back.f
  exact back_loop l a hl l [] k rfl (by simp) hk
theorem fnd_mem {l : List S66} {a : Int} {x : S66} (h : fnd l a = some x) : x ∈ l ∧ x.f0 = a := ⟨List.mem_of_find?_eq_some h, by simpa using List.find?_some h⟩
theorem bck_mem {l : List S66} {a : Int} {x : S66} (h : bck l a = some x) : x ∈ l ∧ x.f1 = a := ⟨List.mem_of_find?_eq_some h, by simpa using List.find?_some h⟩
/-- No second one is a first one. -/
def Apart (l : List S66) : Prop := ∀ x ∈ l, ∀ y ∈ l, ¬ x.f0 = y.f1
instance (l : List S66) : Decidable (Apart l) := inferInstanceAs (Decidable (∀ x ∈ l, ∀ y ∈ l, ¬ x.f0 = y.f1))
def Ms : List S66 := (api_Mirrors.f).getD []
theorem ms : api_Mirrors.f = some Ms := rfl
theorem ms_asc : Asc Ms := by decide +kernel
theorem ms_apart : Apart Ms := by decide +kernel
theorem ms_len : Ms.length = 51 := by decide +kernel
def mir (a : Int) : Int := match fnd Ms a with | some x => x.f1 | none => match bck Ms a with | some y => y.f0 | none => a
theorem mirror_f (a : Int) (k : Nat) (hk : 100 ≤ k) : pairs_Mirror.f k a = some (mir a) := by
  unfold pairs_Mirror.f mir
  rw [ms, Option.bind_some, find_f Ms a k (by rw [ms_len]; omega) ms_asc, Option.bind_some, back_f Ms a k (by rw [ms_len]; omega) (by rw [ms_len]; omega)]
  cases fnd Ms a with
  | some x => simp [out3]
  | none => cases bck Ms a <;> simp [out3]

/-- Codes, each as it is seen. -/
def cod : List Int → List Int → List Int
  | x :: xs, y :: ys => (if y % 2 = 1 then mir x else x) :: cod xs ys
  | _, _ => []
def dif : List Int → List Int → Nat
  | x :: xs, y :: ys => if x = y then dif xs ys else dif xs ys + 1
  | _, _ => 0
theorem one_f (a b : Int) (k : Nat) (hk : 100 ≤ k) : mirror_one.f k a b = some (if b % 2 = 1 then mir a else a) := by
  unfold mirror_one.f
  rw [i64_and1, mirror_f a k hk, Option.bind_some]
  split <;> rfl
theorem cod_length : ∀ l m : List Int, l.length = m.length → (cod l m).length = l.length
  | [], [], _ => rfl
  | x :: xs, y :: ys, h => by
    rw [cod, List.length_cons, List.length_cons, cod_length xs ys (by simpa using h)]
theorem clone_f (l : List Int) (h : l.length < 17592186044416) : slices_Clone_int_int.f l = some l := by
  unfold slices_Clone_int_int.f
  rw [Option.bind_some, if_pos (by simpa using h), List.nil_append]
theorem go_f (k : Nat) (hk : 100 ≤ k) : ∀ l m : List Int, l.length = m.length → mirror_Codes.go k l m = some (cod l m)
  | [], [], _ => rfl
  | x :: xs, y :: ys, h => by
    rw [mirror_Codes.go, one_f x y k hk, Option.bind_some, go_f k hk xs ys (by simpa using h), Option.bind_some, cod]
theorem codes_f (l m : List Int) (k : Nat) (hk : 100 ≤ k) (hl : l.length ≤ 1000) : mirror_Codes.f k l m = some (if l.length = m.length then cod l m else []) := by
  unfold mirror_Codes.f
  by_cases h : l.length = m.length
  · rw [if_pos h, if_pos h, clone_f l (by omega), Option.bind_some, if_pos ⟨rfl, by omega⟩, go_f k hk l m h]
  · rw [if_neg h, if_neg h]
theorem awake_ok : naskhlaw32_awake.f 200 = some true := by decide +kernel
theorem haw (k : Nat) (hk : 200 ≤ k) : naskhlaw32_awake.f k = some true := at_rounds (fun k => naskhlaw32_awake.mono k) hk awake_ok

theorem ms_second : ∀ x ∈ Ms, ∀ y ∈ Ms, x.f1 = y.f1 → x.f0 = y.f0 := by decide +kernel
theorem ms_first : ∀ x ∈ Ms, ∀ y ∈ Ms, x.f0 = y.f0 → x.f1 = y.f1 := by decide +kernel
theorem fnd_none {l : List S66} {a : Int} (h : ∀ y ∈ l, ¬ y.f0 = a) : fnd l a = none := List.find?_eq_none.2 (fun y hy => by have := h y hy; simpa using this)
theorem fnd_some {l : List S66} {x : S66} (h : x ∈ l) : ∃ y, fnd l x.f0 = some y := by
  cases e : fnd l x.f0 with
  | some y => exact ⟨y, rfl⟩
  | none => have := List.find?_eq_none.1 e x h; simp at this
theorem bck_some {l : List S66} {x : S66} (h : x ∈ l) : ∃ y, bck l x.f1 = some y := by
  cases e : bck l x.f1 with
  | some y => exact ⟨y, rfl⟩
  | none => have := List.find?_eq_none.1 e x h; simp at this
theorem mir_mir (a : Int) : mir (mir a) = a := by
  cases h1 : fnd Ms a with
  | some x =>
    obtain ⟨hx, rfl⟩ := fnd_mem h1
    have e : mir x.f0 = x.f1 := by unfold mir; rw [h1]
    rw [e]
    unfold mir
    rw [fnd_none (fun y hy => ms_apart y hy x hx)]
    obtain ⟨y, hy⟩ := bck_some hx
    obtain ⟨h2, h3⟩ := bck_mem hy
    rw [hy]
    exact ms_second y h2 x hx h3
  | none =>
    cases h2 : bck Ms a with
    | some x =>
      obtain ⟨hx, rfl⟩ := bck_mem h2
      have e : mir x.f1 = x.f0 := by unfold mir; rw [h1, h2]
      rw [e]
      unfold mir
      obtain ⟨y, hy⟩ := fnd_some hx
      obtain ⟨h3, h4⟩ := fnd_mem hy
      rw [hy]
      exact ms_first y h3 x hx h4
    | none =>
      have e : mir a = a := by unfold mir; rw [h1, h2]
      rw [e, e]

theorem cod_cod : ∀ l m : List Int, l.length = m.length → cod (cod l m) m = l
  | [], [], _ => rfl
  | x :: xs, y :: ys, h => by
    rw [cod, cod, cod_cod xs ys (by simpa using h)]
    by_cases hy : y % 2 = 1
    · rw [if_pos hy, if_pos hy, mir_mir]
    · rw [if_neg hy, if_neg hy]
theorem MirrorBack_ok : naskhlaw32_MirrorBack.Pure := by
  intro l m h1 h2 h3 h4 h5 h6
  refine ⟨1001, ?_⟩
  unfold naskhlaw32_MirrorBack.f
  by_cases hn : (l.length : Int) > 500
  · rw [if_pos hn, naskhlaw32_MirrorBack.j0, if_pos rfl, haw 1000 (by omega)]; rfl
  · rw [if_neg hn, naskhlaw32_MirrorBack.j0]
    by_cases he : l.length = m.length
    · have e1 : ((l.length : Int) != (m.length : Int)) = false := by rw [he]; simp
      rw [e1, if_neg (by simp), codes_f l m 1000 (by omega) (by omega), if_pos he, Option.bind_some, codes_f _ m 1000 (by omega) (by rw [cod_length l m he]; omega), if_pos (by rw [cod_length l m he]; exact he), Option.bind_some, cod_cod l m he, equal_self_int_int l (by omega) 1000 (by omega), Option.bind_some, if_pos rfl, haw 1000 (by omega)]
      rfl
    · have e1 : ((l.length : Int) != (m.length : Int)) = true := bne_iff_ne.mpr (by omega)
      rw [e1, if_pos rfl, haw 1000 (by omega)]
      rfl
end Go.Proofs.Ytljcohjafcjgdaa.PureMirrorBackAux
namespace Go.Proofs.Ytljcohjafcjgdaa.Pure
open Go.Proofs.Ytljcohjafcjgdaa.PMirrorBack
theorem MirrorBack : naskhlaw32_MirrorBack.Pure := PureMirrorBackAux.MirrorBack_ok
end Go.Proofs.Ytljcohjafcjgdaa.Pure
