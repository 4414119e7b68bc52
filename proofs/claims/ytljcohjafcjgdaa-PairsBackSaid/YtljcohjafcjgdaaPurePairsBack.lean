/- The mirror of the mirror is the code; a code that goes together with another one opens, and that closes. No condition. -/
import Derived.Test.YtljcohjafcjgdaaPPairsBackx2
namespace Go.Proofs.Ytljcohjafcjgdaa.PurePairsBackAux
open Go.RowKit Go.Proofs.Ytljcohjafcjgdaa.PPairsBack Go.Proofs.YtljcohjafcjgdaaW.PrintWords Go.Proofs.YtljcohjafcjgdaaW.PrintLast

set_option linter.unusedSimpArgs false
set_option linter.unusedVariables false
theorem w64 {x : Int} (h0 : -9223372036854775808 ≤ x) (h1 : x ≤ 9223372036854775807) : wrap64 x = x := by unfold wrap64; omega
theorem rd_at (pre : List Int) (x : Int) (rest : List Int) : rd (pre ++ x :: rest) (pre.length : Int) = x := by simp [rd]
theorem rd_nat (l : List Int) (i : Nat) (h : i < l.length) : rd l (i : Int) = l[i] := by simp [rd, h]
theorem wf64 {x : Int} (h : (Lit.int .i64 x).wf = true) : -9223372036854775808 ≤ x ∧ x ≤ 9223372036854775807 := by
  simpa [Lit.wf, IntKind.min, IntKind.max, IntKind.signed, IntKind.bits] using h
theorem bsome {P : Prop} [Decidable P] {b : Bool} (h : b = true ↔ P) : some b = some (decide P) := by
  congr 1; rw [Bool.eq_iff_iff]; simpa using h
theorem u16w {x : Int} (h0 : 0 ≤ x) (h1 : x ≤ 65535) : IntKind.u16.wrap x = x := by
  simp [IntKind.wrap, IntKind.min, IntKind.max, IntKind.signed, IntKind.bits]; omega

theorem rd66_at (pre : List S66) (x : S66) (rest : List S66) : rd_T66 (pre ++ x :: rest) (pre.length : Int) = x := by simp [rd_T66]
/-- The pair with a first one; with a second one. -/
def fnd (l : List S66) (a : Int) : Option S66 := l.find? (fun x => decide (x.f0 = a))
def bck (l : List S66) (a : Int) : Option S66 := l.find? (fun x => decide (x.f1 = a))
def out3 : Option S66 → Int × Int × Bool
  | some x => (x.f0, x.f1, true)
  | none => (0, 0, false)
def Asc (l : List S66) : Prop := l.Pairwise (fun x y => x.f0 < y.f0)
instance (l : List S66) : Decidable (Asc l) := inferInstanceAs (Decidable (l.Pairwise _))
theorem asc_split (a : Int) : ∀ l : List S66, Asc l → ∃ p s, l = p ++ s ∧ (∀ x ∈ p, x.f0 < a) ∧ (∀ x ∈ s, a ≤ x.f0)
  | [], _ => ⟨[], [], rfl, by simp, by simp⟩
  | y :: l, h => by
    have h2 := List.pairwise_cons.1 h
    by_cases hy : y.f0 < a
    · obtain ⟨p, s, e, h3, h4⟩ := asc_split a l h2.2
      refine ⟨y :: p, s, by rw [e]; rfl, fun x hx => ?_, h4⟩
      rcases List.mem_cons.1 hx with rfl | hx
      · exact hy
      · exact h3 x hx
    · refine ⟨[], y :: l, rfl, by simp, fun x hx => ?_⟩
      rcases List.mem_cons.1 hx with rfl | hx
      · omega
      · have := h2.1 x hx; omega
theorem find_f (l : List S66) (a : Int) (k : Nat) (hl : l.length ≤ 1000000) (h : Asc l) : pairs_list_find.f k l a = some (out3 (fnd l a)) := by
  unfold pairs_list_find.f
  rw [if_pos ⟨hl, h.imp (fun h => Int.le_of_lt h)⟩]
  obtain ⟨p, s, e, h1, h2⟩ := asc_split a l h
  have hc : pairs_list_find.cnt l a = p.length := by
    unfold pairs_list_find.cnt
    rw [e, List.countP_append]
    have e1 : p.countP (fun x => decide (x.f0 < a)) = p.length := List.countP_eq_length.2 (fun x hx => decide_eq_true (h1 x hx))
    have e2 : s.countP (fun x => decide (x.f0 < a)) = 0 := List.countP_eq_zero.2 (fun x hx => by have := h2 x hx; simp; omega)
    omega
  have hp : p.find? (fun x => decide (x.f0 = a)) = none := List.find?_eq_none.2 (fun x hx => by have := h1 x hx; simp; omega)
  rw [hc]
  match s, e, h2 with
  | [], e, _ =>
    rw [List.append_nil] at e
    rw [if_pos (by rw [e])]
    unfold fnd
    rw [e, hp]
    rfl
  | y :: s, e, h2 =>
    rw [if_neg (by rw [e]; simp)]
    have hr : rd_T66 l (p.length : Int) = y := by rw [e]; exact rd66_at p y s
    rw [hr]
    unfold fnd
    rw [e, List.find?_append, hp]
    by_cases hy : y.f0 = a
    · rw [if_pos hy]
      simp [hy, out3]
    · rw [if_neg hy]
      have hs : s.find? (fun x => decide (x.f0 = a)) = none := List.find?_eq_none.2 (fun x hx => by
        have h3 : Asc (y :: s) := by rw [e] at h; exact (List.pairwise_append.1 h).2.1
        have h4 := (List.pairwise_cons.1 h3).1 x hx
        have h5 := h2 y (by simp)
        simp; omega)
      simp [hy, hs, out3]
theorem back_loop (l : List S66) (a : Int) (hl : l.length ≤ 1000000) : ∀ (rest pre : List S66) (k : Nat), l = pre ++ rest → (∀ x ∈ pre, ¬ x.f1 = a) → rest.length < k → pairs_list_back.l0 k a l (l.length : Int) (pre.length : Int) = some (out3 (bck l a)) := by
  intro rest
  induction rest with
  | nil =>
    intro pre k e hp hk
    obtain ⟨k, rfl⟩ : ∃ m, k = m + 1 := ⟨k - 1, by omega⟩
    rw [pairs_list_back.l0, if_neg (by rw [e]; simp)]
    rw [List.append_nil] at e
    have : bck l a = none := List.find?_eq_none.2 (fun x hx => by have := hp x (by rw [← e]; exact hx); simpa using this)
    rw [this]; rfl
  | cons x rest ih =>
    intro pre k e hp hk
    obtain ⟨k, rfl⟩ : ∃ m, k = m + 1 := ⟨k - 1, by omega⟩
    rw [List.length_cons] at hk
    have hlen : l.length = pre.length + rest.length + 1 := by rw [e]; simp; omega
    have hr : rd_T66 l (pre.length : Int) = x := by rw [e]; exact rd66_at pre x rest
    rw [pairs_list_back.l0, if_pos (by omega), if_pos (by omega), if_pos (by omega), hr]
    by_cases h : x.f1 = a
    · rw [if_pos h]
      have hpn : pre.find? (fun x => decide (x.f1 = a)) = none := List.find?_eq_none.2 (fun y hy => by have := hp y hy; simpa using this)
      have : bck l a = some x := by unfold bck; rw [e, List.find?_append, hpn]; simp [h]
      rw [this]; rfl
    · rw [if_neg h, w64 (by omega) (by omega)]
      have step := ih (pre ++ [x]) k (by rw [e]; simp) (fun y hy => by
        rcases List.mem_append.1 hy with hy | hy
        · exact hp y hy
        · rw [List.mem_singleton] at hy; rw [hy]; exact h) (by omega)
      simp only [List.length_append, List.length_cons, List.length_nil, Nat.zero_add, Int.natCast_add, Int.natCast_one] at step
      exact step
theorem back_f (l : List S66) (a : Int) (k : Nat) (hl : l.length ≤ 1000000) (hk : l.length < k) : pairs_list_back.f k l a = some (out3 (bck l a)) := by
  unfold pairs_list_back.f
  exact back_loop l a hl l [] k rfl (by simp) hk
theorem fnd_mem {l : List S66} {a : Int} {x : S66} (h : fnd l a = some x) : x ∈ l ∧ x.f0 = a := ⟨List.mem_of_find?_eq_some h, by simpa using List.find?_some h⟩
theorem bck_mem {l : List S66} {a : Int} {x : S66} (h : bck l a = some x) : x ∈ l ∧ x.f1 = a := ⟨List.mem_of_find?_eq_some h, by simpa using List.find?_some h⟩
/-- No second one is a first one. -/
def Apart (l : List S66) : Prop := ∀ x ∈ l, ∀ y ∈ l, ¬ x.f0 = y.f1
instance (l : List S66) : Decidable (Apart l) := inferInstanceAs (Decidable (∀ x ∈ l, ∀ y ∈ l, ¬ x.f0 = y.f1))
def Ms : List S66 := (api_Mirrors.f).getD []
def Bs : List S66 := (api_Brackets.f).getD []
def As : List S66 := (api_Alike.f).getD []
theorem ms : api_Mirrors.f = some Ms := rfl
theorem bs : api_Brackets.f = some Bs := rfl
theorem als : api_Alike.f = some As := rfl
theorem ms_asc : Asc Ms := by decide +kernel
theorem bs_asc : Asc Bs := by decide +kernel
theorem as_asc : Asc As := by decide +kernel
theorem ms_apart : Apart Ms := by decide +kernel
theorem bs_apart : Apart Bs := by decide +kernel
theorem ms_len : Ms.length = 51 := by decide +kernel
theorem bs_len : Bs.length ≤ 51 := by decide +kernel
theorem as_len : As.length = 2 := by decide +kernel
def canon (a : Int) : Int := match fnd As a with | some x => x.f1 | none => a
def mir (a : Int) : Int := match fnd Ms a with | some x => x.f1 | none => match bck Ms a with | some y => y.f0 | none => a
def brk (a : Int) : Int × Int := match fnd Bs a with | some x => (1, canon x.f1) | none => match bck Bs a with | some y => (2, canon y.f1) | none => (0, 0)
theorem canon_f (a : Int) (k : Nat) : pairs_Canon.f k a = some (canon a) := by
  unfold pairs_Canon.f canon
  rw [als, Option.bind_some, find_f As a k (by rw [as_len]; omega) as_asc, Option.bind_some]
  cases fnd As a <;> simp [out3]
theorem mirror_f (a : Int) (k : Nat) (hk : 100 ≤ k) : pairs_Mirror.f k a = some (mir a) := by
  unfold pairs_Mirror.f mir
  rw [ms, Option.bind_some, find_f Ms a k (by rw [ms_len]; omega) ms_asc, Option.bind_some, back_f Ms a k (by rw [ms_len]; omega) (by rw [ms_len]; omega)]
  cases fnd Ms a with
  | some x => simp [out3]
  | none => cases bck Ms a <;> simp [out3]

theorem bracket_f (a : Int) (k : Nat) (hk : 100 ≤ k) : pairs_Bracket.f k a = some (brk a) := by
  have := bs_len
  unfold pairs_Bracket.f brk
  rw [bs, Option.bind_some, find_f Bs a k (by omega) bs_asc, Option.bind_some, back_f Bs a k (by omega) (by omega)]
  cases fnd Bs a with
  | some x => simp [out3, canon_f]
  | none => cases bck Bs a <;> simp [out3, canon_f]
theorem match_f (a b : Int) (k : Nat) (hk : 100 ≤ k) : pairs_Match.f k a b = some (decide ((brk a).1 = 1 ∧ (brk b).1 = 2 ∧ (brk a).2 = (brk b).2)) := by
  unfold pairs_Match.f
  rw [bracket_f a k hk, Option.bind_some, bracket_f b k hk, Option.bind_some]
  by_cases h1 : (brk a).1 = 1
  · rw [if_pos h1]
    by_cases h2 : (brk b).1 = 2
    · rw [if_pos h2]
      congr 1
      rw [Bool.eq_iff_iff]
      simp [h1, h2]
    · rw [if_neg h2]; simp [h2]
  · rw [if_neg h1]; simp [h1]
theorem haw (k : Nat) (hk : 100 ≤ k) : naskhlaw08_awake.f k = some true := at_rounds (fun k => naskhlaw08_awake.mono k) hk (show naskhlaw08_awake.f 100 = some true by decide +kernel)

theorem ms_second : ∀ x ∈ Ms, ∀ y ∈ Ms, x.f1 = y.f1 → x.f0 = y.f0 := by decide +kernel
theorem ms_first : ∀ x ∈ Ms, ∀ y ∈ Ms, x.f0 = y.f0 → x.f1 = y.f1 := by decide +kernel
theorem as_apart : Apart As := by decide +kernel
theorem fnd_none {l : List S66} {a : Int} (h : ∀ y ∈ l, ¬ y.f0 = a) : fnd l a = none := List.find?_eq_none.2 (fun y hy => by have := h y hy; simpa using this)
theorem fnd_some {l : List S66} {x : S66} (h : x ∈ l) : ∃ y, fnd l x.f0 = some y := by
  cases e : fnd l x.f0 with
  | some y => exact ⟨y, rfl⟩
  | none => have := List.find?_eq_none.1 e x h; simp at this
theorem bck_some {l : List S66} {x : S66} (h : x ∈ l) : ∃ y, bck l x.f1 = some y := by
  cases e : bck l x.f1 with
  | some y => exact ⟨y, rfl⟩
  | none => have := List.find?_eq_none.1 e x h; simp at this
theorem mir_mir (a : Int) : mir (mir a) = a := by
  cases h1 : fnd Ms a with
  | some x =>
    obtain ⟨hx, rfl⟩ := fnd_mem h1
    have e : mir x.f0 = x.f1 := by unfold mir; rw [h1]
    rw [e]
    unfold mir
    rw [fnd_none (fun y hy => ms_apart y hy x hx)]
    obtain ⟨y, hy⟩ := bck_some hx
    obtain ⟨h2, h3⟩ := bck_mem hy
    rw [hy]
    exact ms_second y h2 x hx h3
  | none =>
    cases h2 : bck Ms a with
    | some x =>
      obtain ⟨hx, rfl⟩ := bck_mem h2
      have e : mir x.f1 = x.f0 := by unfold mir; rw [h1, h2]
      rw [e]
      unfold mir
      obtain ⟨y, hy⟩ := fnd_some hx
      obtain ⟨h3, h4⟩ := fnd_mem hy
      rw [hy]
      exact ms_first y h3 x hx h4
    | none =>
      have e : mir a = a := by unfold mir; rw [h1, h2]
      rw [e, e]
theorem canon_canon (a : Int) : canon (canon a) = canon a := by
  cases h1 : fnd As a with
  | some x =>
    obtain ⟨hx, rfl⟩ := fnd_mem h1
    have e : canon x.f0 = x.f1 := by unfold canon; rw [h1]
    rw [e]
    unfold canon
    rw [fnd_none (fun y hy => as_apart y hy x hx)]
  | none =>
    have e : canon a = a := by unfold canon; rw [h1]
    rw [e, e]
theorem PairsBack_ok : naskhlaw08_PairsBack.Pure := by
  intro a b _ _
  refine ⟨301, ?_⟩
  unfold naskhlaw08_PairsBack.f
  rw [mirror_f a 301 (by omega), Option.bind_some, mirror_f _ 301 (by omega), Option.bind_some, if_pos (mir_mir a), canon_f, Option.bind_some, canon_f, Option.bind_some, Option.bind_some, canon_canon, naskhlaw08_PairsBack.j0, if_neg (by simp),
    bracket_f a 300 (by omega), Option.bind_some, bracket_f b 300 (by omega), Option.bind_some, match_f a b 300 (by omega), Option.bind_some]
  by_cases h : (brk a).1 = 1 ∧ (brk b).1 = 2 ∧ (brk a).2 = (brk b).2
  · rw [if_pos (decide_eq_true h), if_pos h.1, if_pos h.2.1, match_f b a 300 (by omega), Option.bind_some, if_neg (by rw [h.2.1]; simp), haw 300 (by omega)]
    rfl
  · rw [if_neg (by simpa using h), haw 300 (by omega)]
    rfl
end Go.Proofs.Ytljcohjafcjgdaa.PurePairsBackAux
namespace Go.Proofs.Ytljcohjafcjgdaa.Pure
open Go.Proofs.Ytljcohjafcjgdaa.PPairsBack
theorem PairsBack : naskhlaw08_PairsBack.Pure := PurePairsBackAux.PairsBack_ok
end Go.Proofs.Ytljcohjafcjgdaa.Pure
