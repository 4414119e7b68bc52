/- The trie: awake of its laws. -/
import Derived.Test.YtmkgihmchkphaaaTrP7
namespace Go.Proofs.Ytmkgihmchkphaaa.Stk
open Go.RowKit Go.Proofs.YtmkgihmchkphaaaW.PrintWords Go.Proofs.YtmkgihmchkphaaaW.PrintLast Go.Proofs.YtmkgihmchkphaaaW.PrintMore
attribute [local go_sem] max2_int min2_int max_two min_two max_three min_three max_four min_four   -- for this text's walks alone
set_option linter.unusedVariables false
set_option linter.unusedSimpArgs false
theorem aw_row (w : World) : Kd.C kR (w.alloc (.cells #[.int .i64 5, .int .i64 6, .int .i64 9] 66 (0, 0))) (some ⟨w.heap.size, 0, none⟩) 1 [⟨5, 6, 9⟩] := by
  refine ⟨rfl, by decide, fun _ => ⟨_, rfl, fun j p hp => ?_⟩⟩
  match j, hp with
  | 0, hp =>
    obtain rfl := Option.some.inj hp
    refine ⟨[.int .i64 5, .int .i64 6, .int .i64 9], rfl, kR_mk _ _, fun i u hu => ?_⟩
    rw [Addr.add_mid, Nat.zero_add, blk_cell (blk_new w _)]
    simpa using hu
  | j + 1, hp => simp at hp
theorem C_map {α β : Type} {d : Kd α} {d' : Kd β} (f : α → β) {w : World} {A : Option Addr} {n : Nat} {xs : List α} (hs : d'.sz = d.sz) (hK : ∀ x cs, d.K w x cs → d'.K w (f x) cs) (h : d.C w A n xs) : d'.C w A n (xs.map f) :=
  ⟨by rw [List.length_map]; exact h.1, h.2.1, fun hn => by
    obtain ⟨ad, e, hc⟩ := h.2.2 hn
    refine ⟨ad, e, fun j p hp => ?_⟩
    rw [List.getElem?_map] at hp
    obtain ⟨x, hx, rfl⟩ := Option.map_eq_some_iff.1 hp
    obtain ⟨c, h1, h2, h3⟩ := hc j x hx
    exact ⟨c, h1.trans hs.symm, hK _ _ h2, by rw [hs]; exact h3⟩⟩
/-- How many unlike blocks there are: as many as a list without doubles of parts that stand for all. -/
theorem built_len {l : List Rg} {z : Int} {fs : List Int} {bs : List (List Int)} (h : Built l z fs bs) (qs : List Nat) (hn : (qs.map (blkOf l z)).Nodup) (h1 : ∀ q, q ∈ qs → q < 8704) (h2 : ∀ q, q < 8704 → ∃ p, p ∈ qs ∧ blkOf l z p = blkOf l z q) : bs.length = qs.length := by
  have hp : bs.Perm (qs.map (blkOf l z)) := (List.perm_ext_iff_of_nodup h.2.1 hn).2 fun b => by
    constructor
    · intro hb
      obtain ⟨q, hq, e⟩ := h.2.2.1 b hb
      obtain ⟨p, hp, e2⟩ := h2 q hq
      exact List.mem_map.2 ⟨p, hp, e2.trans e.symm⟩
    · intro hb
      obtain ⟨q, hq, e⟩ := List.mem_map.1 hb
      have h3 := h.2.2.2 q (h1 q hq)
      have h4 := h.1.2 q (h1 q hq)
      rw [← e, ← h3, List.getD, List.getElem?_eq_getElem (by omega)]
      exact List.getElem_mem _
  rw [hp.length_eq, List.length_map]
theorem blk_ne {l : List Rg} {z : Int} {p q k : Nat} (hk : k < 128) (h : valR l z ((128 * p + k : Nat) : Int) ≠ valR l z ((128 * q + k : Nat) : Int)) : blkOf l z p ≠ blkOf l z q := fun e => h (by rw [← blkOf_at l z p k hk, ← blkOf_at l z q k hk, e])
theorem blk_eq {l : List Rg} {z : Int} {p q : Nat} (h : ∀ k, k < 128 → valR l z ((128 * p + k : Nat) : Int) = valR l z ((128 * q + k : Nat) : Int)) : blkOf l z p = blkOf l z q :=
  blk_is (blkOf_len _ _ _) (fun k hk => by rw [blkOf_at _ _ _ _ hk]; exact h k hk)
def aw : List Rg := [⟨5, 6, 9⟩]
theorem aw_at (c : Int) : valR aw 1 c = if 5 ≤ c ∧ c ≤ 6 then 9 else 1 := rfl
theorem aw_chk : chk aw = 0 := by decide
theorem aw_len {fs : List Int} {bs : List (List Int)} (h : Built aw 1 fs bs) : bs.length = 2 := by
  have hne : blkOf aw 1 0 ≠ blkOf aw 1 1 := blk_ne (k := 5) (by decide) (by rw [aw_at, aw_at]; decide)
  refine built_len h [0, 1] ?_ (fun q hq => ?_) (fun q hq => ?_)
  · rw [List.map_cons, List.map_cons, List.map_nil]
    exact List.nodup_cons.2 ⟨by simpa using hne, by simp⟩
  · simp at hq; omega
  · by_cases e : q = 0
    · exact ⟨0, by simp, by rw [e]⟩
    · refine ⟨1, by simp, blk_eq fun k hk => ?_⟩
      rw [aw_at, aw_at, if_neg (by omega), if_neg (by omega)]
theorem aw_has {fs : List Int} {bs : List (List Int)} (h : Built aw 1 fs bs) : (if (0 : Int) ≤ 6 ∧ (6 : Int) ≤ 1114111 then tabv fs bs 6 else 1) = 9 ∧ (if (0 : Int) ≤ 7 ∧ (7 : Int) ≤ 1114111 then tabv fs bs 7 else 1) = 1 := by
  rw [if_pos (by decide), if_pos (by decide), built_at h 6 (by decide) (by decide), built_at h 7 (by decide) (by decide)]
  exact ⟨rfl, rfl⟩
theorem p_build_aw (w : World) : Calls Try.prog 44 #[.slice (some ⟨w.heap.size, 0, none⟩) 1 1, .int .i64 1] (w.alloc (.cells #[.int .i64 5, .int .i64 6, .int .i64 9] 66 (0, 0))) (BuiltR (w.alloc (.cells #[.int .i64 5, .int .i64 6, .int .i64 9] 66 (0, 0))) aw 1) := p_build (l := aw) (aw_row w) aw_chk 1
end Go.Proofs.Ytmkgihmchkphaaa.Stk
