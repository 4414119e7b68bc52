import Derived.Test.YtbkdaafphcfpdaaSqP2
namespace Go.Proofs.Ytbkdaafphcfpdaa.Stk
open Go.RowKit Go.Proofs.YtbkdaafphcfpdaaW.PrintWords Go.Proofs.YtbkdaafphcfpdaaW.PrintLast Go.Proofs.YtbkdaafphcfpdaaW.PrintMore
attribute [local go_sem] max2_int min2_int max_two min_two max_three min_three max_four min_four   -- for this text's walks alone
set_option linter.unusedVariables false
set_option linter.unusedSimpArgs false
def okI (a : Int) : Bool := (Lit.int .i64 a).wf
def gput (g : Int → Option (List Int)) (a : Int) (l : List Int) : Int → Option (List Int) := fun x => if x = a then some l else g x
def gdel (g : Int → Option (List Int)) (a : Int) : Int → Option (List Int) := fun x => if x = a then none else g x
def begF (R : List (List Int)) : Nat → Int → Option (List Int)
  | 0 => fun _ => none
  | m + 1 => gput (begF R m) (rd (R.getD m []) 0) (R.getD m [])
def rkI (K : List Int) : Nat → Int → Int
  | 0, _ => 0
  | m + 1, x => if x = K.getD m 0 then (m : Int) else rkI K m x
def rkF (K : List Int) : Nat → Int → Option Value
  | 0 => fun _ => none
  | m + 1 => mput (rkF K m) (K.getD m 0) (.int .i64 (m : Int))
theorem rk_is (K : List Int) (x : Int) : ∀ m, (rkF K m x).getD (.int .i64 0) = .int .i64 (rkI K m x)
  | 0 => rfl
  | m + 1 => by
    unfold rkF rkI mput
    by_cases h : x = K.getD m 0
    · rw [if_pos h, if_pos h]; rfl
    · rw [if_neg h, if_neg h]; exact rk_is K x m
def lastL (l : List Int) : Int := rd l ((l.length : Int) - 1)
def nxtF (B M : List Int) (y : Int) : Int := if isoB (rd B y) = true then rd M y else 0
def chainF (B M : List Int) : Nat → (Int → Option (List Int)) → List Int → List Int → Option ((Int → Option (List Int)) × List Int)
  | 0, _, _, _ => none
  | n + 1, g, run, at_ =>
    if 0 < run.length then
      if okI (rd run 0) = true then
        if at_.length + run.length ≤ 17592186043000 then
          if 0 ≤ lastL (at_ ++ run) then
            if lastL (at_ ++ run) < (B.length : Int) then
              if lastL (at_ ++ run) < (M.length : Int) then
                if okI (nxtF B M (lastL (at_ ++ run))) = true then
                  match gdel g (rd run 0) (nxtF B M (lastL (at_ ++ run))) with
                  | none => some (gdel g (rd run 0), at_ ++ run)
                  | some l => chainF B M n (gdel g (rd run 0)) l (at_ ++ run)
                else none
              else none
            else none
          else none
        else none
      else none
    else none
def BegIs (w3 w : World) (b n : Nat) (g : Int → Option (List Int)) : Prop :=
  ∃ f, MapIs Try.prog 3 w b n f ∧ ∀ a, (g a = none ∧ f a = none) ∨ ∃ l A c, g a = some l ∧ f a = some (.slice A l.length c) ∧ l.length ≤ c ∧ Kd.C (Kd.int .i64) w3 A l.length l
section
variable {w3 w w1 w2 : World} {b n g0 : Nat} {g : Int → Option (List Int)} {f : Int → Option Value}
theorem beg_none (h : MapIs Try.prog 3 w b n (fun _ => none)) : BegIs w3 w b n (fun _ => none) := ⟨_, h, fun _ => .inl ⟨rfl, rfl⟩⟩
theorem beg_put {A : Option Addr} {l : List Int} {c : Nat} {a : Int} (hf : ∀ a, (g a = none ∧ f a = none) ∨ ∃ l A c, g a = some l ∧ f a = some (.slice A l.length c) ∧ l.length ≤ c ∧ Kd.C (Kd.int .i64) w3 A l.length l) (h : MapIs Try.prog 3 w1 b n (mput f a (.slice A l.length c))) (hl : l.length ≤ c) (hc : Kd.C (Kd.int .i64) w3 A l.length l) : BegIs w3 w1 b n (gput g a l) := by
  refine ⟨_, h, fun x => ?_⟩
  unfold gput mput
  by_cases e : x = a
  · rw [if_pos e, if_pos e]; exact .inr ⟨l, A, c, rfl, rfl, hl, hc⟩
  · rw [if_neg e, if_neg e]; exact hf x
theorem beg_del {a : Int} (hf : ∀ a, (g a = none ∧ f a = none) ∨ ∃ l A c, g a = some l ∧ f a = some (.slice A l.length c) ∧ l.length ≤ c ∧ Kd.C (Kd.int .i64) w3 A l.length l) (h : MapIs Try.prog 3 w1 b n (mdel f a)) : BegIs w3 w1 b n (gdel g a) := by
  refine ⟨_, h, fun x => ?_⟩
  unfold gdel mdel
  by_cases e : x = a
  · rw [if_pos e, if_pos e]; exact .inl ⟨rfl, rfl⟩
  · rw [if_neg e, if_neg e]; exact hf x
theorem beg_same (h : BegIs w3 w b n g) (he : w1.heap[b]? = w.heap[b]?) : BegIs w3 w1 b n g := by
  obtain ⟨f, hM, hf⟩ := h
  exact ⟨f, map_same hM he, hf⟩
theorem beg_lt (h : BegIs w3 w b n g) : b < w.heap.size := by
  obtain ⟨f, hM, hf⟩ := h
  exact map_lt hM
theorem beg_below (h : BegIs w3 w b n g) (hb : Below w.heap.size w w1) : BegIs w3 w1 b n g := beg_same h (hb.block b (beg_lt h))
theorem beg_grown (h : BegIs w3 w b n g) {v : Value} (hg : w.grownBy w1 v.ownBlock) (hne : ∀ k, v.ownBlock = some k → b < k) : BegIs w3 w1 b n g :=
  beg_same h (hg.block b (beg_lt h) (fun e => by have := hne b e.symm; omega))
theorem kb_below (h : KeepBut w3 w b none) (hb : Below w.heap.size w w1) : KeepBut w3 w1 b none :=
  ⟨Nat.le_trans h.1 hb.size, fun i hi hg hn => (hb.block i (Nat.lt_of_lt_of_le hi h.1)).trans (h.2 i hi hg hn)⟩
theorem kb_map (h : KeepBut w3 w b none) (hg : w.grownBy w1 (some b)) : KeepBut w3 w1 b none :=
  ⟨Nat.le_trans h.1 hg.size, fun i hi hne hn => (hg.block i (Nat.lt_of_lt_of_le hi h.1) (fun e => hne (by injection e))).trans (h.2 i hi hne hn)⟩
theorem kb_grown (h : KeepBut w3 w b none) {v : Value} (hg : w.grownBy w1 v.ownBlock) (hN : ∀ k, v.ownBlock = some k → w3.heap.size ≤ k) : KeepBut w3 w1 b none :=
  ⟨Nat.le_trans h.1 hg.size, fun i hi hne hn => (hg.block i (Nat.lt_of_lt_of_le hi h.1) (fun e => by have := hN i e.symm; omega)).trans (h.2 i hi hne hn)⟩
theorem kb_cell (h : KeepBut w3 w b none) (hM : MapIs Try.prog 3 w3 b n f) {a : Addr} {v : Value} (hc : w3.cell? a = some v) : w.cell? a = some v := keep_cell h hc (map_cell hM hc)
theorem kb_C (h : KeepBut w3 w b none) (hM : MapIs Try.prog 3 w3 b n f) {A : Option Addr} {m : Nat} {xs : List Int} (hc : Kd.C (Kd.int .i64) w3 A m xs) : Kd.C (Kd.int .i64) w A m xs := by
  obtain ⟨es, c, hb⟩ := map_block hM
  exact c_but hc h hb
theorem kb_tx {rb : Nat} {L B M K : List Int} {bs : Int} {f1 : Int → Option Value} (h : KeepBut w3 w b none) (hM : MapIs Try.prog 3 w3 b n f) (ht : Tx w3 g0 rb L B M K bs f1) (hr : rb ≠ b) : Tx w g0 rb L B M K bs f1 := by
  obtain ⟨es, c, hb⟩ := map_block hM
  exact tx_but ht h hb hr
theorem map_belowB {B : Nat} (h : Below B w w1) (hg : w1.grownBy w2 (some b)) (hB : B ≤ w1.heap.size) (hb : B ≤ b) : Below B w w2 := h.grown hg hB (fun j hj => by cases hj; exact hb)
theorem at_row {A : Option Addr} {m : Nat} {xs : List (List Int)} (h : Kd.C (Kd.slice 3 (Kd.int .i64)) w A m xs) (i : Nat) (h1 : i < m) : ∃ ad A0 c0, A = some ad ∧ w.cell? (ad.add i) = some (.slice A0 (xs.getD i []).length c0) ∧ (xs.getD i []).length ≤ c0 ∧ (Kd.int .i64).C w A0 (xs.getD i []).length (xs.getD i []) := by
  obtain ⟨ad, c, e, _, hK, hc0⟩ := Kd.C_get h ([] : List Int) (i : Int) (by omega) (by omega)
  rw [Int.toNat_natCast] at hK hc0
  have hc : ∀ j u, c[j]? = some u → w.cell? (ad.add (i * 1 + j)) = some u := hc0
  obtain ⟨A0, c0, rfl, l0, g0⟩ := hK
  exact ⟨ad, A0, c0, e, by have hq := hc 0 _ rfl; rwa [Nat.mul_one, Nat.add_zero] at hq, l0, g0⟩
theorem at_head {A : Option Addr} {m : Nat} {xs : List Int} (h : Kd.C (Kd.int .i64) w A m xs) (h1 : 0 < m) : ∃ ad, A = some ad ∧ w.cell? ad = some (.int .i64 (rd xs 0)) := by
  obtain ⟨ad, e, hc⟩ := Kd.at_int h 0 (by omega) (by omega)
  exact ⟨ad, e, (congrArg w.cell? (add0 ad)).symm.trans hc⟩
end
theorem c_far {w : World} {A : Option Addr} {n g : Nat} {xs : List Int} {cs : Array Value} (h : Kd.C (Kd.int .i64) w A n xs) (t : Nat) (hG : w.heap[g]? = some (.cells cs t (0, 0))) (j : Nat) (u : Value) (hne : ∀ ad, A = some ad → 0 < n → ad.block ≠ g) : Kd.C (Kd.int .i64) (w.setCell ⟨g, j, none⟩ u) A n xs :=
  Kd.C_keep (d := (0 : Int)) h ((KeepBut.refl w g none).set_ j u) hne
theorem run_makeMap_hint {P : Program} {t k e : TypeId} (ht : P.underlying t = some (.map k e)) (n : Int) (w : World) : (Instr.makeMap t (some (.int .i64 n))).run P w = .ok (.map (some w.heap.size)) (w.alloc (.map #[] 0)) := by
  simp [Instr.makeMap, run_underlying ht, asInt, Result.andThen]
  rfl
def BegRel (w3 : World) (g : Int → Option (List Int)) (f : Int → Option Value) : Prop := ∀ a, (g a = none ∧ f a = none) ∨ ∃ l A c, g a = some l ∧ f a = some (.slice A l.length c) ∧ l.length ≤ c ∧ Kd.C (Kd.int .i64) w3 A l.length l
theorem rel_del {w3 : World} {g : Int → Option (List Int)} {f : Int → Option Value} (hf : BegRel w3 g f) (a : Int) : BegRel w3 (gdel g a) (mdel f a) := by
  intro x
  unfold gdel mdel
  by_cases e : x = a
  · rw [if_pos e, if_pos e]; exact .inl ⟨rfl, rfl⟩
  · rw [if_neg e, if_neg e]; exact hf x
theorem rel_put {w3 : World} {g : Int → Option (List Int)} {f : Int → Option Value} (hf : BegRel w3 g f) (a : Int) {l : List Int} {A : Option Addr} {c : Nat} (hl : l.length ≤ c) (hc : Kd.C (Kd.int .i64) w3 A l.length l) : BegRel w3 (gput g a l) (mput f a (.slice A l.length c)) := by
  intro x
  unfold gput mput
  by_cases e : x = a
  · rw [if_pos e, if_pos e]; exact .inr ⟨l, A, c, rfl, rfl, hl, hc⟩
  · rw [if_neg e, if_neg e]; exact hf x
theorem tx_map {w : World} {g rb : Nat} {L B M K : List Int} {bs : Int} {f : Int → Option Value} (h : Tx w g rb L B M K bs f) : rb < w.heap.size := by
  obtain ⟨Al, cl, Ab, cb, Am, cm, Ak, ck, n, hG, hl, hb, hm, hk, hM⟩ := h
  exact map_lt hM
theorem chain_next {B M : List Int} {n : Nat} {g : Int → Option (List Int)} {run at_ : List Int} {p : (Int → Option (List Int)) × List Int} (h : chainF B M (n + 1) g run at_ = some p) :
    0 < run.length ∧ okI (rd run 0) = true ∧ at_.length + run.length ≤ 17592186043000 ∧ 0 ≤ lastL (at_ ++ run) ∧ lastL (at_ ++ run) < (B.length : Int) ∧ lastL (at_ ++ run) < (M.length : Int) ∧ okI (nxtF B M (lastL (at_ ++ run))) = true ∧
    ((gdel g (rd run 0) (nxtF B M (lastL (at_ ++ run))) = none ∧ p = (gdel g (rd run 0), at_ ++ run)) ∨ ∃ l, gdel g (rd run 0) (nxtF B M (lastL (at_ ++ run))) = some l ∧ chainF B M n (gdel g (rd run 0)) l (at_ ++ run) = some p) := by
  unfold chainF at h
  by_cases h1 : 0 < run.length
  · rw [if_pos h1] at h
    by_cases h2 : okI (rd run 0) = true
    · rw [if_pos h2] at h
      by_cases h3 : at_.length + run.length ≤ 17592186043000
      · rw [if_pos h3] at h
        by_cases h4 : 0 ≤ lastL (at_ ++ run)
        · rw [if_pos h4] at h
          by_cases h5 : lastL (at_ ++ run) < (B.length : Int)
          · rw [if_pos h5] at h
            by_cases h6 : lastL (at_ ++ run) < (M.length : Int)
            · rw [if_pos h6] at h
              by_cases h7 : okI (nxtF B M (lastL (at_ ++ run))) = true
              · rw [if_pos h7] at h
                refine ⟨h1, h2, h3, h4, h5, h6, h7, ?_⟩
                cases hg : gdel g (rd run 0) (nxtF B M (lastL (at_ ++ run))) with
                | none => rw [hg] at h; exact .inl ⟨rfl, (Option.some.inj h).symm⟩
                | some l => rw [hg] at h; exact .inr ⟨l, rfl, h⟩
              · rw [if_neg h7] at h; cases h
            · rw [if_neg h6] at h; cases h
          · rw [if_neg h5] at h; cases h
        · rw [if_neg h4] at h; cases h
      · rw [if_neg h3] at h; cases h
    · rw [if_neg h2] at h; cases h
  · rw [if_neg h1] at h; cases h
end Go.Proofs.Ytbkdaafphcfpdaa.Stk
