import Derived.Test.YtknghhlielhleaaDoorWMore
import Derived.Laws.CopyOwn
import Derived.Laws.IdiomCopy
namespace Go.Proofs.YtknghhlielhleaaDoorM
open Go.RowKit Go.Proofs.YtknghhlielhleaaDoorW.PrintWords Go.Proofs.YtknghhlielhleaaDoorW.PrintLast
set_option linter.unusedVariables false
section
variable {P : Program} {ops : Array Oper} {o : Oper} {rest : List Oper} {a : Act} {Q : Exit → Act → World → Prop} {W : World} {α : Type} {enc : α → Value} {h1 : ∀ x, (enc x).oneCell' = true} {e base g cap n : Nat} {ok : Nat → Prop} {xs : List α}
open Go.Proofs.YtknghhlielhleaaDoorW.PrintWords.Kd in
theorem R_splice (h : (Kd.scalar enc h1).R e W base ok (.slice (some ⟨g, 0, none⟩) n cap) xs) (off : Nat) (ys : List α) (hf : off + ys.length ≤ n) :
    base ≤ g ∧ ∃ cur : Array Value, W.heap[g]? = some (.cells cur e (0, 0)) ∧ off + ys.length ≤ cur.size ∧
      ∀ W1 : World, W1.heap[g]? = some (.cells (cur.toList.take off ++ (ys.map enc ++ cur.toList.drop (off + (ys.map enc).length))).toArray e (0, 0)) → (Kd.scalar enc h1).R e W1 base ok (.slice (some ⟨g, 0, none⟩) n cap) (xs.take off ++ (ys ++ xs.drop (off + ys.length))) := by
  have hn : n = xs.length := (Kd.R_reads' h).1
  subst hn
  have ho := Kd.own_of_R h
  obtain ⟨hlen, hcase⟩ := ho
  rcases hcase with ⟨hnil, _⟩ | ⟨g', cap', cur, hv, hb, hh, hnc, hcm, hcs, ht⟩
  · cases hnil
  · injection hv with hv1 hv2 hv3
    injection hv1 with hv1
    injection hv1 with hv1 _
    subst hv1; subst hv3
    refine ⟨hb, cur, hh, by omega, fun W1 hW1 => ?_⟩
    have hl : (xs.take off ++ (ys ++ xs.drop (off + ys.length))).length = xs.length := by simp; omega
    have key := R_of_own (α := α) (enc := enc) (h1 := h1) (e := e) (w := W1) (base := base) (ok := ok) (v := .slice (some ⟨g, 0, none⟩) xs.length cap) (xs := xs.take off ++ (ys ++ xs.drop (off + ys.length)))
    refine key ⟨by simp [encs], Or.inr ⟨g, cap, _, by rw [hl], hb, hW1, by rw [hl]; exact hnc, hcm, ?_, ?_⟩⟩ h.1
    · simp; omega
    · rw [hl, Nat.mul_one]
      simp only [Nat.mul_one] at ht
      have hx : encs enc xs = cur.toList.take xs.length := ht.symm
      apply List.ext_getElem?
      intro j
      have hx' : ∀ j, j < xs.length → cur.toList[j]? = (xs.map enc)[j]? := fun j hj => by
        have := congrArg (fun l => l[j]?) hx
        simp only [encs] at this
        rw [this, List.getElem?_take, if_pos hj]
      have hcl : cur.toList.length = cur.size := by simp
      simp only [encs, List.map_append, List.map_take, List.map_drop, List.getElem?_take, List.getElem?_append, List.getElem?_drop, List.length_take, List.length_map, hcl]
      by_cases hj : j < xs.length
      · rw [if_pos hj]
        have e1 : Nat.min off cur.size = off := by have := hf; simp only [Nat.mul_one] at hcs; exact Nat.min_eq_left (by omega)
        have e2 : Nat.min off xs.length = off := Nat.min_eq_left (by omega)
        simp only [show min off cur.size = off from e1, show min off xs.length = off from e2]
        by_cases a1 : j < off
        · simp only [if_pos a1]; exact hx' j hj
        · simp only [if_neg a1]
          by_cases a2 : j - off < ys.length
          · simp only [if_pos a2]
          · simp only [if_neg a2]; exact hx' _ (by omega)
      · rw [if_neg hj]
        have e2 : min off xs.length = off := Nat.min_eq_left (by omega)
        simp only [e2]
        rw [if_neg (by omega), if_neg (by omega)]
        exact (List.getElem?_eq_none (by simp; omega)).symm
theorem Kd.R_cap {d : Kd α} {A : Option Addr} (h : d.R e W base ok (.slice A n cap) xs) : n ≤ cap := by
  obtain ⟨inner, ho⟩ := Kd.R_own h
  rcases ho.2 with ⟨h1, _⟩ | ⟨g, cap', cur, hv, _, _, hnc, _⟩
  · injection h1 with _ h2 h3; omega
  · injection hv with _ h2 h3; omega
theorem cut_own_from (t e : TypeId) (kl : IntKind) (ht : P.underlying t = some (.slice e)) (hsz : (P.info? e).map (·.size) = some 1) (g n c j : Nat) (hj : j < n) (hc : n ≤ c) :
    ∀ W : World, (Instr.slice t (.slice (some ⟨g, 0, none⟩) n c) (some (.int kl (j : Int))) none none).run P W = .ok (.slice (some ⟨g, j, none⟩) (n - j) (c - j)) W := by
  intro W
  obtain ⟨i, hi, hs⟩ := Option.map_eq_some_iff.1 hsz
  have h := cut_from t e kl ht hi 1 hs (some ⟨g, 0, none⟩) n c (j : Int) (by omega) (by omega) W
  simp only [Int.toNat_natCast] at h
  rw [if_neg (by omega)] at h
  rw [h]; simp [Addr.add]; intro h0; exact h0.symm
theorem cut_own_to (t e : TypeId) (kl : IntKind) (ht : P.underlying t = some (.slice e)) (hsz : (P.info? e).map (·.size) = some 1) (A : Option Addr) (n c j : Nat) (hj : j ≤ n) (hc : n ≤ c) :
    ∀ W : World, (Instr.slice t (.slice A n c) none (some (.int kl (j : Int))) none).run P W = .ok (.slice A j c) W := by
  intro W
  obtain ⟨i, hi, hs⟩ := Option.map_eq_some_iff.1 hsz
  have h := cut_to t e kl ht hi A n c (j : Int) (by omega) (by omega) hc W
  rwa [Int.toNat_natCast] at h
theorem Kd.R_copy {w0 : World} (hgd : o.guard = none) (d s : Operand) (dT sT : TypeId)
    (ho : o.op = .call { callee := .builtin .copy, args := #[d, s], argTypes := #[dT, sT] }) (elem : TypeId) (hu : P.underlying dT = some (.slice elem)) (hsz : (P.info? elem).map (·.size) = some 1)
    (off dLen dCap sLen sCap : Nat) (ad : Addr) (hd : a.eval d = .slice (some ⟨g, off, none⟩) dLen dCap) (hs : a.eval s = .slice (some ad) sLen sCap)
    (h : (Kd.scalar enc h1).R e W base ok (.slice (some ⟨g, 0, none⟩) n cap) xs) (ys : List α) (hn : ys.length = Nat.min sLen dLen) (hf : off + ys.length ≤ n) (hsrc : ∀ j x, ys[j]? = some x → W.cell? (ad.add j) = some (enc x)) (HB : Below base w0 W)
    (K : ∀ w1, (Kd.scalar enc h1).R e w1 base ok (.slice (some ⟨g, 0, none⟩) n cap) (xs.take off ++ (ys ++ xs.drop (off + ys.length))) → Below base w0 w1 → wpList P ops Q rest (a.put o.dst (goInt ys.length)) w1) : wpList P ops Q (o :: rest) a W := by
  obtain ⟨hb, cur, hh, hc, hk⟩ := R_splice h off ys hf
  refine wpList_copy_own hgd d s dT sT ho elem hu hsz g off dLen dCap ad sLen sCap hd hs cur e hh (ys.map enc) (by simpa using hn) ?_ (by simpa using hc) (by intro v hv; obtain ⟨x, _, rfl⟩ := List.mem_map.mp hv; exact h1 x) ?_
  · intro j v hv
    rw [List.getElem?_map] at hv
    obtain ⟨x, hx, rfl⟩ := Option.map_eq_some_iff.mp hv
    exact hsrc j x hx
  · have := K (W.setRow g (cur.toList.take off ++ (ys.map enc ++ cur.toList.drop (off + (ys.map enc).length))).toArray) (hk _ (setRow_heap W g _ _ e _ hh)) (below_setRow HB hb _)
    simpa using this
theorem Kd.R_copy_step {w0 : World} {Kc : Act → World → Prop} {E : Prop} {N : Tmp} (hN : o.dst = some N) (hgd : o.guard = none) (d s : Operand) (dT sT : TypeId)
    (ho : o.op = .call { callee := .builtin .copy, args := #[d, s], argTypes := #[dT, sT] }) (elem : TypeId) (hu : P.underlying dT = some (.slice elem)) (hsz : (P.info? elem).map (·.size) = some 1)
    (off dLen dCap sLen sCap : Nat) (ad : Addr) (hd : a.eval d = .slice (some ⟨g, off, none⟩) dLen dCap) (hs : a.eval s = .slice (some ad) sLen sCap)
    (h : (Kd.scalar enc h1).R e W base ok (.slice (some ⟨g, 0, none⟩) n cap) xs) (ys : List α) (hn : ys.length = Nat.min sLen dLen) (hf : off + ys.length ≤ n) (hsrc : ∀ j x, ys[j]? = some x → W.cell? (ad.add j) = some (enc x)) (HB : Below base w0 W)
    (K : ∀ w1, (Kd.scalar enc h1).R e w1 base ok (.slice (some ⟨g, 0, none⟩) n cap) (xs.take off ++ (ys ++ xs.drop (off + ys.length))) → Below base w0 w1 → Kc (a.put (some N) (goInt ys.length)) w1) :
    if Region.wanted o (yielded ops a.tmps) = true then Oper.wp P o a W Kc Q else E := by
  rw [← hN] at K
  have hw : Region.wanted o (yielded ops a.tmps) = true := by simp [Region.wanted, hgd]
  rw [if_pos hw]
  obtain ⟨hb, cur, hh, hc, hk⟩ := R_splice h off ys hf
  have hrun := run_copy_row (P := P) W dT sT o.type elem g off dLen dCap ad sLen sCap cur e (ys.map enc) hu hsz hh (by simpa using hn) (fun j v hv => by
    rw [List.getElem?_map] at hv
    obtain ⟨x, hx, rfl⟩ := Option.map_eq_some_iff.mp hv
    exact hsrc j x hx) (by simpa using hc) (by intro v hv; obtain ⟨x, _, rfl⟩ := List.mem_map.mp hv; exact h1 x)
  unfold Oper.wp
  simp [execOp, ho, resolve, invoke, builtin, hd, hs, hrun, Result.andThen]
  have := K (W.setRow g (cur.toList.take off ++ (ys.map enc ++ cur.toList.drop (off + (ys.map enc).length))).toArray) (hk _ (setRow_heap W g _ _ e _ hh)) (below_setRow HB hb _)
  simp only [List.length_map] at this ⊢
  exact this
end
end Go.Proofs.YtknghhlielhleaaDoorM
