import Derived.Test.YtknghhlielhleaaDoorSpR3
import Derived.Test.YtknghhlielhleaaDoorSpQ
namespace Go.Proofs.YtknghhlielhleaaDoor.Stk
open Go.RowKit Go.Proofs.YtknghhlielhleaaDoorW.PrintWords Go.Proofs.YtknghhlielhleaaDoorW.PrintLast Go.Proofs.YtknghhlielhleaaDoorW.PrintMore
attribute [local go_sem] max2_int min2_int max_two min_two max_three min_three max_four min_four   -- for this text's walks alone
set_option linter.unusedVariables false
set_option linter.unusedSimpArgs false
theorem spW_app : ∀ (x : List UInt8), (32 : UInt8) ∉ x → ∀ r w : List UInt8, spW (x ++ r) w = spW r (w ++ x)
  | [], _, r, w => by simp
  | c :: cs, h, r, w => by
    have hc : ¬ c = 32 := fun e => h (by rw [e]; exact List.mem_cons_self)
    rw [List.cons_append, spW, if_neg hc, spW_app cs (fun m => h (List.mem_cons_of_mem _ m)), List.append_assoc]
    rfl
theorem ba_eta (y : ByteArray) : (⟨y.data.toList.toArray⟩ : ByteArray) = y := by cases y; simp
theorem spW_tail : ∀ (r : List ByteArray), (∀ x ∈ r, x.data.toList ≠ [] ∧ (32 : UInt8) ∉ x.data.toList) → ∀ w : List UInt8, w ≠ [] → spW (Lib.joinTail [32] (r.map (·.data.toList))) w = ⟨w.toArray⟩ :: r
  | [], _, w, hw => by
    show spW [] w = _
    rw [spW, if_neg hw]
  | y :: r, h, w, hw => by
    have h1 := h y List.mem_cons_self
    have e : Lib.joinTail [32] ((y :: r).map (·.data.toList)) = 32 :: (y.data.toList ++ Lib.joinTail [32] (r.map (·.data.toList))) := by simp [Lib.joinTail]
    rw [e, spW, if_pos rfl, if_neg hw, spW_app _ h1.2, List.nil_append, spW_tail r (fun x hx => h x (List.mem_cons_of_mem _ hx)) _ h1.1, ba_eta]
theorem spW_join (xs : List ByteArray) (h : ∀ x ∈ xs, x.data.toList ≠ [] ∧ (32 : UInt8) ∉ x.data.toList) : spW (Lib.join (xs.map (·.data.toList)) [32]) [] = xs := by
  cases xs with
  | nil => rfl
  | cons x r =>
    have h1 := h x List.mem_cons_self
    rw [List.map_cons, Lib.join_cons, spW_app _ h1.2, List.nil_append, spW_tail r (fun y hy => h y (List.mem_cons_of_mem _ hy)) _ h1.1, ba_eta]
theorem W_free (i : Nat) (hi : i < 14) : ∀ x ∈ W i, (32 : UInt8) ∉ x.data.toList := by
  obtain rfl | rfl | rfl | rfl | rfl | rfl | rfl | rfl | rfl | rfl | rfl | rfl | rfl | rfl : i = 0 ∨ i = 1 ∨ i = 2 ∨ i = 3 ∨ i = 4 ∨ i = 5 ∨ i = 6 ∨ i = 7 ∨ i = 8 ∨ i = 9 ∨ i = 10 ∨ i = 11 ∨ i = 12 ∨ i = 13 := by omega
  all_goals decide
theorem fnd : ∀ i, i < 14 → ∀ k, k < (W i).length → fF ((W i).getD k ⟨#[]⟩) = i ∧ ixW (W i) ((W i).getD k ⟨#[]⟩) = k := by decide +kernel
theorem sayL_free {v : Nat → Int} (hn : okN v) (j : Nat) (hj : j ≤ 14) : ∀ x ∈ sayL v j, x.data.toList ≠ [] ∧ (32 : UInt8) ∉ x.data.toList := by
  intro x hx
  refine ⟨sayL_ne hn j hj x hx, ?_⟩
  unfold sayL at hx
  obtain ⟨i, hi, rfl⟩ := List.mem_map.1 hx
  have h1 := List.mem_range.1 (List.mem_filter.1 hi).1
  obtain ⟨k, _, hk, e⟩ := getN_yes (by omega) hn (List.mem_filter.1 hi).2
  rw [e, List.getD_eq_getElem?_getD, List.getElem?_eq_getElem hk, Option.getD_some]
  exact W_free i (by omega) _ (List.getElem_mem hk)
theorem wsL_prS {v : Nat → Int} (h : chkF v = 0) : wsL (prS v) = sayL v 14 := by
  unfold prS
  rw [if_pos h, wsL_spW]
  exact spW_join _ (sayL_free (okN_chk h) 14 (Nat.le_refl _))
def sayF (v : Nat → Int) (j m : Nat) : List ByteArray := ((List.range' j m).filter (sayB v)).map (sayS v)
theorem sayF_all (v : Nat → Int) : sayL v 14 = sayF v 0 14 := by
  unfold sayL sayF
  rw [List.range_eq_range']
def finV (v u : Nat → Int) (j : Nat) : Nat → Int := fun i => if j ≤ i ∧ i < 14 ∧ sayB v i = true then (if i < 4 then v i else 1) else u i
theorem run_fin {v : Nat → Int} (hn : okN v) : ∀ (m j : Nat), j + m = 14 → ∀ (u : Nat → Int) (sn : Nat → Bool), (∀ i, j ≤ i → sn i = false) →
    run chkF (sayF v j m) u sn = if chkF (finV v u j) = 0 then (0, finV v u j) else (chkF (finV v u j), fun _ => 0)
  | 0, j, hj, u, sn, hs => by
    have e : finV v u j = u := by funext i; unfold finV; rw [if_neg (by omega)]
    rw [e]
    exact run_nil u sn
  | m + 1, j, hj, u, sn, hs => by
    have e0 : sayF v j (m + 1) = if sayB v j = true then sayS v j :: sayF v (j + 1) m else sayF v (j + 1) m := by
      unfold sayF
      rw [List.range'_succ, List.filter_cons]
      split <;> rfl
    rw [e0]
    by_cases hb : sayB v j = true
    · obtain ⟨k, hg, hk, ex⟩ := getN_yes (by omega) hn hb
      obtain ⟨hf, hi⟩ := fnd j (by omega) k hk
      rw [if_pos hb, ex, run_cons, hf, if_pos (by omega), if_neg (by rw [hs j (Nat.le_refl _)]; decide), hi,
        run_fin hn m (j + 1) (by omega) _ _ (fun i h => by unfold upd; rw [if_neg (by omega)]; exact hs i (by omega))]
      have e1 : finV v (upd u j (nvF j k)) (j + 1) = finV v u j := by
        funext i
        unfold finV upd
        by_cases hij : i = j
        · subst hij
          rw [if_neg (by omega), if_pos rfl, if_pos ⟨Nat.le_refl _, by omega, hb⟩]
          unfold nvF
          by_cases h4 : i < 4
          · rw [if_pos h4, if_pos h4]
            have : sayS v i = (W i).getD (v i - cFr i).toNat ⟨#[]⟩ := by
              unfold sayS
              unfold sayB at hb
              rw [if_pos h4] at hb
              rw [if_pos h4, if_pos (of_decide_eq_true hb)]
            have h0 : 0 ≤ v i - cFr i := by unfold sayB at hb; rw [if_pos h4] at hb; exact of_decide_eq_true hb
            have h2 := okN_at hn i h4
            have h3 := (fnd i (by omega) (v i - cFr i).toNat (by omega)).2
            rw [← this, ex, hi] at h3
            omega
          · rw [if_neg h4, if_neg h4]
        · by_cases hc : j ≤ i ∧ i < 14 ∧ sayB v i = true
          · rw [if_pos ⟨by omega, hc.2⟩, if_pos hc]
          · rw [if_neg (fun h => hc ⟨by omega, h.2⟩), if_neg hij, if_neg hc]
      rw [e1]
    · rw [if_neg hb, run_fin hn m (j + 1) (by omega) u sn (fun i h => hs i (by omega))]
      have e1 : finV v u (j + 1) = finV v u j := by
        funext i
        unfold finV
        by_cases hc : j ≤ i ∧ i < 14 ∧ sayB v i = true
        · have : i ≠ j := fun e => hb (e ▸ hc.2.2)
          rw [if_pos ⟨by omega, hc.2⟩, if_pos hc]
        · rw [if_neg (fun h => hc ⟨by omega, h.2⟩), if_neg hc]
      rw [e1]
theorem chkF_ext {v v' : Nat → Int} (h : ∀ i, i < 4 → v i = v' i) (hf : ∀ i, 4 ≤ i → i < 14 → (v i == 1) = (v' i == 1)) : chkF v = chkF v' := by
  unfold chkF
  rw [h 0 (by omega), h 1 (by omega), h 2 (by omega), h 3 (by omega), hf 5 (by omega) (by omega), hf 6 (by omega) (by omega), hf 7 (by omega) (by omega), hf 8 (by omega) (by omega), hf 9 (by omega) (by omega), hf 10 (by omega) (by omega), hf 11 (by omega) (by omega)]
theorem ovc_ext2 {v v' : Nat → Int} (h : ∀ i, i < 4 → v i = v' i) (hf : ∀ i, 4 ≤ i → i < 14 → (v i == 1) = (v' i == 1)) : ovc v = ovc v' := by
  unfold ovc
  rw [h 0 (by omega), h 1 (by omega), h 2 (by omega), h 3 (by omega), hf 4 (by omega) (by omega), hf 5 (by omega) (by omega), hf 6 (by omega) (by omega), hf 7 (by omega) (by omega), hf 8 (by omega) (by omega), hf 9 (by omega) (by omega), hf 10 (by omega) (by omega), hf 11 (by omega) (by omega), hf 12 (by omega) (by omega), hf 13 (by omega) (by omega)]
theorem parse_back {v : Nat → Int} (h : chkF v = 0) : (parseW (prS v)).1 = 0 ∧ ovc (parseW (prS v)).2 = ovc v := by
  have hn := okN_chk h
  have hsz : ¬ 1000 < (prS v).size := by
    unfold prS
    rw [if_pos h]
    have := joinS_size v 14 (Nat.le_refl _)
    omega
  unfold parseW
  rw [if_neg hsz, wsL_prS h, sayF_all, run_fin hn 14 0 rfl (fun _ => 0) (fun _ => false) (fun _ _ => rfl)]
  have h4 : ∀ i, i < 4 → finV v (fun _ => 0) 0 i = v i := by
    intro i hi
    unfold finV
    by_cases hb : sayB v i = true
    · rw [if_pos ⟨Nat.zero_le _, by omega, hb⟩, if_pos hi]
    · rw [if_neg (fun x => hb x.2.2)]
      have g := getN_no (by omega) hn (show sayB v i = false by simpa using hb)
      unfold getN at g
      by_cases h0 : i = 0
      · subst h0; rw [if_pos rfl] at g; have := hn.1; omega
      · rw [if_neg h0, if_pos hi] at g; exact g.symm
  have hf : ∀ i, 4 ≤ i → i < 14 → (finV v (fun _ => 0) 0 i == 1) = (v i == 1) := by
    intro i h4 hi
    unfold finV
    have e : sayB v i = (v i == 1) := by unfold sayB; rw [if_neg (by omega)]
    by_cases hb : sayB v i = true
    · rw [if_pos ⟨Nat.zero_le _, hi, hb⟩, if_neg (by omega), ← e, hb]; rfl
    · rw [if_neg (fun x => hb x.2.2), ← e]; simp at hb; rw [hb]; rfl
  have e := chkF_ext h4 hf
  rw [e, h, if_pos rfl]
  exact ⟨rfl, ovc_ext2 h4 hf⟩
theorem run_ok : ∀ (l : List ByteArray) (v : Nat → Int) (s : Nat → Bool), (run chkF l v s).1 = 0 → chkF (run chkF l v s).2 = 0
  | [], v, s, h => by
    rw [run_nil] at h ⊢
    by_cases hc : chkF v = 0
    · rw [if_pos hc]; exact hc
    · rw [if_neg hc] at h; exact absurd h hc
  | x :: l, v, s, h => by
    rw [run_cons] at h ⊢
    split at h
    · rename_i h1
      rw [if_pos h1]
      split at h
      · exact absurd h (by decide)
      · rename_i h2
        rw [if_neg h2]
        exact run_ok l _ _ h
    · exact absurd h (by decide)
theorem run_bad : ∀ (l : List ByteArray) (v : Nat → Int) (s : Nat → Bool), (run chkF l v s).1 ≠ 0 → (run chkF l v s).2 = fun _ => 0
  | [], v, s, h => by
    rw [run_nil] at h ⊢
    by_cases hc : chkF v = 0
    · rw [if_pos hc] at h; exact absurd rfl h
    · rw [if_neg hc]
  | x :: l, v, s, h => by
    rw [run_cons] at h ⊢
    split at h
    · rename_i h1
      rw [if_pos h1]
      split at h
      · rename_i h2; rw [if_pos h2]
      · rename_i h2
        rw [if_neg h2]
        exact run_bad l _ _ h
    · rename_i h1; rw [if_neg h1]
theorem parse_ok (s : ByteArray) (h : (parseW s).1 = 0) : chkF (parseW s).2 = 0 := by
  unfold parseW at h ⊢
  split at h
  · exact absurd h (by decide)
  · rename_i h1; rw [if_neg h1]; exact run_ok _ _ _ h
theorem parse_bad (s : ByteArray) (h : (parseW s).1 ≠ 0) : (parseW s).2 = fun _ => 0 := by
  unfold parseW at h ⊢
  split at h
  · rename_i h1; rw [if_pos h1]
  · rename_i h1; rw [if_neg h1]; exact run_bad _ _ _ h
end Go.Proofs.YtknghhlielhleaaDoor.Stk
