import Derived.Test.YtbkdaafphcfpdaaPSeqOncex6
namespace Go.Proofs.Ytbkdaafphcfpdaa.PureSeqOnceAux
open Go.RowKit Go.Proofs.Ytbkdaafphcfpdaa.PSeqOnce Go.Proofs.YtbkdaafphcfpdaaW.PrintWords Go.Proofs.YtbkdaafphcfpdaaW.PrintLast
set_option linter.unusedSimpArgs false
set_option linter.unusedVariables false
theorem w64 {x : Int} (h0 : -9223372036854775808 ≤ x) (h1 : x ≤ 9223372036854775807) : wrap64 x = x := by unfold wrap64; omega
theorem rd_at (pre : List Int) (x : Int) (rest : List Int) : rd (pre ++ x :: rest) (pre.length : Int) = x := by simp [rd]
theorem rd_nat (l : List Int) (i : Nat) (h : i < l.length) : rd l (i : Int) = l[i] := by simp [rd, h]
theorem wf64 {x : Int} (h : (Lit.int .i64 x).wf = true) : -9223372036854775808 ≤ x ∧ x ≤ 9223372036854775807 := by
  simpa [Lit.wf, IntKind.min, IntKind.max, IntKind.signed, IntKind.bits] using h
theorem bsome {P : Prop} [Decidable P] {b : Bool} (h : b = true ↔ P) : some b = some (decide P) := by
  congr 1; rw [Bool.eq_iff_iff]; simpa using h
theorem u16w {x : Int} (h0 : 0 ≤ x) (h1 : x ≤ 65535) : IntKind.u16.wrap x = x := by
  simp [IntKind.wrap, IntKind.min, IntKind.max, IntKind.signed, IntKind.bits]; omega
theorem eq_loop_int_int (a b : List Int) (hl : a.length = b.length) (hm : a.length ≤ 9223372036854775806) : ∀ d k i : Nat, i + d = a.length → d < k →
    slices_Equal_int_int.l0 k a b a.length i = some (decide (a.drop i = b.drop i)) := by
  intro d
  induction d with
  | zero =>
    intro k i hi hk
    obtain ⟨k, rfl⟩ : ∃ m, k = m + 1 := ⟨k - 1, by omega⟩
    simp only [slices_Equal_int_int.l0]
    rw [if_neg (by omega), List.drop_eq_nil_of_le (by omega), List.drop_eq_nil_of_le (by omega)]
    simp
  | succ d ih =>
    intro k i hi hk
    obtain ⟨k, rfl⟩ : ∃ m, k = m + 1 := ⟨k - 1, by omega⟩
    simp only [slices_Equal_int_int.l0]
    rw [if_pos (by omega), if_pos (by omega), if_pos (by omega), if_pos (by omega), rd_nat a i (by omega), rd_nat b i (by omega),
      List.drop_eq_getElem_cons (by omega : i < a.length), List.drop_eq_getElem_cons (by omega : i < b.length)]
    by_cases h : a[i]'(by omega) = b[i]'(by omega)
    · rw [if_pos h, w64 (by omega) (by omega)]
      have := ih k (i + 1) (by omega) (by omega)
      rw [Int.natCast_add] at this
      rw [show ((1 : Nat) : Int) = 1 from rfl] at this
      rw [this]
      congr 1
      rw [decide_eq_decide, List.cons.injEq]
      simp only [h, true_and]
    · rw [if_neg h]
      congr 1
      symm
      rw [decide_eq_false_iff_not, List.cons.injEq]
      exact fun e => h e.1
theorem equal_f_int_int (a b : List Int) (hm : a.length ≤ 9223372036854775806) (k : Nat) (hk : a.length < k) : slices_Equal_int_int.f k a b = some (decide (a = b)) := by
  unfold slices_Equal_int_int.f
  by_cases hl : a.length = b.length
  · rw [if_pos (by omega), show (0 : Int) = ((0 : Nat) : Int) from rfl, eq_loop_int_int a b hl hm a.length k 0 (by omega) hk]
    simp
  · rw [if_neg (by omega)]
    have : a ≠ b := fun e => hl (by rw [e])
    simp [this]
theorem equal_self_int_int (a : List Int) (hm : a.length ≤ 9223372036854775806) (k : Nat) (hk : a.length < k) : slices_Equal_int_int.f k a a = some true := by
  rw [equal_f_int_int a a hm k hk]; simp
def opn (c : Int) : Prop := c = 19 ∨ c = 20 ∨ c = 21
instance (c : Int) : Decidable (opn c) := by unfold opn; infer_instance
theorem opens_f (c : Int) (k : Nat) (hk : 4 ≤ k) : para_opens.f k c = some (decide (opn c)) := by
  obtain ⟨k, rfl⟩ : ∃ m, k = m + 4 := ⟨k - 4, by omega⟩
  have a1 : wrap64 (0 + 1) = 1 := w64 (by omega) (by omega)
  have a2 : wrap64 (1 + 1) = 2 := w64 (by omega) (by omega)
  have a3 : wrap64 (2 + 1) = 3 := w64 (by omega) (by omega)
  unfold para_opens.f slices_Contains_int_int.f slices_Index_int_int.f
  have e : slices_Index_int_int.l0 (k + 4) [19, 20, 21] c (([19, 20, 21] : List Int).length : Int) 0 = some (if c = 19 then 0 else if c = 20 then 1 else if c = 21 then 2 else -1) := by
    simp only [slices_Index_int_int.l0, List.length_cons, List.length_nil]
    rw [if_pos (by omega), if_pos (by omega), if_pos (by omega), show rd [19, 20, 21] 0 = 19 from rfl]
    by_cases h1 : c = 19
    · rw [if_pos h1, if_pos h1]
    · rw [if_neg h1, if_neg h1, a1, if_pos (by omega), if_pos (by omega), if_pos (by omega), show rd [19, 20, 21] 1 = 20 from rfl]
      by_cases h2 : c = 20
      · rw [if_pos h2, if_pos h2]
      · rw [if_neg h2, if_neg h2, a2, if_pos (by omega), if_pos (by omega), if_pos (by omega), show rd [19, 20, 21] 2 = 21 from rfl]
        by_cases h3 : c = 21
        · rw [if_pos h3, if_pos h3]
        · rw [if_neg h3, if_neg h3, a3, if_neg (by omega)]
  rw [e]
  simp only [Option.bind_some]
  congr 1
  rw [decide_eq_decide]
  unfold opn
  repeat' split
  all_goals omega
theorem up1 {d : Int} (h0 : 0 ≤ d) (h1 : d ≤ 17592186043000) : wrap64 (d + 1) = d + 1 := w64 (by omega) (by omega)
theorem dn1 {d : Int} (h0 : 0 ≤ d) (h1 : d ≤ 17592186043000) : wrap64 (d - 1) = d - 1 := w64 (by omega) (by omega)
def mt (n : Nat) : List Int → Nat → List Int → List Int → List Int
  | [], _, out, _ => out
  | c :: r, i, out, op => if opn c then mt n r (i + 1) (out.set i (n : Int)) (op ++ [(i : Int)])
      else if c = 22 then (if op.length = 0 then mt n r (i + 1) out op else mt n r (i + 1) ((out.set (op.getD (op.length - 1) 0).toNat (i : Int)).set i (op.getD (op.length - 1) 0)) (op.take (op.length - 1)))
      else mt n r (i + 1) out op
theorem mt_len (n : Nat) : ∀ (r : List Int) (i : Nat) (out op : List Int), (mt n r i out op).length = out.length
  | [], _, _, _ => rfl
  | c :: r, i, out, op => by
    unfold mt
    repeat' split
    all_goals rw [mt_len n r]
    all_goals simp
theorem matches_l0 (q : List Int) (hq : q.length ≤ 17592186043000) : ∀ (r : List Int) (k i : Nat) (out op : List Int), q.drop i = r → i + r.length = q.length → r.length + 5 < k → out.length = q.length → op.length ≤ i → (∀ x ∈ op, 0 ≤ x ∧ x < (i : Int)) →
    para_Matches.l0 k q out op q (q.length : Int) (i : Int) = some (mt q.length r i out op)
  | [], k, i, out, op, hr, hi, hk, ho, hop, hb => by
    obtain ⟨k, rfl⟩ : ∃ m, k = m + 1 := ⟨k - 1, by omega⟩
    rw [List.length_nil] at hi
    rw [para_Matches.l0, if_neg (by omega)]
    rfl
  | c :: r, k, i, out, op, hr, hi, hk, ho, hop, hb => by
    obtain ⟨k, rfl⟩ : ∃ m, k = m + 1 := ⟨k - 1, by omega⟩
    rw [List.length_cons] at hi hk
    have hil : i < q.length := by omega
    have hd := List.drop_eq_getElem_cons hil
    rw [hr] at hd
    obtain ⟨hc, hr2⟩ := List.cons.inj hd
    have hrd : rd q (i : Int) = c := by rw [rd_nat q i hil]; exact hc.symm
    have w1 : wrap64 ((i : Int) + 1) = ((i + 1 : Nat) : Int) := by rw [w64 (by omega) (by omega)]; omega
    have hnext := fun out' op' h1 h2 h3 => matches_l0 q hq r k (i + 1) out' op' hr2.symm (by omega) (by omega) h1 h2 h3
    rw [para_Matches.l0, if_pos (by omega), if_pos (by omega), if_pos (by omega), hrd, opens_f c k (by omega), Option.bind_some, w1, mt]
    by_cases hopn : opn c
    · rw [if_pos (by simpa using hopn), if_pos hopn, if_pos (by omega), if_pos (by omega), Int.toNat_natCast]
      refine hnext _ _ (by simp [ho]) (by simp; omega) (fun x hx => ?_)
      rcases List.mem_append.1 hx with h1 | h1
      · have := hb x h1; omega
      · rw [List.mem_singleton] at h1; omega
    · rw [if_neg (by simpa using hopn), if_neg hopn]
      by_cases h22 : c = 22
      · rw [if_pos h22, if_pos h22]
        by_cases hz : op.length = 0
        · rw [if_neg (by omega), if_pos hz]
          exact hnext _ _ ho (by omega) (fun x hx => by have := hb x hx; omega)
        · have w2 : wrap64 ((op.length : Int) - 1) = ((op.length - 1 : Nat) : Int) := by rw [w64 (by omega) (by omega)]; omega
          have hlt : op.length - 1 < op.length := by omega
          have hrl : rd op ((op.length - 1 : Nat) : Int) = op.getD (op.length - 1) 0 := by simp [rd]
          have hm : op.getD (op.length - 1) 0 ∈ op := by rw [List.getD_eq_getElem?_getD, List.getElem?_eq_getElem hlt]; exact List.getElem_mem hlt
          have hbl := hb _ hm
          rw [if_pos (by omega), if_neg hz, w2, if_pos (by omega), if_pos (by omega), if_pos (by omega), hrl, if_pos (by omega), if_pos (by omega), if_pos (by omega), Int.toNat_natCast, Int.toNat_natCast]
          exact hnext _ _ (by simp [ho]) (by rw [List.length_take]; omega) (fun x hx => by have := hb x (List.mem_of_mem_take hx); omega)
      · rw [if_neg h22, if_neg h22]
        exact hnext _ _ ho (by omega) (fun x hx => by have := hb x hx; omega)
def mat (q : List Int) : List Int := mt q.length q 0 (List.replicate q.length (-1)) []
theorem matches_f (q : List Int) (hq : q.length ≤ 17592186043000) (k : Nat) (hk : q.length + 5 < k) : para_Matches.f k q = some (mat q) := by
  unfold para_Matches.f slices_Repeat_int_int.f mat
  rw [if_pos (show ([-1] : List Int).length = 1 from rfl), if_pos (by omega), if_pos (by omega), Option.bind_some, Int.toNat_natCast]
  exact matches_l0 q hq q k 0 _ [] (by simp) (by simp) hk (by simp) (by simp) (by simp)
theorem mat_len (q : List Int) : (mat q).length = q.length := by unfold mat; rw [mt_len]; simp
def cls : List Int → Nat → Nat
  | [], _ => 0
  | c :: r, d => if opn c then cls r (d + 1) + 1 else if c = 22 then (if d = 0 then 0 else cls r (d - 1) + 1) else cls r d + 1
theorem cls_le : ∀ (r : List Int) (d : Nat), cls r d ≤ r.length
  | [], _ => Nat.le_refl _
  | c :: r, d => by
    have h1 := cls_le r (d + 1)
    have h2 := cls_le r (d - 1)
    have h3 := cls_le r d
    rw [cls, List.length_cons]
    repeat' split
    all_goals omega
theorem not_opn22 : ¬ opn 22 := by decide
theorem cls_pdi : ∀ (r : List Int) (d : Nat), cls r d < r.length → r.getD (cls r d) 0 = 22
  | [], _, h => absurd h (Nat.not_lt_zero _)
  | c :: r, d, h => by
    rw [cls] at h ⊢
    rw [List.length_cons] at h
    by_cases ho : opn c
    · rw [if_pos ho] at h ⊢; rw [List.getD_cons_succ]; exact cls_pdi r _ (by omega)
    · rw [if_neg ho] at h ⊢
      by_cases h22 : c = 22
      · rw [if_pos h22] at h ⊢
        by_cases hd : d = 0
        · rw [if_pos hd]; exact h22
        · rw [if_neg hd] at h ⊢; rw [List.getD_cons_succ]; exact cls_pdi r _ (by omega)
      · rw [if_neg h22] at h ⊢; rw [List.getD_cons_succ]; exact cls_pdi r _ (by omega)
theorem mt_told (n : Nat) : ∀ (r : List Int) (i : Nat) (out op : List Int), out.length = n → i + r.length = n → op.Nodup → (∀ p ∈ op, 0 ≤ p ∧ p < (i : Int) ∧ out.getD p.toNat 0 = (n : Int)) →
    (∀ t, t < r.length → opn (r.getD t 0) → (mt n r i out op).getD (i + t) 0 = ((i + t + 1 + cls (r.drop (t + 1)) 0 : Nat) : Int)) ∧ (∀ p : Nat, p < i → (p : Int) ∉ op → (mt n r i out op).getD p 0 = out.getD p 0) ∧ (∀ j, j < op.length → (mt n r i out op).getD (op.getD j 0).toNat 0 = ((i + cls r (op.length - 1 - j) : Nat) : Int))
  | [], i, out, op, ho, hi, hnd, hop => by
    refine ⟨fun t ht => absurd ht (Nat.not_lt_zero _), fun _ _ _ => rfl, fun j hj => ?_⟩
    have hm : op.getD j 0 ∈ op := by rw [List.getD_eq_getElem?_getD, List.getElem?_eq_getElem hj]; exact List.getElem_mem hj
    have := (hop _ hm).2.2
    rw [List.length_nil] at hi
    rw [mt, this, cls]
    omega
  | c :: r, i, out, op, ho, hi, hnd, hop => by
    rw [List.length_cons] at hi
    have gset : ∀ (l : List Int) (a p : Nat) (x : Int), p < l.length → (l.set a x).getD p 0 = if a = p then x else l.getD p 0 := fun l a p x hp => by
      rw [List.getD_eq_getElem?_getD, List.getElem?_set]
      by_cases h : a = p
      · rw [if_pos h, if_pos h, if_pos (by omega)]; rfl
      · rw [if_neg h, if_neg h, List.getD_eq_getElem?_getD]
    have hmem : ∀ j, j < op.length → op.getD j 0 ∈ op := fun j hj => by rw [List.getD_eq_getElem?_getD, List.getElem?_eq_getElem hj]; exact List.getElem_mem hj
    by_cases hc : opn c
    · obtain ⟨k1, k2, k3⟩ := mt_told n r (i + 1) (out.set i (n : Int)) (op ++ [(i : Int)]) (by simp [ho]) (by omega)
        (List.nodup_append.2 ⟨hnd, by simp, fun a ha b hb => by rw [List.mem_singleton] at hb; have := hop a ha; omega⟩)
        (fun p hp => by
          rcases List.mem_append.1 hp with h | h
          · have := hop p h
            refine ⟨this.1, by omega, ?_⟩
            rw [gset _ _ _ _ (by omega), if_neg (by omega)]; exact this.2.2
          · rw [List.mem_singleton] at h
            subst h
            refine ⟨by omega, by omega, ?_⟩
            rw [Int.toNat_natCast, gset _ _ _ _ (by omega), if_pos rfl])
      rw [mt, if_pos hc]
      have hk3 : ∀ j, j < op.length + 1 → (mt n r (i + 1) (out.set i (n : Int)) (op ++ [(i : Int)])).getD ((op ++ [(i : Int)]).getD j 0).toNat 0 = ((i + 1 + cls r (op.length - j) : Nat) : Int) := fun j hj => by
        have := k3 j (by simp; omega)
        rw [List.length_append, List.length_singleton, Nat.add_sub_cancel] at this
        exact this
      refine ⟨fun t ht hto => ?_, fun p hp hn => ?_, fun j hj => ?_⟩
      · cases t with
        | zero =>
          have := hk3 op.length (by omega)
          rw [List.getD_eq_getElem?_getD (l := op ++ [(i : Int)]), List.getElem?_append_right (Nat.le_refl _), Nat.sub_self] at this
          simpa using this
        | succ t =>
          rw [List.getD_cons_succ] at hto
          have := k1 t (by rw [List.length_cons] at ht; omega) hto
          rw [show i + (t + 1) = i + 1 + t by omega, List.drop_succ_cons]
          exact this
      · rw [k2 p (by omega) (fun h => by
          rcases List.mem_append.1 h with h | h
          · exact hn h
          · rw [List.mem_singleton] at h; omega), gset _ _ _ _ (by omega), if_neg (by omega)]
      · have := hk3 j (by omega)
        rw [List.getD_eq_getElem?_getD (l := op ++ [(i : Int)]), List.getElem?_append_left hj, ← List.getD_eq_getElem?_getD] at this
        rw [this, cls, if_pos hc, show op.length - 1 - j + 1 = op.length - j by omega]
        omega
    · by_cases h22 : c = 22
      · by_cases hz : op.length = 0
        · obtain ⟨k1, k2, k3⟩ := mt_told n r (i + 1) out op ho (by omega) hnd (fun p hp => by have := hop p hp; exact ⟨this.1, by omega, this.2.2⟩)
          rw [mt, if_neg hc, if_pos h22, if_pos hz]
          refine ⟨fun t ht hto => ?_, fun p hp hn => k2 p (by omega) hn, fun j hj => absurd hj (by omega)⟩
          cases t with
          | zero => rw [List.getD_cons_zero] at hto; exact absurd hto hc
          | succ t =>
            rw [List.getD_cons_succ] at hto
            have := k1 t (by rw [List.length_cons] at ht; omega) hto
            rw [show i + (t + 1) = i + 1 + t by omega, List.drop_succ_cons]
            exact this
        · have hlast := hop _ (hmem (op.length - 1) (by omega))
          generalize hx : op.getD (op.length - 1) 0 = x at hlast
          have hnl : ∀ j, j < op.length - 1 → op.getD j 0 ≠ x := fun j hj e => by
            rw [← hx, List.getD_eq_getElem?_getD, List.getD_eq_getElem?_getD, List.getElem?_eq_getElem (by omega), List.getElem?_eq_getElem (by omega)] at e
            have := (List.getElem_inj hnd).1 e
            omega
          have hnx : ∀ p, p ∈ op.take (op.length - 1) → p ≠ x := fun p hp e => by
            obtain ⟨j, hj, e2⟩ := List.getElem_of_mem hp
            rw [List.length_take] at hj
            rw [List.getElem_take] at e2
            refine hnl j (by omega) ?_
            rw [List.getD_eq_getElem?_getD, List.getElem?_eq_getElem (by omega)]
            exact e2.trans e
          obtain ⟨k1, k2, k3⟩ := mt_told n r (i + 1) ((out.set x.toNat (i : Int)).set i x) (op.take (op.length - 1)) (by simp [ho]) (by omega) (hnd.sublist (List.take_sublist _ _))
            (fun p hp => by
              have := hop p (List.mem_of_mem_take hp)
              have := hnx p hp
              refine ⟨by omega, by omega, ?_⟩
              rw [gset _ _ _ _ (by simp; omega), if_neg (by omega), gset _ _ _ _ (by omega), if_neg (by omega)]; omega)
          rw [mt, if_neg hc, if_pos h22, if_neg hz, hx]
          refine ⟨fun t ht hto => ?_, fun p hp hn => ?_, fun j hj => ?_⟩
          · cases t with
            | zero => rw [List.getD_cons_zero] at hto; exact absurd hto hc
            | succ t =>
              rw [List.getD_cons_succ] at hto
              have := k1 t (by rw [List.length_cons] at ht; omega) hto
              rw [show i + (t + 1) = i + 1 + t by omega, List.drop_succ_cons]
              exact this
          · have hpx : (p : Int) ≠ x := fun e => hn (by rw [e, ← hx]; exact hmem _ (by omega))
            rw [k2 p (by omega) (fun h => hn (List.mem_of_mem_take h)), gset _ _ _ _ (by simp; omega), if_neg (by omega), gset _ _ _ _ (by omega), if_neg (by omega)]
          · by_cases hjl : j = op.length - 1
            · rw [hjl, hx, k2 x.toNat (by omega) (fun h => hnx _ h (by omega)), gset _ _ _ _ (by simp; omega), if_neg (by omega), gset _ _ _ _ (by omega), if_pos rfl, cls, if_neg hc, if_pos h22, if_pos (by omega)]
              rfl
            · have := k3 j (by rw [List.length_take]; omega)
              rw [List.length_take, List.getD_eq_getElem?_getD (l := op.take _), List.getElem?_take, if_pos (by omega), ← List.getD_eq_getElem?_getD] at this
              rw [this, cls, if_neg hc, if_pos h22, if_neg (by omega), show min (op.length - 1) op.length - 1 - j = op.length - 1 - j - 1 by omega]
              omega
      · obtain ⟨k1, k2, k3⟩ := mt_told n r (i + 1) out op ho (by omega) hnd (fun p hp => by have := hop p hp; exact ⟨this.1, by omega, this.2.2⟩)
        rw [mt, if_neg hc, if_neg h22]
        refine ⟨fun t ht hto => ?_, fun p hp hn => k2 p (by omega) hn, fun j hj => ?_⟩
        · cases t with
          | zero => rw [List.getD_cons_zero] at hto; exact absurd hto hc
          | succ t =>
            rw [List.getD_cons_succ] at hto
            have := k1 t (by rw [List.length_cons] at ht; omega) hto
            rw [show i + (t + 1) = i + 1 + t by omega, List.drop_succ_cons]
            exact this
        · rw [k3 j hj, cls, if_neg hc, if_neg h22]
          omega
theorem mat_told (q : List Int) (i : Nat) (hi : i < q.length) (ho : opn (q.getD i 0)) : (mat q).getD i 0 = ((i + 1 + cls (q.drop (i + 1)) 0 : Nat) : Int) := by
  have := (mt_told q.length q 0 (List.replicate q.length (-1)) [] (by simp) (by omega) List.nodup_nil (fun p hp => by cases hp)).1 i hi ho
  rw [Nat.zero_add] at this
  exact this
def clo (q : List Int) (j : Nat) : Nat := j + 1 + cls (q.drop (j + 1)) 0
def lf (c : Int) : Bool := decide (c = 14 ∨ c = 15 ∨ c = 16 ∨ c = 17 ∨ c = 18 ∨ c = 9)
theorem left_f (c : Int) : explicit_Left.f c = some (lf c) := by
  unfold explicit_Left.f lf
  repeat' split
  all_goals (congr 1; symm; first | (rw [decide_eq_true_eq]; omega) | (rw [decide_eq_false_iff_not]; omega))
theorem rleft_f (c : Int) : naskhref22_Left.f c = some (lf c) := by
  unfold naskhref22_Left.f lf
  by_cases h9 : c = 9
  · have e : (c == 9) = true := beq_iff_eq.mpr h9
    rw [if_neg (by omega), e]
    congr 1; symm; rw [decide_eq_true_eq]; omega
  · have e : (c == 9) = false := beq_eq_false_iff_ne.mpr h9
    rw [e]
    repeat' split
    all_goals (congr 1; symm; first | (rw [decide_eq_true_eq]; omega) | (rw [decide_eq_false_iff_not]; omega))
def kp : List Int → Nat → List Int
  | [], _ => []
  | c :: r, i => if lf c = true then kp r (i + 1) else (i : Int) :: kp r (i + 1)
theorem kp_mem : ∀ (r : List Int) (i : Nat) (x : Int), x ∈ kp r i → (i : Int) ≤ x ∧ x < ((i + r.length : Nat) : Int)
  | [], _, _, h => by cases h
  | c :: r, i, x, h => by
    have ih := kp_mem r (i + 1)
    rw [kp] at h
    rw [List.length_cons]
    by_cases hc : lf c = true
    · rw [if_pos hc] at h; have := ih x h; omega
    · rw [if_neg hc] at h
      rcases List.mem_cons.1 h with rfl | h
      · omega
      · have := ih x h; omega
theorem kp_sorted : ∀ (r : List Int) (i : Nat), (kp r i).Pairwise (· < ·)
  | [], _ => List.Pairwise.nil
  | c :: r, i => by
    rw [kp]
    by_cases hc : lf c = true
    · rw [if_pos hc]; exact kp_sorted r (i + 1)
    · rw [if_neg hc]
      exact List.pairwise_cons.2 ⟨fun x hx => by have := kp_mem r (i + 1) x hx; omega, kp_sorted r (i + 1)⟩
theorem kp_len : ∀ (r : List Int) (i : Nat), (kp r i).length ≤ r.length
  | [], _ => Nat.le_refl _
  | c :: r, i => by
    have := kp_len r (i + 1)
    rw [kp, List.length_cons]
    split
    · omega
    · rw [List.length_cons]; omega
theorem kept_l0 (q : List Int) (hq : q.length ≤ 200) : ∀ (n k i : Nat) (out : List Int), i + n = q.length → n < k → out.length ≤ i → seq_kept.l0 k out q (q.length : Int) (i : Int) = some (out ++ kp (q.drop i) i) := by
  intro n
  induction n with
  | zero =>
    intro k i out hi hk ho
    obtain ⟨k, rfl⟩ : ∃ m, k = m + 1 := ⟨k - 1, by omega⟩
    rw [seq_kept.l0, if_neg (by omega), List.drop_eq_nil_of_le (by omega), kp, List.append_nil]
  | succ n ih =>
    intro k i out hi hk ho
    obtain ⟨k, rfl⟩ : ∃ m, k = m + 1 := ⟨k - 1, by omega⟩
    have hlt : i < q.length := by omega
    have w1 : wrap64 ((i : Int) + 1) = ((i + 1 : Nat) : Int) := (up1 (by omega) (by omega)).trans (by omega)
    have hlo : out.length < 17592186044416 := by omega
    rw [seq_kept.l0, if_pos (by omega), if_pos (by omega), if_pos (by omega), rd_nat q i hlt, left_f, Option.bind_some, w1, List.drop_eq_getElem_cons hlt, kp]
    by_cases hc : lf q[i] = true
    · rw [if_pos hc, if_pos hc]; exact ih k (i + 1) out (by omega) (by omega) (by omega)
    · rw [if_neg hc, if_neg hc, if_pos hlo, ih k (i + 1) _ (by omega) (by omega) (by simp; omega), List.append_assoc]; rfl
theorem kept_f (q : List Int) (hq : q.length ≤ 200) (k : Nat) (hk : q.length < k) : seq_kept.f k q = some (kp q 0) := by
  unfold seq_kept.f
  rw [show (0 : Int) = ((0 : Nat) : Int) from rfl, kept_l0 q hq q.length k 0 [] (by omega) hk (Nat.le_refl _)]
  rfl
def lastp (out : List (List Int)) : Int := (out.getD (out.length - 1) []).getD ((out.getD (out.length - 1) []).length - 1) 0
def addR (L : List Int) (out : List (List Int)) (i : Int) : List (List Int) :=
  if out.length = 0 then [[i]] else if rd L (lastp out) = rd L i then out.set (out.length - 1) (out.getD (out.length - 1) [] ++ [i]) else out ++ [[i]]
structure Rn (out : List (List Int)) (K : List Int) : Prop where
  flat : out.flatten = K
  ne : ∀ l ∈ out, l ≠ []
theorem rd_L1_nat (l : List (List Int)) (i : Nat) : rd_L1 l (i : Int) = l.getD i [] := by simp [rd_L1]
theorem rd_getD (l : List Int) (i : Nat) : rd l (i : Int) = l.getD i 0 := by simp [rd]
theorem flat_set_last (out : List (List Int)) (hp : 0 < out.length) (x : Int) : (out.set (out.length - 1) (out.getD (out.length - 1) [] ++ [x])).flatten = out.flatten ++ [x] := by
  obtain ⟨a, b, rfl⟩ : ∃ a b, out = a ++ [b] := by
    refine ⟨out.take (out.length - 1), out.getD (out.length - 1) [], ?_⟩
    rw [List.getD_eq_getElem?_getD, List.getElem?_eq_getElem (by omega), Option.getD_some]
    have h := List.take_append_drop (out.length - 1) out
    rw [List.drop_eq_getElem_cons (by omega), show out.length - 1 + 1 = out.length by omega, List.drop_length] at h
    exact h.symm
  simp
theorem addR_rn {L : List Int} {out : List (List Int)} {K : List Int} (h : Rn out K) (i : Int) : Rn (addR L out i) (K ++ [i]) := by
  unfold addR
  by_cases h0 : out.length = 0
  · rw [if_pos h0]
    obtain rfl := List.length_eq_zero_iff.1 h0
    have := h.flat
    subst this
    exact ⟨rfl, fun l hl => by rw [List.mem_singleton] at hl; rw [hl]; simp⟩
  · rw [if_neg h0]
    by_cases he : rd L (lastp out) = rd L i
    · rw [if_pos he]
      refine ⟨by rw [flat_set_last out (by omega), h.flat], fun l hl => ?_⟩
      rcases List.mem_or_eq_of_mem_set hl with h1 | h1
      · exact h.ne l h1
      · rw [h1]; simp
    · rw [if_neg he]
      refine ⟨by rw [List.flatten_append, h.flat]; rfl, fun l hl => ?_⟩
      rcases List.mem_append.1 hl with h1 | h1
      · exact h.ne l h1
      · rw [List.mem_singleton] at h1; rw [h1]; simp
theorem addR_len {L : List Int} {out : List (List Int)} (i : Int) : (addR L out i).length ≤ out.length + 1 := by
  unfold addR
  repeat' split
  all_goals simp
theorem len_flat : ∀ (out : List (List Int)) (l : List Int), l ∈ out → l.length ≤ out.flatten.length
  | a :: out, l, h => by
    rw [List.flatten_cons, List.length_append]
    rcases List.mem_cons.1 h with rfl | h
    · omega
    · have := len_flat out l h; omega
theorem rn_len {out : List (List Int)} {K : List Int} (h : Rn out K) : ∀ l ∈ out, l.length ≤ K.length := fun l hl => by
  rw [← h.flat]
  exact len_flat out l hl
theorem rn_mem {out : List (List Int)} {K : List Int} (h : Rn out K) : ∀ l ∈ out, ∀ x ∈ l, x ∈ K := fun l hl x hx => by
  rw [← h.flat]
  exact List.mem_flatten.2 ⟨l, hl, hx⟩
theorem rn_last {out : List (List Int)} {K : List Int} (h : Rn out K) (hp : 0 < out.length) : lastp out ∈ K ∧ 0 < (out.getD (out.length - 1) []).length ∧ (out.getD (out.length - 1) []).length ≤ K.length := by
  have hm : out.getD (out.length - 1) [] ∈ out := by rw [List.getD_eq_getElem?_getD, List.getElem?_eq_getElem (by omega)]; exact List.getElem_mem _
  have hn := h.ne _ hm
  have hl : 0 < (out.getD (out.length - 1) []).length := Nat.pos_of_ne_zero (fun h => hn (List.length_eq_zero_iff.1 h))
  refine ⟨rn_mem h _ hm _ ?_, hl, rn_len h _ hm⟩
  unfold lastp
  rw [List.getD_eq_getElem?_getD (l := out.getD (out.length - 1) []), List.getElem?_eq_getElem (by omega)]
  exact List.getElem_mem _
theorem runs_l0 (L K : List Int) (hL : L.length ≤ 200) (hK : K.length ≤ 200) (hm : ∀ x ∈ K, 0 ≤ x ∧ x < (L.length : Int)) : ∀ (n k i : Nat) (out : List (List Int)), i + n = K.length → n < k → out.length ≤ i → (i = 0 ↔ out.length = 0) → Rn out (K.take i) →
    seq_Runs.l0 k L out K (K.length : Int) (i : Int) = some ((K.drop i).foldl (addR L) out) := by
  intro n
  induction n with
  | zero =>
    intro k i out hi hk ho h0 hr
    obtain ⟨k, rfl⟩ : ∃ m, k = m + 1 := ⟨k - 1, by omega⟩
    rw [seq_Runs.l0, if_neg (by omega), List.drop_eq_nil_of_le (by omega)]
    rfl
  | succ n ih =>
    intro k i out hi hk ho h0 hr
    obtain ⟨k, rfl⟩ : ∃ m, k = m + 1 := ⟨k - 1, by omega⟩
    have hlt : i < K.length := by omega
    have w1 : wrap64 ((i : Int) + 1) = ((i + 1 : Nat) : Int) := (up1 (by omega) (by omega)).trans (by omega)
    have hrd : rd K (i : Int) = K[i] := rd_nat K i hlt
    have hx := hm K[i] (List.getElem_mem hlt)
    have hlo : out.length < 5864062014805 := by omega
    have htk : K.take (i + 1) = K.take i ++ [K[i]] := by rw [List.take_succ_eq_append_getElem hlt]
    have hnx := ih k (i + 1) (addR L out K[i]) (by omega) (by omega) (by have := addR_len (L := L) (out := out) K[i]; omega) ⟨fun h => by omega, fun h => by
      exfalso
      have h1 := (addR_rn (L := L) hr K[i]).flat
      rw [List.length_eq_zero_iff.1 h] at h1
      have := congrArg List.length h1
      simp at this
      omega⟩ (by rw [htk]; exact addR_rn hr _)
    rw [seq_Runs.l0, if_pos (by omega), if_pos (by omega), if_pos (by omega), hrd, w1, List.drop_eq_getElem_cons hlt, List.foldl_cons]
    by_cases hi0 : i = 0
    · have ho0 := h0.1 hi0
      have e : addR L out K[i] = out ++ [[K[i]]] := by unfold addR; rw [if_pos ho0, List.length_eq_zero_iff.1 ho0]; rfl
      rw [e] at hnx ⊢
      rw [if_pos (by omega), if_pos hlo]
      exact hnx
    · have ho0 : 0 < out.length := by omega
      obtain ⟨hl1, hl2, hl3⟩ := rn_last hr ho0
      have hlm := hm _ (List.mem_of_mem_take hl1)
      rw [List.length_take] at hl3
      have w2 : wrap64 ((out.length : Int) - 1) = ((out.length - 1 : Nat) : Int) := by rw [w64 (by omega) (by omega)]; omega
      have w3 : wrap64 (((out.getD (out.length - 1) []).length : Int) - 1) = (((out.getD (out.length - 1) []).length - 1 : Nat) : Int) := by rw [w64 (by omega) (by omega)]; omega
      have hll : (out.getD (out.length - 1) []).length < 17592186044416 := by omega
      rw [if_neg (by omega), w2, rd_L1_nat, w3, rd_getD, if_pos (by omega), if_pos (by omega), if_pos (by omega), if_pos (by omega)]
      change (if 0 ≤ lastp out then _ else _) = _
      rw [if_pos hlm.1]
      change (if lastp out < (L.length : Int) then _ else _) = _
      rw [if_pos hlm.2, if_pos hx.1, if_pos hx.2, Int.toNat_natCast]
      change (if rd L (lastp out) = rd L K[i] then _ else _) = _
      by_cases he : rd L (lastp out) = rd L K[i]
      · have e : addR L out K[i] = out.set (out.length - 1) (out.getD (out.length - 1) [] ++ [K[i]]) := by unfold addR; rw [if_neg (by omega), if_pos he]
        rw [e] at hnx ⊢
        rw [if_pos he, if_pos hll]
        exact hnx
      · have e : addR L out K[i] = out ++ [[K[i]]] := by unfold addR; rw [if_neg (by omega), if_neg he]
        rw [e] at hnx ⊢
        rw [if_neg he, if_pos hlo]
        exact hnx
def rns (L C : List Int) : List (List Int) := (kp C 0).foldl (addR L) []
theorem runs_f (L C : List Int) (hL : L.length ≤ 200) (he : L.length = C.length) (k : Nat) (hk : 200 < k) : seq_Runs.f k L C = some (rns L C) := by
  have hl := kp_len C 0
  unfold seq_Runs.f
  rw [if_pos (by omega), kept_f C (by omega) k (by omega), Option.bind_some, show (0 : Int) = ((0 : Nat) : Int) from rfl]
  exact runs_l0 L (kp C 0) hL (by omega) (fun x hx => by have := kp_mem C 0 x hx; omega) (kp C 0).length k 0 [] (by omega) (by omega) (Nat.le_refl _) ⟨fun _ => rfl, fun _ => rfl⟩ ⟨rfl, fun _ h => by cases h⟩
theorem fold_rn (L : List Int) : ∀ (K : List Int) (out : List (List Int)) (P : List Int), Rn out P → Rn (K.foldl (addR L) out) (P ++ K)
  | [], out, P, h => by rw [List.append_nil]; exact h
  | x :: K, out, P, h => by
    have := fold_rn L K (addR L out x) (P ++ [x]) (addR_rn h x)
    rw [List.append_assoc] at this
    exact this
theorem rns_rn (L C : List Int) : Rn (rns L C) (kp C 0) := by
  have := fold_rn L (kp C 0) [] [] ⟨rfl, fun _ h => by cases h⟩
  exact this
theorem lastp_app (out : List (List Int)) (i : Int) : lastp (out ++ [[i]]) = i := by
  unfold lastp
  simp
theorem lastp_set (out : List (List Int)) (hp : 0 < out.length) (l : List Int) (i : Int) : lastp (out.set (out.length - 1) (l ++ [i])) = i := by
  unfold lastp
  have e : (out.set (out.length - 1) (l ++ [i])).getD ((out.set (out.length - 1) (l ++ [i])).length - 1) [] = l ++ [i] := by
    rw [List.length_set, List.getD_eq_getElem?_getD, List.getElem?_set_self (by omega)]; rfl
  rw [e]
  simp
theorem lastp_addR (L : List Int) (out : List (List Int)) (i : Int) : lastp (addR L out i) = i ∧ 0 < (addR L out i).length := by
  unfold addR
  by_cases h0 : out.length = 0
  · rw [if_pos h0]; exact ⟨rfl, by simp⟩
  · rw [if_neg h0]
    by_cases he : rd L (lastp out) = rd L i
    · rw [if_pos he]; exact ⟨lastp_set out (by omega) _ i, by rw [List.length_set]; omega⟩
    · rw [if_neg he]; exact ⟨lastp_app out i, by simp⟩
open Stk (okI gput gdel begF rkI lastL nxtF chainF isoB nearF dirF behF)
abbrev hd (R : List (List Int)) (j : Nat) : Int := rd (R.getD j []) 0
structure Rs (R : List (List Int)) (K : List Int) (n : Nat) : Prop where
  ne : ∀ j, j < R.length → 0 < (R.getD j []).length
  up : ∀ i j, i < j → j < R.length → hd R i < hd R j
  mem : ∀ j, j < R.length → ∀ x ∈ R.getD j [], x ∈ K
  len : ∀ j, j < R.length → (R.getD j []).length ≤ 200
  bd : ∀ x ∈ K, 0 ≤ x ∧ x < (n : Int)
  nn : n ≤ 200
  rl : R.length ≤ 200
theorem hd_mem {R : List (List Int)} {K : List Int} {n : Nat} (h : Rs R K n) (j : Nat) (hj : j < R.length) : hd R j ∈ K := by
  refine h.mem j hj _ ?_
  have h1 := h.ne j hj
  rw [hd, show (0 : Int) = ((0 : Nat) : Int) from rfl, rd_nat _ 0 h1]
  exact List.getElem_mem h1
theorem hd_inj {R : List (List Int)} {K : List Int} {n : Nat} (h : Rs R K n) {i j : Nat} (hi : i < R.length) (hj : j < R.length) (e : hd R i = hd R j) : i = j := by
  rcases Nat.lt_trichotomy i j with h1 | h1 | h1
  · have := h.up i j h1 hj; omega
  · exact h1
  · have := h.up j i h1 hi; omega
structure RelG (R : List (List Int)) (g : Int → Option (List Int)) (U : List Bool) : Prop where
  len : U.length = R.length
  at_ : ∀ j, j < R.length → g (hd R j) = if U.getD j false = true then none else some (R.getD j [])
  off : ∀ a, (∀ j, j < R.length → hd R j ≠ a) → g a = none
theorem getD_set_b (U : List Bool) (i j : Nat) (hj : j < U.length) : (U.set i true).getD j false = if i = j then true else U.getD j false := by
  rw [List.getD_eq_getElem?_getD, List.getElem?_set]
  by_cases h : i = j
  · rw [if_pos h, if_pos h, if_pos (by omega)]; rfl
  · rw [if_neg h, if_neg h, List.getD_eq_getElem?_getD]
theorem rel_step {R : List (List Int)} {K : List Int} {n : Nat} (h : Rs R K n) {g : Int → Option (List Int)} {U : List Bool} (hr : RelG R g U) {i : Nat} (hi : i < R.length) : RelG R (gdel g (hd R i)) (U.set i true) := by
  refine ⟨by rw [List.length_set]; exact hr.len, fun j hj => ?_, fun a ha => ?_⟩
  · rw [getD_set_b U i j (by rw [hr.len]; exact hj)]
    unfold gdel
    by_cases e : i = j
    · subst e; rw [if_pos rfl, if_pos rfl, if_pos rfl]
    · rw [if_neg (fun e2 => e (hd_inj h hj hi e2).symm), if_neg e]; exact hr.at_ j hj
  · unfold gdel
    rw [if_neg (fun e => ha i hi e.symm)]
    exact hr.off a ha
theorem beg_at {R : List (List Int)} {K : List Int} {n : Nat} (h : Rs R K n) : ∀ m, m ≤ R.length → (∀ j, j < m → begF R m (hd R j) = some (R.getD j [])) ∧ (∀ a, (∀ j, j < m → hd R j ≠ a) → begF R m a = none)
  | 0, _ => ⟨fun j hj => absurd hj (Nat.not_lt_zero _), fun _ _ => rfl⟩
  | m + 1, hm => by
    obtain ⟨h1, h2⟩ := beg_at h m (by omega)
    refine ⟨fun j hj => ?_, fun a ha => ?_⟩
    · rw [begF, gput]
      by_cases e : j = m
      · subst e; rw [if_pos rfl]
      · rw [if_neg (fun e2 => e (hd_inj h (by omega) (by omega) e2))]; exact h1 j (by omega)
    · rw [begF, gput, if_neg (fun e => ha m (by omega) e.symm)]
      exact h2 a (fun j hj => ha j (by omega))
theorem rel_start {R : List (List Int)} {K : List Int} {n : Nat} (h : Rs R K n) : RelG R (begF R R.length) (List.replicate R.length false) := by
  obtain ⟨h1, h2⟩ := beg_at h R.length (Nat.le_refl _)
  refine ⟨List.length_replicate, fun j hj => ?_, h2⟩
  have e : (List.replicate R.length false).getD j false = false := by rw [List.getD_eq_getElem?_getD, List.getElem?_replicate, if_pos hj]; rfl
  rw [e, if_neg (by decide)]
  exact h1 j hj
def cf (U : List Bool) : Nat := U.countP (fun b => !b)
theorem cf_set : ∀ (U : List Bool) (i : Nat), i < U.length → U.getD i false = false → cf (U.set i true) + 1 = cf U
  | b :: U, 0, _, h => by
    rw [List.getD_cons_zero] at h
    subst h
    simp [cf]
  | b :: U, i + 1, hi, h => by
    rw [List.getD_cons_succ] at h
    have := cf_set U i (by simpa using hi) h
    unfold cf at this ⊢
    rw [List.set_cons_succ, List.countP_cons, List.countP_cons]
    omega
theorem lastL_app (a l : List Int) (hl : 0 < l.length) : lastL (a ++ l) ∈ l := by
  unfold lastL
  rw [show ((a ++ l).length : Int) - 1 = ((a ++ l).length - 1 : Nat) by rw [List.length_append]; omega, rd_nat _ _ (by rw [List.length_append]; omega), List.getElem_append_right (by rw [List.length_append]; omega)]
  exact List.getElem_mem _
theorem ok_bd {x : Int} (h0 : 0 ≤ x) (h1 : x ≤ 1000) : okI x = true := by
  simp [okI, Lit.wf, IntKind.min, IntKind.max, IntKind.signed, IntKind.bits]
  omega
theorem rdOf_nat (U : List Bool) (i : Nat) : rdOf false U (i : Int) = U.getD i false := by simp [rdOf]
theorem kp_split : ∀ (C : List Int) (s j : Nat), j ≤ C.length → kp C s = kp (C.take j) s ++ kp (C.drop j) (s + j)
  | [], s, j, _ => by simp [kp]
  | c :: C, s, 0, _ => by simp [kp]
  | c :: C, s, j + 1, h => by
    have ih := kp_split C (s + 1) j (by simpa using h)
    rw [List.take_succ_cons, List.drop_succ_cons, kp, kp, show s + (j + 1) = s + 1 + j by omega]
    by_cases hc : lf c = true
    · rw [if_pos hc, if_pos hc, ih]
    · rw [if_neg hc, if_neg hc, ih]; rfl
theorem kp_dec : ∀ (C : List Int) (s : Nat) (x : Int), x ∈ kp C s → ∃ j, ∃ h : j < C.length, x = ((s + j : Nat) : Int) ∧ lf C[j] = false
  | [], _, _, h => by cases h
  | c :: C, s, x, h => by
    have ih := kp_dec C (s + 1) x
    rw [kp] at h
    by_cases hc : lf c = true
    · rw [if_pos hc] at h
      obtain ⟨j, h1, h2, h3⟩ := ih h
      exact ⟨j + 1, by simpa using h1, by omega, by simpa using h3⟩
    · rw [if_neg hc] at h
      rcases List.mem_cons.1 h with rfl | h
      · exact ⟨0, by simp, rfl, by simpa using Bool.eq_false_iff.mpr hc⟩
      · obtain ⟨j, h1, h2, h3⟩ := ih h
        exact ⟨j + 1, by simpa using h1, by omega, by simpa using h3⟩
theorem heads_ok (R : List (List Int)) (K : List Int) (n : Nat) (h : Rs R K n) : seq_Sequences.headsF R = true := by
  unfold seq_Sequences.headsF
  rw [List.all_eq_true]
  intro l hl
  obtain ⟨j, hj, rfl⟩ := List.getElem_of_mem hl
  have h1 := h.ne j hj
  have h2 := h.bd _ (hd_mem h j hj)
  have hn := h.nn
  have e : R.getD j [] = R[j] := by rw [List.getD_eq_getElem?_getD, List.getElem?_eq_getElem hj]; rfl
  rw [hd, e] at h2
  rw [e] at h1
  rw [Bool.and_eq_true, decide_eq_true_eq]
  exact ⟨h1, ok_bd h2.1 (by omega)⟩
theorem rns_len (L : List Int) : ∀ (K : List Int) (out : List (List Int)), (K.foldl (addR L) out).length ≤ out.length + K.length
  | [], _ => Nat.le_refl _
  | x :: K, out => by
    have h1 := rns_len L K (addR L out x)
    have h2 := addR_len (L := L) (out := out) x
    rw [List.foldl_cons, List.length_cons]
    omega
theorem rns_rs (L C : List Int) (hL : C.length ≤ 200) : Rs (rns L C) (kp C 0) C.length := by
  have h := rns_rn L C
  have hs := kp_sorted C 0
  have hlen := kp_len C 0
  have hg : ∀ j, (hj : j < (rns L C).length) → (rns L C).getD j [] = (rns L C)[j] := fun j hj => by rw [List.getD_eq_getElem?_getD, List.getElem?_eq_getElem hj]; rfl
  have hne : ∀ j, j < (rns L C).length → 0 < ((rns L C).getD j []).length := fun j hj => by
    rw [hg j hj]
    exact Nat.pos_of_ne_zero (fun e => h.ne _ (List.getElem_mem hj) (List.length_eq_zero_iff.1 e))
  refine ⟨hne, fun i j hij hj => ?_, fun j hj x hx => ?_, fun j hj => ?_, fun x hx => ?_, hL, ?_⟩
  · rw [← h.flat] at hs
    have hp := List.pairwise_iff_getElem.1 (List.pairwise_flatten.1 hs).2 i j (by omega) hj hij
    have h1 := hne i (by omega)
    have h2 := hne j hj
    rw [hg i (by omega)] at h1
    rw [hg j hj] at h2
    rw [hd, hd, hg i (by omega), hg j hj, show (0 : Int) = ((0 : Nat) : Int) from rfl, rd_nat _ 0 h1, rd_nat _ 0 h2]
    exact hp _ (List.getElem_mem h1) _ (List.getElem_mem h2)
  · rw [hg j hj] at hx
    exact rn_mem h _ (List.getElem_mem hj) x hx
  · rw [hg j hj]
    have := rn_len h _ (List.getElem_mem hj)
    omega
  · have := kp_mem C 0 x hx
    omega
  · have := rns_len L (kp C 0) []
    unfold rns
    simp at this
    omega
theorem iso_opn (c : Int) : isoB c = true ↔ opn c := by
  unfold isoB opn
  repeat' split
  all_goals simp_all
theorem awake_f (k : Nat) (hk : 60 ≤ k) : naskhlaw23_awake.f k = some true := by
  obtain ⟨m, rfl⟩ : ∃ m, k = 60 + m := ⟨k - 60, by omega⟩
  have h : naskhlaw23_awake.f 60 = some true := by decide +kernel
  clear hk
  induction m with
  | zero => exact h
  | succ m ih => exact naskhlaw23_awake.mono (60 + m) _ ih
def sid (c : Int) : Int × Bool := if c = 0 then (0, true) else if c = 1 then (1, true) else if c = 2 then (1, true) else (0, false)
theorem side_f (c : Int) : para_side.f c = some (sid c) := by
  unfold para_side.f sid
  repeat' split
  all_goals rfl
def fsl : List Int → Int → Int
  | [], _ => -1
  | c :: r, d => if opn c then fsl r (d + 1) else if c = 22 then (if (sid c).2 = true ∧ mx (d - 1) 0 = 0 then (sid c).1 else fsl r (mx (d - 1) 0)) else (if (sid c).2 = true ∧ d = 0 then (sid c).1 else fsl r d)
theorem mx_bd {d b : Int} (h0 : 0 ≤ d) (h1 : d ≤ b) : 0 ≤ mx (d - 1) 0 ∧ mx (d - 1) 0 ≤ b := by unfold mx; split <;> omega
theorem first_l0 (q : List Int) (hi : Nat) (hh : hi ≤ q.length) (hq : q.length ≤ 17592186043000) : ∀ (n k i : Nat) (d : Int), hi - i = n → n + 5 < k → 0 ≤ d → d ≤ (i : Int) →
    para_First.l0 k q (hi : Int) d (i : Int) = some (fsl ((q.take hi).drop i) d) := by
  intro n
  induction n with
  | zero =>
    intro k i d hn hk h0 h1
    obtain ⟨k, rfl⟩ : ∃ m, k = m + 1 := ⟨k - 1, by omega⟩
    rw [para_First.l0, if_neg (by omega), List.drop_eq_nil_of_le (by rw [List.length_take]; omega)]
    rfl
  | succ n ih =>
    intro k i d hn hk h0 h1
    obtain ⟨k, rfl⟩ : ∃ m, k = m + 1 := ⟨k - 1, by omega⟩
    have hlen : i < (q.take hi).length := by rw [List.length_take]; omega
    have hil : i < q.length := by omega
    have hcons : (q.take hi).drop i = q[i] :: (q.take hi).drop (i + 1) := by rw [List.drop_eq_getElem_cons hlen, List.getElem_take]
    have hdi : d ≤ 17592186043000 := by omega
    have hdi2 : (i : Int) ≤ 17592186043000 := by omega
    have hdi3 : d ≤ ((i + 1 : Nat) : Int) := by omega
    have hdi4 : d + 1 ≤ ((i + 1 : Nat) : Int) := by omega
    have hdi5 : 0 ≤ d + 1 := by omega
    have g1 : (i : Int) < (hi : Int) := by omega
    have g2 : (0 : Int) ≤ (i : Int) := by omega
    have g3 : (i : Int) < (q.length : Int) := by omega
    have gk : 4 ≤ k := by omega
    have gd : ¬ d + 1 = 0 := by omega
    have hmx := mx_bd (b := ((i + 1 : Nat) : Int)) h0 hdi3
    have hnext := fun d' h1 h2 => ih k (i + 1) d' (by omega) (by omega) h1 h2
    have w1 : wrap64 ((i : Int) + 1) = ((i + 1 : Nat) : Int) := (up1 g2 hdi2).trans (by omega)
    have w2 := up1 h0 hdi
    have w3 := dn1 h0 hdi
    have hr : rd q (i : Int) = q[i] := rd_nat q i hil
    rw [hcons]
    generalize (q.take hi).drop (i + 1) = rest at hnext ⊢
    generalize q[i] = c at hr ⊢
    have hun : para_First.l0 (k + 1) q (hi : Int) d (i : Int) = if opn c then (if (sid c).2 = true then (if d + 1 = 0 then some (sid c).1 else para_First.l0 k q (hi : Int) (d + 1) ((i + 1 : Nat) : Int)) else para_First.l0 k q (hi : Int) (d + 1) ((i + 1 : Nat) : Int)) else if c = 22 then (if (sid c).2 = true then (if mx (d - 1) 0 = 0 then some (sid c).1 else para_First.l0 k q (hi : Int) (mx (d - 1) 0) ((i + 1 : Nat) : Int)) else para_First.l0 k q (hi : Int) (mx (d - 1) 0) ((i + 1 : Nat) : Int)) else (if (sid c).2 = true then (if d = 0 then some (sid c).1 else para_First.l0 k q (hi : Int) d ((i + 1 : Nat) : Int)) else para_First.l0 k q (hi : Int) d ((i + 1 : Nat) : Int)) := by
      rw [para_First.l0, if_pos g1, if_pos g2, if_pos g3, hr, opens_f c k gk, Option.bind_some, side_f, Option.bind_some, w1, w2, w3]
      simp only [decide_eq_true_eq, Option.bind_some]
    rw [hun]
    have hfs : fsl (c :: rest) d = if opn c then fsl rest (d + 1) else if c = 22 then (if (sid c).2 = true ∧ mx (d - 1) 0 = 0 then (sid c).1 else fsl rest (mx (d - 1) 0)) else (if (sid c).2 = true ∧ d = 0 then (sid c).1 else fsl rest d) := rfl
    rw [hfs]
    clear hun hfs
    by_cases ho : opn c
    · have hs : (sid c).2 = false := by
        unfold opn at ho
        unfold sid
        rw [if_neg (by omega), if_neg (by omega), if_neg (by omega)]
      rw [if_pos ho, hs, if_neg (by simp), if_pos ho]
      exact hnext (d + 1) hdi5 hdi4
    · rw [if_neg ho, if_neg ho]
      by_cases h22 : c = 22
      · rw [if_pos h22, if_pos h22]
        by_cases hs : (sid c).2 = true
        · rw [if_pos hs]
          by_cases hz : mx (d - 1) 0 = 0
          · rw [if_pos hz, if_pos ⟨hs, hz⟩]
          · rw [if_neg hz, if_neg (fun h => hz h.2)]
            exact hnext _ hmx.1 hmx.2
        · rw [if_neg hs, if_neg (fun h => hs h.1)]
          exact hnext _ hmx.1 hmx.2
      · rw [if_neg h22, if_neg h22]
        by_cases hs : (sid c).2 = true
        · rw [if_pos hs]
          by_cases hz : d = 0
          · rw [if_pos hz, if_pos ⟨hs, hz⟩]
          · rw [if_neg hz, if_neg (fun h => hz h.2)]
            exact hnext d h0 hdi3
        · rw [if_neg hs, if_neg (fun h => hs h.1)]
          exact hnext d h0 hdi3
theorem first_f (q : List Int) (a b : Int) (hq : q.length ≤ 17592186043000) (k : Nat) (hk : q.length + 5 < k) : para_First.f k q a b = some (fsl ((q.take (mn b (q.length : Int)).toNat).drop (mx a 0).toNat) 0) := by
  unfold para_First.f
  have hl : 0 ≤ mx a 0 := by unfold mx; split <;> omega
  have hh : mn b (q.length : Int) ≤ (q.length : Int) := by unfold mn; split <;> omega
  obtain ⟨lo, elo⟩ : ∃ lo : Nat, mx a 0 = (lo : Int) := ⟨(mx a 0).toNat, by omega⟩
  rw [elo]
  by_cases hlt : (lo : Int) < mn b (q.length : Int)
  · obtain ⟨hi, ehi⟩ : ∃ hi : Nat, mn b (q.length : Int) = (hi : Int) := ⟨(mn b (q.length : Int)).toNat, by omega⟩
    rw [ehi] at hh ⊢
    rw [Int.toNat_natCast, Int.toNat_natCast]
    exact first_l0 q hi (by omega) hq (hi - lo) k lo 0 rfl (by omega) (by omega) (by omega)
  · obtain ⟨k, rfl⟩ : ∃ m, k = m + 1 := ⟨k - 1, by omega⟩
    rw [para_First.l0, if_neg hlt, Int.toNat_natCast, List.drop_eq_nil_of_le (by rw [List.length_take]; omega)]
    rfl
abbrev Ex := explicit_Levels.Ex
theorem go_some (q : List Int) (bs : Int) (hq : q.length ≤ 17592186043000) (k : Nat) (hk : q.length + 5 < k) (Inv : Nat → Ex → Prop)
    (hstep : ∀ (i : Nat) (s : Ex), i < q.length → Inv i s → ∃ s', explicit_Levels.step k q (mat q) bs i s = some s' ∧ Inv (i + 1) s') : ∀ (n : Nat) (s : Ex), n ≤ q.length → Inv (q.length - n) s → ∃ s', explicit_Levels.go k q (mat q) bs n s = some s' ∧ Inv q.length s'
  | 0, s, hn, h => ⟨s, rfl, h⟩
  | n + 1, s, hn, h => by
    obtain ⟨s', h1, h2⟩ := hstep (q.length - (n + 1)) s (by omega) h
    rw [show q.length - (n + 1) + 1 = q.length - n by omega] at h2
    obtain ⟨s2, h3, h4⟩ := go_some q bs hq k hk Inv hstep n s' (by omega) h2
    exact ⟨s2, by rw [explicit_Levels.go, h1]; exact h3, h4⟩
theorem levels_f (q : List Int) (lv : Int) (hq : q.length ≤ 17592186043000) (k : Nat) (hk : q.length + 5 < k) (Inv : Nat → Ex → Prop) (h0 : Inv 0 (explicit_Levels.s0 (mn (mx lv 0) 1)))
    (hstep : ∀ (i : Nat) (s : Ex), i < q.length → Inv i s → ∃ s', explicit_Levels.step k q (mat q) (mn (mx lv 0) 1) i s = some s' ∧ Inv (i + 1) s') : ∃ s, explicit_Levels.f k q lv = some (s.L, s.T) ∧ Inv q.length s := by
  unfold explicit_Levels.f
  rw [matches_f q hq k hk, Option.bind_some, if_pos hq]
  obtain ⟨s, h1, h2⟩ := go_some q (mn (mx lv 0) 1) (by omega) k hk Inv hstep q.length _ (Nat.le_refl _) (by rw [Nat.sub_self]; exact h0)
  exact ⟨s, by rw [h1]; rfl, h2⟩
theorem base_bd (lv : Int) : 0 ≤ mn (mx lv 0) 1 ∧ mn (mx lv 0) 1 ≤ 1 := by
  unfold mn mx
  repeat' split
  all_goals omega
def Iv : List Stk.Ent → List (List Stk.Ent) → Prop
  | l, [] => 0 < l.length ∧ ∀ x ∈ l, x.iso = false
  | l, p :: D => (∃ (e : Stk.Ent) (t : List Stk.Ent), l = p ++ e :: t ∧ e.iso = true ∧ ∀ x ∈ t, x.iso = false) ∧ Iv p D
theorem Iv.pos : ∀ {l : List Stk.Ent} {D : List (List Stk.Ent)}, Iv l D → 0 < l.length
  | _, [], h => h.1
  | _, p :: D, ⟨⟨e, t, h, _⟩, _⟩ => by rw [h, List.length_append, List.length_cons]; omega
theorem Iv.put {l : List Stk.Ent} {D : List (List Stk.Ent)} (h : Iv l D) (x : Stk.Ent) (hx : x.iso = false) : Iv (l ++ [x]) D := by
  cases D with
  | nil =>
    refine ⟨by simp, fun y hy => ?_⟩
    rcases List.mem_append.1 hy with h1 | h1
    · exact h.2 y h1
    · rw [List.mem_singleton] at h1; rw [h1]; exact hx
  | cons p D =>
    obtain ⟨⟨e, t, h1, h2, h3⟩, h4⟩ := h
    refine ⟨⟨e, t ++ [x], by rw [h1]; simp, h2, fun y hy => ?_⟩, h4⟩
    rcases List.mem_append.1 hy with h5 | h5
    · exact h3 y h5
    · rw [List.mem_singleton] at h5; rw [h5]; exact hx
theorem top_last (l : List Stk.Ent) (x : Stk.Ent) : Stk.topE (l ++ [x]) = x := Stk.topE_snoc l x
theorem snoc_of {α : Type} : ∀ (l : List α), 0 < l.length → ∃ a x, l = a ++ [x]
  | [], h => absurd h (Nat.lt_irrefl 0)
  | x :: l, _ => by
    cases l with
    | nil => exact ⟨[], x, rfl⟩
    | cons y l =>
      obtain ⟨a, z, h⟩ := snoc_of (y :: l) (by simp)
      exact ⟨x :: a, z, by rw [h]; rfl⟩
theorem take_snoc {α : Type} (a : List α) (x : α) : (a ++ [x]).take ((a ++ [x]).length - 1) = a := by simp
theorem Iv.ee {l : List Stk.Ent} {D : List (List Stk.Ent)} (h : Iv l D) (hn : ¬ (Stk.topE l).iso = true) : Iv (Stk.popE l) D := by
  unfold Stk.popE
  by_cases h2 : 2 ≤ l.length
  · rw [if_pos h2]
    cases D with
    | nil =>
      obtain ⟨a, x, rfl⟩ := snoc_of l h.1
      rw [take_snoc]
      exact ⟨by simp at h2; omega, fun y hy => h.2 y (List.mem_append_left _ hy)⟩
    | cons p D =>
      obtain ⟨⟨e, t, rfl, h3, h4⟩, h5⟩ := h
      by_cases ht : t.length = 0
      · obtain rfl := List.length_eq_zero_iff.1 ht
        exact absurd (by rw [top_last]; exact h3) hn
      · obtain ⟨a, x, rfl⟩ := snoc_of t (by omega)
        refine ⟨⟨e, a, ?_, h3, fun y hy => h4 y (List.mem_append_left _ hy)⟩, h5⟩
        rw [show p ++ e :: (a ++ [x]) = (p ++ e :: a) ++ [x] by simp, take_snoc]
  · rw [if_neg h2]; exact h
theorem drop_iso (p : List Stk.Ent) (e : Stk.Ent) (he : e.iso = true) : ∀ (n : Nat) (t : List Stk.Ent), t.length < n → (∀ x ∈ t, x.iso = false) → Stk.dropI n (p ++ e :: t) = p ++ [e]
  | 0, _, h, _ => absurd h (Nat.not_lt_zero _)
  | n + 1, t, hn, ht => by
    unfold Stk.dropI
    by_cases h0 : t.length = 0
    · obtain rfl := List.length_eq_zero_iff.1 h0
      rw [if_pos (by rw [top_last]; exact he)]
    · obtain ⟨a, x, rfl⟩ := snoc_of t (by omega)
      have e1 : p ++ e :: (a ++ [x]) = (p ++ e :: a) ++ [x] := by simp
      rw [if_neg (by rw [e1, top_last, ht x (by simp)]; decide), if_pos (by simp; omega), e1, take_snoc]
      exact drop_iso p e he n a (by simp at hn; omega) (fun y hy => ht y (List.mem_append_left _ hy))
theorem Iv.ei {l p : List Stk.Ent} {D : List (List Stk.Ent)} (h : Iv l (p :: D)) : Stk.popE (Stk.dropI l.length l) = p := by
  obtain ⟨⟨e, t, rfl, h2, h3⟩, h4⟩ := h
  have hp := h4.pos
  rw [drop_iso p e h2 _ t (by simp; omega) h3]
  unfold Stk.popE
  rw [if_pos (by simp; omega), take_snoc]
def Zp (L : List Int) : List Nat → List (List Stk.Ent) → Prop
  | [], [] => True
  | j :: O, p :: D => L.getD j 0 = (Stk.topE p).lv ∧ Zp L O D
  | _, _ => False
theorem Zp.len {L : List Int} : ∀ {O : List Nat} {D : List (List Stk.Ent)}, Zp L O D → O.length = D.length
  | [], [], _ => rfl
  | j :: O, p :: D, h => by rw [List.length_cons, List.length_cons, Zp.len h.2]
theorem getD_app (L : List Int) (x : Int) (j : Nat) (h : j < L.length) : (L ++ [x]).getD j 0 = L.getD j 0 := by
  rw [List.getD_eq_getElem?_getD, List.getD_eq_getElem?_getD, List.getElem?_append_left h]
theorem Zp.app {L : List Int} (x : Int) : ∀ {O : List Nat} {D : List (List Stk.Ent)}, Zp L O D → (∀ j ∈ O, j < L.length) → Zp (L ++ [x]) O D
  | [], [], _, _ => trivial
  | j :: O, p :: D, h, hb => ⟨by rw [getD_app L x j (hb j (by simp))]; exact h.1, Zp.app x h.2 (fun k hk => hb k (by simp [hk]))⟩
structure Iq (q : List Int) (i : Nat) (L : List Int) (a c : Int) (l : List Stk.Ent) (O1 O2 : List Nat) (D : List (List Stk.Ent)) : Prop where
  len : L.length = i
  a_ : a = (O1.length : Int)
  c_ : c = (D.length : Int)
  sm : O1.length + D.length ≤ i
  o1 : ∀ j ∈ O1, L.getD j 0 = (Stk.topE l).lv
  o2 : Zp L O2 D
  lt : ∀ j ∈ O1 ++ O2, j < i
  iv : Iv l D
  cl : ∀ t, t < (O1 ++ O2).length → clo q ((O1 ++ O2).getD t 0) = i + cls (q.drop i) t
  dn : ∀ j, j < i → opn (q.getD j 0) → j ∈ O1 ++ O2 ∨ (clo q j < i ∧ L.getD (clo q j) 0 = L.getD j 0)
def Iw (q : List Int) (i : Nat) (L : List Int) (a c : Int) (l : List Stk.Ent) : Prop := ∃ O1 O2 D, Iq q i L a c l O1 O2 D
section
variable {q : List Int} {i : Nat} {L : List Int} {a b c : Int} {l : List Stk.Ent}
theorem drop_at (hi : i < q.length) : q.drop i = q.getD i 0 :: q.drop (i + 1) := by
  rw [List.drop_eq_getElem_cons hi, List.getD_eq_getElem?_getD, List.getElem?_eq_getElem hi]; rfl
theorem iw_l (h : Iw q i L a c l) (hi : i < q.length) (ho : ¬ opn (q.getD i 0)) (h22 : ¬ q.getD i 0 = 22) (x : Int) {l' : List Stk.Ent} (ha : 0 < a → l' = l) (hl : ∀ D, Iv l D → Iv l' D) : Iw q (i + 1) (L ++ [x]) a c l' := by
  obtain ⟨O1, O2, D, h⟩ := h
  have hlen := h.len
  refine ⟨O1, O2, D, by rw [List.length_append, hlen]; rfl, h.a_, h.c_, by have := h.sm; omega, fun j hj => ?_, h.o2.app x (fun j hj => by rw [hlen]; exact h.lt j (List.mem_append_right _ hj)), fun j hj => by have := h.lt j hj; omega, hl D h.iv, fun t ht => ?_, fun j hj hjo => ?_⟩
  · have hlt := h.lt j (List.mem_append_left _ hj)
    rw [getD_app L x j (by omega), ha (by rw [h.a_]; have := List.length_pos_of_mem hj; omega)]
    exact h.o1 j hj
  · rw [h.cl t ht, drop_at hi, cls, if_neg ho, if_neg h22]; omega
  · have hji : j ≠ i := fun e => by subst e; exact ho hjo
    rcases h.dn j (by omega) hjo with h1 | ⟨h1, h2⟩
    · exact .inl h1
    · exact .inr ⟨by omega, by rw [getD_app L x _ (by omega), getD_app L x _ (by omega)]; exact h2⟩
theorem iw_emb (h : Iw q i L a c l) (hi : i < q.length) (ho : ¬ opn (q.getD i 0)) (h22 : ¬ q.getD i 0 = 22) (x : Int) (r : Bool) (ov : Int) : Iw q (i + 1) (L ++ [x]) a c (Stk.embL a b l r ov) := by
  refine iw_l h hi ho h22 x (fun ha => ?_) (fun D hD => ?_)
  · unfold Stk.embL Stk.okB
    rw [if_neg (by simp; intro h1; omega)]
  · unfold Stk.embL
    split
    · exact hD.put _ rfl
    · exact hD
theorem iw_ee (h : Iw q i L a c l) (hi : i < q.length) (ho : ¬ opn (q.getD i 0)) (h22 : ¬ q.getD i 0 = 22) (x : Int) : Iw q (i + 1) (L ++ [x]) a c (Stk.eeL a b l) := by
  refine iw_l h hi ho h22 x (fun ha => ?_) (fun D hD => ?_)
  · unfold Stk.eeL; rw [if_pos ha]
  · unfold Stk.eeL
    split
    · exact hD
    · split
      · exact hD
      · split
        · exact hD
        · rename_i hn; exact hD.ee hn
theorem iw_same (h : Iw q i L a c l) (hi : i < q.length) (ho : ¬ opn (q.getD i 0)) (h22 : ¬ q.getD i 0 = 22) (x : Int) : Iw q (i + 1) (L ++ [x]) a c l := iw_l h hi ho h22 x (fun _ => rfl) (fun _ h => h)
theorem iw_iso (h : Iw q i L a c l) (hi : i < q.length) (hq : q.length ≤ 1000) (ho : opn (q.getD i 0)) (r : Bool) : Iw q (i + 1) (L ++ [(Stk.topE l).lv]) (Stk.isoA a b l r) (Stk.isoC a b c l r) (Stk.isoL a b l r) := by
  obtain ⟨O1, O2, D, h⟩ := h
  have hlen := h.len
  have hsm := h.sm
  have ha := h.a_
  have hc := h.c_
  have hgi : (L ++ [(Stk.topE l).lv]).getD i 0 = (Stk.topE l).lv := by
    rw [List.getD_eq_getElem?_getD, List.getElem?_append_right (by omega), hlen, Nat.sub_self]; rfl
  have hcl : ∀ t, t < (i :: (O1 ++ O2)).length → clo q ((i :: (O1 ++ O2)).getD t 0) = i + 1 + cls (q.drop (i + 1)) t := fun t ht => by
    cases t with
    | zero => rfl
    | succ t =>
      rw [List.getD_cons_succ, h.cl t (by simpa using ht), drop_at hi, cls, if_pos ho]; omega
  have hdn : ∀ j, j < i + 1 → opn (q.getD j 0) → j ∈ i :: (O1 ++ O2) ∨ (clo q j < i + 1 ∧ (L ++ [(Stk.topE l).lv]).getD (clo q j) 0 = (L ++ [(Stk.topE l).lv]).getD j 0) := fun j hj hjo => by
    by_cases hji : j = i
    · exact .inl (by rw [hji]; simp)
    · rcases h.dn j (by omega) hjo with h1 | ⟨h1, h2⟩
      · exact .inl (List.mem_cons_of_mem _ h1)
      · exact .inr ⟨by omega, by rw [getD_app L _ _ (by omega), getD_app L _ _ (by omega)]; exact h2⟩
  have hlt : ∀ j ∈ i :: (O1 ++ O2), j < i + 1 := fun j hj => by
    rcases List.mem_cons.1 hj with h1 | h1
    · omega
    · have := h.lt j h1; omega
  by_cases hok : Stk.okB a b l r = true
  · have ha0 : O1.length = 0 := by
      unfold Stk.okB at hok
      simp at hok
      omega
    obtain rfl := List.length_eq_zero_iff.1 ha0
    unfold Stk.isoA Stk.isoC Stk.isoL
    rw [if_pos hok, if_pos hok, if_pos hok]
    refine ⟨[], i :: O2, l :: D, by rw [List.length_append, hlen]; rfl, ha, ?_, by simp at hsm ⊢; omega, fun j hj => (by cases hj), ⟨hgi, h.o2.app _ (fun j hj => by rw [hlen]; exact h.lt j (by simpa using hj))⟩, hlt, ⟨⟨_, [], rfl, rfl, fun x hx => (by cases hx)⟩, h.iv⟩, hcl, hdn⟩
    rw [hc, w64 (by omega) (by omega), List.length_cons]; omega
  · unfold Stk.isoA Stk.isoC Stk.isoL
    rw [if_neg hok, if_neg hok, if_neg hok]
    refine ⟨i :: O1, O2, D, by rw [List.length_append, hlen]; rfl, ?_, hc, by simp; omega, fun j hj => ?_, h.o2.app _ (fun j hj => by rw [hlen]; exact h.lt j (List.mem_append_right _ hj)), hlt, h.iv, hcl, hdn⟩
    · rw [ha, w64 (by omega) (by omega), List.length_cons]; omega
    · rcases List.mem_cons.1 hj with h1 | h1
      · rw [h1]; exact hgi
      · have := h.lt j (List.mem_append_left _ h1)
        rw [getD_app L _ j (by omega)]; exact h.o1 j h1
theorem iw_ei (h : Iw q i L a c l) (hi : i < q.length) (hq : q.length ≤ 1000) (h22 : q.getD i 0 = 22) : Iw q (i + 1) (L ++ [(Stk.topE (Stk.eiL a c l)).lv]) (Stk.eiA a) (Stk.eiC a c) (Stk.eiL a c l) := by
  have ho : ¬ opn (q.getD i 0) := by rw [h22]; decide
  obtain ⟨O1, O2, D, h⟩ := h
  have hlen := h.len
  have hsm := h.sm
  have ha := h.a_
  have hc := h.c_
  have hzl := h.o2.len
  have hgi : ∀ x : Int, (L ++ [x]).getD i 0 = x := fun x => by
    rw [List.getD_eq_getElem?_getD, List.getElem?_append_right (by omega), hlen, Nat.sub_self]; rfl
  have hcl0 : ∀ (t : Nat), cls (q.drop i) (t + 1) = cls (q.drop (i + 1)) t + 1 := fun t => by rw [drop_at hi, cls, if_neg ho, if_pos h22, if_neg (by omega), Nat.add_sub_cancel]
  have hcl1 : cls (q.drop i) 0 = 0 := by rw [drop_at hi, cls, if_neg ho, if_pos h22, if_pos rfl]
  have close : ∀ (j0 : Nat) (O1' O2' : List Nat) (x : Int), O1 ++ O2 = j0 :: (O1' ++ O2') → L.getD j0 0 = x → (∀ j, j < i + 1 → opn (q.getD j 0) → j ∈ O1' ++ O2' ∨ (clo q j < i + 1 ∧ (L ++ [x]).getD (clo q j) 0 = (L ++ [x]).getD j 0)) ∧ (∀ t, t < (O1' ++ O2').length → clo q ((O1' ++ O2').getD t 0) = i + 1 + cls (q.drop (i + 1)) t) := fun j0 O1' O2' x hO hx => by
    have hj0 : clo q j0 = i := by
      have := h.cl 0 (by rw [hO]; simp)
      rw [hO, List.getD_cons_zero, hcl1] at this
      exact this
    have hj0i : j0 < i := h.lt j0 (by rw [hO]; simp)
    refine ⟨fun j hj hjo => ?_, fun t ht => ?_⟩
    · have hji : j ≠ i := fun e => by subst e; exact ho hjo
      rcases h.dn j (by omega) hjo with h1 | ⟨h1, h2⟩
      · rw [hO] at h1
        rcases List.mem_cons.1 h1 with h1 | h1
        · subst h1
          refine .inr ⟨by omega, ?_⟩
          rw [hj0, hgi, getD_app L x _ (by omega), hx]
        · exact .inl h1
      · exact .inr ⟨by omega, by rw [getD_app L x _ (by omega), getD_app L x _ (by omega)]; exact h2⟩
    · have := h.cl (t + 1) (by rw [hO]; simpa using ht)
      rw [hO, List.getD_cons_succ, hcl0] at this
      rw [this]; omega
  cases hO1 : O1 with
  | cons j0 O1' =>
    rw [hO1] at ha hsm close
    rw [List.length_cons] at ha hsm
    have hap : 0 < a := by omega
    unfold Stk.eiA Stk.eiC Stk.eiL
    rw [if_pos hap, if_pos hap, if_pos hap]
    obtain ⟨k1, k2⟩ := close j0 O1' O2 (Stk.topE l).lv rfl (h.o1 j0 (by rw [hO1]; simp))
    refine ⟨O1', O2, D, by rw [List.length_append, hlen]; rfl, by rw [ha, w64 (by omega) (by omega)]; omega, hc, by omega, fun j hj => ?_, h.o2.app _ (fun j hj => by rw [hlen]; exact h.lt j (List.mem_append_right _ hj)), fun j hj => ?_, h.iv, k2, k1⟩
    · have hlt := h.lt j (by rw [hO1]; exact List.mem_append_left _ (List.mem_cons_of_mem _ hj))
      rw [getD_app L _ j (by omega)]
      exact h.o1 j (by rw [hO1]; exact List.mem_cons_of_mem _ hj)
    · have := h.lt j (by rw [hO1, List.cons_append]; exact List.mem_cons_of_mem _ hj)
      omega
  | nil =>
    rw [hO1] at ha hsm close
    rw [List.length_nil] at ha hsm
    have hna : ¬ 0 < a := by rw [ha]; simp
    unfold Stk.eiA Stk.eiC Stk.eiL
    rw [if_neg hna, if_neg hna, if_neg hna]
    cases hD : D with
    | nil =>
      rw [hD] at hc hzl
      have hO2 : O2 = [] := List.length_eq_zero_iff.1 hzl
      have hnc : ¬ 0 < c := by rw [hc]; simp
      rw [if_neg hnc, if_neg hnc]
      refine ⟨[], [], [], by rw [List.length_append, hlen]; rfl, ha, hc, by simp, fun j hj => (by cases hj), trivial, fun j hj => (by cases hj), hD ▸ h.iv, fun t ht => absurd ht (Nat.not_lt_zero _), fun j hj hjo => ?_⟩
      have hji : j ≠ i := fun e => by subst e; exact ho hjo
      rcases h.dn j (by omega) hjo with h1 | ⟨h1, h2⟩
      · rw [hO1, hO2] at h1; cases h1
      · exact .inr ⟨by omega, by rw [getD_app L _ _ (by omega), getD_app L _ _ (by omega)]; exact h2⟩
    | cons p D' =>
      have hz := h.o2
      have hiv := h.iv
      rw [hD] at hc hzl hz hiv hsm
      rw [List.length_cons] at hc hzl hsm
      cases hO2 : O2 with
      | nil => rw [hO2] at hzl; simp at hzl
      | cons j0 O2' =>
        rw [hO2] at hz close
        have hcp : 0 < c := by omega
        rw [if_pos hcp, if_pos hcp, hiv.ei]
        obtain ⟨k1, k2⟩ := close j0 [] O2' (Stk.topE p).lv rfl hz.1
        refine ⟨[], O2', D', by rw [List.length_append, hlen]; rfl, ha, by rw [hc, w64 (by omega) (by omega)]; omega, by simp; omega, fun j hj => (by cases hj), hz.2.app _ (fun j hj => by rw [hlen]; exact h.lt j (by rw [hO1, hO2]; exact List.mem_cons_of_mem _ hj)), fun j hj => ?_, hiv.2, k2, k1⟩
        have := h.lt j (by rw [hO1, hO2]; exact List.mem_cons_of_mem _ hj)
        omega
end
def rem : List (List Int) → List Bool → List Int
  | l :: R, b :: U => (if b = true then [] else l) ++ rem R U
  | _, _ => []
theorem rem_set (x : Int) : ∀ (R : List (List Int)) (U : List Bool) (i : Nat), U.length = R.length → i < R.length → U.getD i false = false → (rem R U).count x = (R.getD i []).count x + (rem R (U.set i true)).count x
  | l :: R, b :: U, 0, hl, hi, hu => by
    rw [List.getD_cons_zero] at hu
    subst hu
    rw [List.getD_cons_zero, List.set_cons_zero, rem, rem, List.count_append, if_neg (by decide), if_pos rfl, List.nil_append]
  | l :: R, b :: U, i + 1, hl, hi, hu => by
    rw [List.getD_cons_succ] at hu
    rw [List.getD_cons_succ, List.set_cons_succ, rem, rem, List.count_append, List.count_append, rem_set x R U i (by simpa using hl) (by simpa using hi) hu]
    omega
theorem rem_none : ∀ (R : List (List Int)) (U : List Bool), U.length = R.length → (∀ j, j < R.length → U.getD j false = true) → rem R U = []
  | [], _, _, _ => by simp [rem]
  | l :: R, [], h, _ => by simp at h
  | l :: R, b :: U, hl, h => by
    have h0 := h 0 (by simp)
    rw [List.getD_cons_zero] at h0
    rw [rem, if_pos h0, List.nil_append]
    exact rem_none R U (by simpa using hl) (fun j hj => by have := h (j + 1) (by simpa using hj); rwa [List.getD_cons_succ] at this)
theorem rem_all : ∀ (R : List (List Int)), rem R (List.replicate R.length false) = R.flatten
  | [] => rfl
  | l :: R => by rw [List.length_cons, List.replicate_succ, rem, if_neg (by decide), rem_all R, List.flatten_cons]
theorem chain_cov (R : List (List Int)) (K B M L : List Int) (h : Rs R K B.length) (hM : M.length = B.length) (hmm : ∀ y : Int, 0 ≤ y → y < (B.length : Int) → isoB (rd B y) = true → 0 ≤ rd M y ∧ rd M y ≤ (B.length : Int))
    (hrun : ∀ j, j < R.length → ∀ x ∈ R.getD j [], rd L x = rd L (hd R j)) (hlev : ∀ y : Int, 0 ≤ y → y < (B.length : Int) → isoB (rd B y) = true → rd M y < (B.length : Int) → rd L (rd M y) = rd L y) (v : Int) :
    ∀ (m n : Nat) (U : List Bool) (g : Int → Option (List Int)) (i : Nat) (at_ : List Int), cf U = m → RelG R g U → i < R.length → U.getD i false = false → (i = 0 ∨ U.getD 0 false = true) → m < n → at_.length + 200 * m ≤ 40200 → (∀ x ∈ at_, x ∈ K ∧ rd L x = v) → rd L (hd R i) = v →
      ∃ g' U' at', chainF B M n g (R.getD i []) at_ = some (g', at') ∧ RelG R g' U' ∧ U'.getD 0 false = true ∧ (∀ x ∈ at', x ∈ K ∧ rd L x = v) ∧ 0 < at'.length ∧ at'.length ≤ 40200 ∧ U'.getD i false = true ∧ (∀ j, U.getD j false = true → U'.getD j false = true) ∧ ∀ x, at'.count x + (rem R U').count x = at_.count x + (rem R U).count x := by
  intro m
  induction m with
  | zero =>
    intro n U g i at_ hc hr hi hu h0 hn hl hk2 hv
    have := cf_set U i (by rw [hr.len]; exact hi) hu
    omega
  | succ m ih =>
    intro n U g i at_ hc hr hi hu h0 hn hl hk2 hv
    obtain ⟨n, rfl⟩ : ∃ q, n = q + 2 := ⟨n - 2, by omega⟩
    have hcs := cf_set U i (by rw [hr.len]; exact hi) hu
    have hr1 := rel_step h hr hi
    have hne := h.ne i hi
    have hll := h.len i hi
    have hb := h.nn
    have hhd := h.bd _ (hd_mem h i hi)
    have hy0 := lastL_app at_ (R.getD i []) hne
    have hy1 := h.mem i hi _ hy0
    have hy := h.bd _ hy1
    have hyl : rd L (lastL (at_ ++ R.getD i [])) = v := (hrun i hi _ hy0).trans hv
    have hu0 : (U.set i true).getD 0 false = true := by
      rw [getD_set_b U i 0 (by rw [hr.len]; omega)]
      rcases h0 with h0 | h0
      · rw [if_pos h0]
      · split
        · rfl
        · exact h0
    have hui : (U.set i true).getD i false = true := by rw [getD_set_b U i i (by rw [hr.len]; omega), if_pos rfl]
    have humono : ∀ j, U.getD j false = true → (U.set i true).getD j false = true := fun j hj => by
      have hjl : j < U.length := by
        rcases Nat.lt_or_ge j U.length with h1 | h1
        · exact h1
        · rw [List.getD_eq_getElem?_getD, List.getElem?_eq_none h1] at hj; cases hj
      rw [getD_set_b U i j hjl]
      split
      · rfl
      · exact hj
    have hmem : ∀ x ∈ at_ ++ R.getD i [], x ∈ K ∧ rd L x = v := fun x hx => by
      rcases List.mem_append.1 hx with h1 | h1
      · exact hk2 x h1
      · exact ⟨h.mem i hi x h1, (hrun i hi x h1).trans hv⟩
    have hlen : (at_ ++ R.getD i []).length = at_.length + (R.getD i []).length := List.length_append
    have hcnt : ∀ x, (at_ ++ R.getD i []).count x + (rem R (U.set i true)).count x = at_.count x + (rem R U).count x := fun x => by
      rw [rem_set x R U i hr.len hi hu, List.count_append]; omega
    have hnx : 0 ≤ nxtF B M (lastL (at_ ++ R.getD i [])) ∧ nxtF B M (lastL (at_ ++ R.getD i [])) ≤ (B.length : Int) := by
      unfold nxtF
      split
      · rename_i hi2; exact hmm _ hy.1 hy.2 hi2
      · omega
    have hF : chainF B M (n + 2) g (R.getD i []) at_ = match gdel g (hd R i) (nxtF B M (lastL (at_ ++ R.getD i []))) with
        | none => some (gdel g (hd R i), at_ ++ R.getD i [])
        | some l => chainF B M (n + 1) (gdel g (hd R i)) l (at_ ++ R.getD i []) := by
      rw [chainF, if_pos hne, if_pos (ok_bd hhd.1 (by omega)), if_pos (by omega), if_pos hy.1, if_pos hy.2, if_pos (by omega), if_pos (ok_bd hnx.1 (by omega))]
      cases gdel g (rd (R.getD i []) 0) (nxtF B M (lastL (at_ ++ R.getD i []))) <;> rfl
    by_cases hex : ∃ j, j < R.length ∧ hd R j = nxtF B M (lastL (at_ ++ R.getD i [])) ∧ (U.set i true).getD j false = false
    · obtain ⟨j, hj, hj2, hu1⟩ := hex
      have hgj := hr1.at_ j hj
      rw [hj2, hu1, if_neg (by decide)] at hgj
      have hvj : rd L (hd R j) = v := by
        unfold nxtF at hj2
        by_cases hiso : isoB (rd B (lastL (at_ ++ R.getD i []))) = true
        · rw [if_pos hiso] at hj2
          have := h.bd _ (hd_mem h j hj)
          rw [hj2, hlev _ hy.1 hy.2 hiso (by omega)]
          exact hyl
        · rw [if_neg hiso] at hj2
          exfalso
          by_cases hj0 : j = 0
          · subst hj0; rw [hu0] at hu1; cases hu1
          · have h1 := h.up 0 j (by omega) hj
            have h2 := h.bd _ (hd_mem h 0 (by omega))
            omega
      obtain ⟨g', U', at', k1, k2, k3, k4, k5, k6, k7, k8, k9⟩ := ih (n + 1) (U.set i true) (gdel g (hd R i)) j (at_ ++ R.getD i []) (by omega) hr1 hj hu1 (.inr hu0) (by omega) (by omega) hmem hvj
      exact ⟨g', U', at', by rw [hF, hgj]; exact k1, k2, k3, k4, k5, k6, k8 i hui, fun j hj => k8 j (humono j hj), fun x => by rw [k9 x, hcnt x]⟩
    · have hg : gdel g (hd R i) (nxtF B M (lastL (at_ ++ R.getD i []))) = none := by
        by_cases hex2 : ∃ j, j < R.length ∧ hd R j = nxtF B M (lastL (at_ ++ R.getD i []))
        · obtain ⟨j, hj, hj2⟩ := hex2
          have hgj := hr1.at_ j hj
          have hu1 : (U.set i true).getD j false = true := by
            cases hb2 : (U.set i true).getD j false
            · exact absurd ⟨j, hj, hj2, hb2⟩ hex
            · rfl
          rw [hj2, hu1, if_pos rfl] at hgj
          exact hgj
        · exact hr1.off _ (fun j hj e => hex2 ⟨j, hj, e⟩)
      exact ⟨gdel g (hd R i), U.set i true, at_ ++ R.getD i [], by rw [hF, hg], hr1, hu0, hmem, by omega, by omega, hui, humono, hcnt⟩
theorem near_some (L K : List Int) (bs m : Int) (hm : ∀ x ∈ K, 0 ≤ x ∧ x < (L.length : Int)) : ∃ v, nearF L K bs m = some v := by
  unfold nearF
  by_cases h1 : m < 0
  · exact ⟨_, if_pos h1⟩
  · rw [if_neg h1]
    by_cases h2 : m < (K.length : Int)
    · obtain ⟨j, rfl⟩ : ∃ j : Nat, m = (j : Int) := ⟨m.toNat, by omega⟩
      have := hm (rd K (j : Int)) (by rw [rd_nat K j (by omega)]; exact List.getElem_mem _)
      rw [if_pos h2, if_pos this.1, if_pos this.2]
      exact ⟨_, rfl⟩
    · rw [if_neg h2]; exact ⟨_, rfl⟩
theorem seq_some (L K B M : List Int) (bs : Int) (hm : ∀ x ∈ K, 0 ≤ x ∧ x < (L.length : Int)) (hL : L.length ≤ 200) (hB : B.length = L.length) (hM : M.length = B.length) (at_ : List Int) (h0 : 0 < at_.length) (ha : ∀ x ∈ at_, x ∈ K) : ∃ s, seq_Sequences.seqF L B M K bs at_ = some s ∧ s.f0 = at_ ∧ s.f1 = rd L (rd at_ 0) := by
  have hx := hm _ (ha _ (show rd at_ 0 ∈ at_ by rw [show (0 : Int) = ((0 : Nat) : Int) from rfl, rd_nat _ 0 h0]; exact List.getElem_mem h0))
  have hy := hm _ (ha _ (show lastL at_ ∈ at_ by have := lastL_app [] at_ h0; rwa [List.nil_append] at this))
  obtain ⟨v1, e1⟩ := near_some L K bs (wrap64 (rkI K K.length (rd at_ 0) + -1)) hm
  obtain ⟨v2, e2⟩ := near_some L K bs (wrap64 (rkI K K.length (lastL at_) + 1)) hm
  unfold seq_Sequences.seqF
  rw [if_pos h0, if_pos hx.1, if_pos hx.2, if_pos hy.1, if_pos hy.2, if_pos (by omega), if_pos (by omega), if_pos (ok_bd hx.1 (by omega)), if_pos (ok_bd hy.1 (by omega)), e1, Option.bind_some, e2, Option.bind_some]
  exact ⟨_, rfl, rfl, rfl⟩
def alls : List S42 → List Int
  | [] => []
  | s :: r => s.f0 ++ alls r
theorem alls_snoc (s : S42) : ∀ r : List S42, alls (r ++ [s]) = alls r ++ s.f0
  | [] => by simp [alls]
  | t :: r => by rw [List.cons_append, alls, alls, alls_snoc s r, List.append_assoc]
theorem go_cov (L K B M : List Int) (bs : Int) (R : List (List Int)) (h : Rs R K B.length) (hL : L.length = B.length) (hM : M.length = B.length) (hmm : ∀ y : Int, 0 ≤ y → y < (B.length : Int) → isoB (rd B y) = true → 0 ≤ rd M y ∧ rd M y ≤ (B.length : Int))
    (hrun : ∀ j, j < R.length → ∀ x ∈ R.getD j [], rd L x = rd L (hd R j)) (hlev : ∀ y : Int, 0 ≤ y → y < (B.length : Int) → isoB (rd B y) = true → rd M y < (B.length : Int) → rd L (rd M y) = rd L y) :
    ∀ (n : Nat) (U : List Bool) (g : Int → Option (List Int)) (a : List S42), n ≤ R.length → RelG R g U → (∀ j, j < R.length - n → U.getD j false = true) → a.length ≤ R.length - n → (∀ s ∈ a, s.f0.length ≤ 40200 ∧ ∀ x ∈ s.f0, x ∈ K ∧ rd L x = s.f1) →
      ∃ r, seq_Sequences.goF L B M K bs R n g a = some r ∧ r.length ≤ R.length ∧ (∀ s ∈ r, s.f0.length ≤ 40200 ∧ ∀ x ∈ s.f0, x ∈ K ∧ rd L x = s.f1) ∧ ∀ x, (alls r).count x = (alls a).count x + (rem R U).count x := by
  have hrl := h.rl
  have hnn := h.nn
  intro n
  induction n with
  | zero =>
    intro U g a hn hr hu ha hs
    exact ⟨a, rfl, by omega, hs, fun x => by rw [rem_none R U hr.len (fun j hj => hu j (by omega))]; simp⟩
  | succ n ih =>
    intro U g a hn hr hu ha hs
    have hi : R.length - (n + 1) < R.length := by omega
    have hne := h.ne _ hi
    have hhd := h.bd _ (hd_mem h _ hi)
    have hat := hr.at_ _ hi
    have hF : seq_Sequences.goF L B M K bs R (n + 1) g a = match g (hd R (R.length - (n + 1))) with
        | none => seq_Sequences.goF L B M K bs R n g a
        | some _ => (chainF B M (R.length + 1) g (R.getD (R.length - (n + 1)) []) []).bind fun p => (seq_Sequences.seqF L B M K bs p.2).bind fun s => if a.length < 2932031007402 then seq_Sequences.goF L B M K bs R n p.1 (a ++ [s]) else none := by
      rw [seq_Sequences.goF, if_pos hne, if_pos (ok_bd hhd.1 (by omega))]
      cases g (rd (R.getD (R.length - (n + 1)) []) 0) <;> rfl
    rw [hF]
    by_cases hu1 : U.getD (R.length - (n + 1)) false = true
    · rw [if_pos hu1] at hat
      rw [hat]
      refine ih U g a (by omega) hr (fun j hj => ?_) (by omega) hs
      by_cases e : j = R.length - (n + 1)
      · rw [e]; exact hu1
      · exact hu j (by omega)
    · rw [if_neg hu1] at hat
      rw [hat]
      obtain ⟨g', U', at', c1, c2, c3, c4, c5, c6, c7, c8, c9⟩ := chain_cov R K B M L h hM hmm hrun hlev (rd L (hd R (R.length - (n + 1)))) (cf U) (R.length + 1) U g (R.length - (n + 1)) [] rfl hr hi (Bool.eq_false_iff.mpr hu1) (by
        by_cases hz : R.length - (n + 1) = 0
        · exact .inl hz
        · exact .inr (hu 0 (by omega))) (by have : cf U ≤ U.length := List.countP_le_length; have := hr.len; omega) (by have : cf U ≤ U.length := List.countP_le_length; have := hr.len; simp; omega) (fun _ hx => by cases hx) rfl
      obtain ⟨s, s1, s2, s3⟩ := seq_some L K B M bs (fun x hx => by have := h.bd x hx; omega) (by omega) hL.symm hM at' c5 (fun x hx => (c4 x hx).1)
      have hlev1 : s.f1 = rd L (hd R (R.length - (n + 1))) := by
        rw [s3]
        exact (c4 _ (by rw [show (0 : Int) = ((0 : Nat) : Int) from rfl, rd_nat _ 0 c5]; exact List.getElem_mem c5)).2
      have hU' : ∀ j, j < R.length - n → U'.getD j false = true := fun j hj => by
        by_cases e : j = R.length - (n + 1)
        · rw [e]; exact c7
        · exact c8 j (hu j (by omega))
      have hS' : ∀ t ∈ a ++ [s], t.f0.length ≤ 40200 ∧ ∀ x ∈ t.f0, x ∈ K ∧ rd L x = t.f1 := fun t ht => by
        rcases List.mem_append.1 ht with h1 | h1
        · exact hs t h1
        · rw [List.mem_singleton] at h1
          rw [h1, s2, hlev1]
          exact ⟨c6, c4⟩
      obtain ⟨r, r1, r2, r3, r4⟩ := ih U' g' (a ++ [s]) (by omega) c2 hU' (by simp; omega) hS'
      refine ⟨r, ?_, r2, r3, fun x => ?_⟩
      · show ((chainF B M (R.length + 1) g (R.getD (R.length - (n + 1)) []) []).bind _) = _
        rw [c1, Option.bind_some, s1, Option.bind_some, if_pos (by omega)]; exact r1
      · rw [r4 x, alls_snoc, s2, List.count_append]
        have h9 : at'.count x + (rem R U').count x = 0 + (rem R U).count x := c9 x
        omega
theorem addR_lev {L : List Int} {out : List (List Int)} {P : List Int} (hr : Rn out P) (h : ∀ l ∈ out, ∀ x ∈ l, rd L x = rd L (rd l 0)) (i : Int) : ∀ l ∈ addR L out i, ∀ x ∈ l, rd L x = rd L (rd l 0) := by
  have hone : ∀ x ∈ [i], rd L x = rd L (rd [i] 0) := fun x hx => by rw [List.mem_singleton] at hx; rw [hx]; rfl
  unfold addR
  by_cases h0 : out.length = 0
  · rw [if_pos h0]
    intro l hl
    rw [List.mem_singleton] at hl
    rw [hl]; exact hone
  · rw [if_neg h0]
    have hm : out.getD (out.length - 1) [] ∈ out := by rw [List.getD_eq_getElem?_getD, List.getElem?_eq_getElem (by omega)]; exact List.getElem_mem _
    by_cases he : rd L (lastp out) = rd L i
    · rw [if_pos he]
      intro l hl
      rcases List.mem_or_eq_of_mem_set hl with h1 | h1
      · exact h l h1
      · have hn := h _ hm
        have hp := (rn_last hr (by omega)).2.1
        have hlm : lastp out ∈ out.getD (out.length - 1) [] := by
          unfold lastp
          rw [List.getD_eq_getElem?_getD (l := out.getD (out.length - 1) []), List.getElem?_eq_getElem (by omega)]
          exact List.getElem_mem _
        have e0 : rd (out.getD (out.length - 1) [] ++ [i]) 0 = rd (out.getD (out.length - 1) []) 0 := by
          rw [show (0 : Int) = ((0 : Nat) : Int) from rfl, rd_nat _ 0 (by simp), rd_nat _ 0 hp, List.getElem_append_left hp]
        rw [h1]
        intro x hx
        rw [e0]
        rcases List.mem_append.1 hx with h2 | h2
        · exact hn x h2
        · rw [List.mem_singleton] at h2
          rw [h2, ← he]
          exact hn _ hlm
    · rw [if_neg he]
      intro l hl
      rcases List.mem_append.1 hl with h1 | h1
      · exact h l h1
      · rw [List.mem_singleton] at h1; rw [h1]; exact hone
theorem fold_lev (L : List Int) : ∀ (K : List Int) (out : List (List Int)) (P : List Int), Rn out P → (∀ l ∈ out, ∀ x ∈ l, rd L x = rd L (rd l 0)) → ∀ l ∈ K.foldl (addR L) out, ∀ x ∈ l, rd L x = rd L (rd l 0)
  | [], out, P, _, h => h
  | y :: K, out, P, hr, h => fold_lev L K (addR L out y) (P ++ [y]) (addR_rn hr y) (addR_lev hr h y)
theorem rns_lev (L C : List Int) : ∀ j, j < (rns L C).length → ∀ x ∈ (rns L C).getD j [], rd L x = rd L (hd (rns L C) j) := fun j hj => by
  have hm : (rns L C).getD j [] ∈ rns L C := by rw [List.getD_eq_getElem?_getD, List.getElem?_eq_getElem hj]; exact List.getElem_mem _
  exact fold_lev L (kp C 0) [] [] ⟨rfl, fun _ h => by cases h⟩ (fun _ h => by cases h) _ hm
def Lv (q : List Int) (i : Nat) (s : Ex) : Prop := Iw q i s.L s.a s.c s.l ∧ s.T.length = i
theorem lv_step (q : List Int) (bs : Int) (hq : q.length ≤ 1000) (k : Nat) (hk : q.length + 5 < k) (i : Nat) (s : Ex) (hi : i < q.length) (h : Lv q i s) : ∃ s', explicit_Levels.step k q (mat q) bs i s = some s' ∧ Lv q (i + 1) s' := by
  obtain ⟨h, h2⟩ := h
  unfold explicit_Levels.step
  by_cases h16 : q.getD i 0 = 16
  · rw [if_pos h16]; exact ⟨_, rfl, iw_emb h hi (by rw [h16]; decide) (by omega) _ _ _, by simp [h2]⟩
  rw [if_neg h16]
  by_cases h14 : q.getD i 0 = 14
  · rw [if_pos h14]; exact ⟨_, rfl, iw_emb h hi (by rw [h14]; decide) (by omega) _ _ _, by simp [h2]⟩
  rw [if_neg h14]
  by_cases h17 : q.getD i 0 = 17
  · rw [if_pos h17]; exact ⟨_, rfl, iw_emb h hi (by rw [h17]; decide) (by omega) _ _ _, by simp [h2]⟩
  rw [if_neg h17]
  by_cases h15 : q.getD i 0 = 15
  · rw [if_pos h15]; exact ⟨_, rfl, iw_emb h hi (by rw [h15]; decide) (by omega) _ _ _, by simp [h2]⟩
  rw [if_neg h15]
  by_cases h20 : q.getD i 0 = 20
  · rw [if_pos h20]; exact ⟨_, rfl, iw_iso h hi hq (by rw [h20]; decide) _, by simp [h2]⟩
  rw [if_neg h20]
  by_cases h19 : q.getD i 0 = 19
  · rw [if_pos h19]; exact ⟨_, rfl, iw_iso h hi hq (by rw [h19]; decide) _, by simp [h2]⟩
  rw [if_neg h19]
  by_cases h21 : q.getD i 0 = 21
  · rw [if_pos h21, if_pos (by rw [mat_len]; exact hi), first_f q _ _ (by omega) k hk, Option.bind_some]
    exact ⟨_, rfl, iw_iso h hi hq (by rw [h21]; decide) _, by simp [h2]⟩
  rw [if_neg h21]
  by_cases h22 : q.getD i 0 = 22
  · rw [if_pos h22]; exact ⟨_, rfl, iw_ei h hi hq h22, by simp [h2]⟩
  rw [if_neg h22]
  have ho : ¬ opn (q.getD i 0) := by unfold opn; omega
  by_cases h18 : q.getD i 0 = 18
  · rw [if_pos h18]; exact ⟨_, rfl, iw_ee h hi ho h22 _, by simp [h2]⟩
  rw [if_neg h18]
  by_cases h9 : q.getD i 0 = 9
  · rw [if_pos h9]; exact ⟨_, rfl, iw_same h hi ho h22 _, by simp [h2]⟩
  rw [if_neg h9]
  by_cases h10 : q.getD i 0 = 10
  · rw [if_pos h10]; exact ⟨_, rfl, iw_same h hi ho h22 _, by simp [h2]⟩
  rw [if_neg h10]
  exact ⟨_, rfl, iw_same h hi ho h22 _, by simp [h2]⟩
theorem levels_iso (q : List Int) (lv : Int) (hq : q.length ≤ 1000) (k : Nat) (hk : q.length + 5 < k) : ∃ L T, explicit_Levels.f k q lv = some (L, T) ∧ L.length = q.length ∧ T.length = q.length ∧ ∀ j, j < q.length → opn (q.getD j 0) → clo q j < q.length → L.getD (clo q j) 0 = L.getD j 0 := by
  obtain ⟨s, h1, h2, h3⟩ := levels_f q lv (by omega) k hk (Lv q) ⟨⟨[], [], [], rfl, rfl, rfl, Nat.le_refl _, fun _ h => (by cases h), trivial, fun _ h => (by cases h), ⟨by simp [explicit_Levels.s0], fun x hx => by
    have : x = Stk.newE (mn (mx lv 0) 1) := by simpa [explicit_Levels.s0] using hx
    rw [this]; rfl⟩, fun t ht => absurd ht (Nat.not_lt_zero _), fun j hj => absurd hj (Nat.not_lt_zero _)⟩, rfl⟩ (fun i s hi h => lv_step q _ hq k hk i s hi h)
  obtain ⟨O1, O2, D, h⟩ := h2
  refine ⟨s.L, s.T, h1, h.len, h3, fun j hj ho hc => ?_⟩
  rcases h.dn j hj ho with hm | hm
  · obtain ⟨t, ht, e⟩ := List.getElem_of_mem hm
    have := h.cl t ht
    rw [List.getD_eq_getElem?_getD, List.getElem?_eq_getElem ht, Option.getD_some, e] at this
    omega
  · exact hm.2
theorem cnt_sorted : ∀ (K : List Int), K.Pairwise (· < ·) → ∀ x, K.count x = if x ∈ K then 1 else 0
  | [], _, x => by simp
  | y :: K, h, x => by
    obtain ⟨h1, h2⟩ := List.pairwise_cons.1 h
    have ih := cnt_sorted K h2 x
    rw [List.count_cons, ih]
    by_cases e : y = x
    · subst e
      have hn : ¬ y ∈ K := fun hm => by have := h1 y hm; omega
      rw [if_neg hn]
      simp
    · have e2 : (y == x) = false := beq_eq_false_iff_ne.mpr e
      rw [e2]
      by_cases hm : x ∈ K
      · rw [if_pos hm, if_pos (List.mem_cons_of_mem _ hm)]; rfl
      · have hn : ¬ x ∈ y :: K := fun h3 => by
          rcases List.mem_cons.1 h3 with h4 | h4
          · exact e h4.symm
          · exact hm h4
        rw [if_neg hm, if_neg hn]; rfl
theorem kp_iff (C : List Int) (j : Nat) (hj : j < C.length) : (j : Int) ∈ kp C 0 ↔ lf C[j] = false := by
  refine ⟨fun h => ?_, fun h => ?_⟩
  · obtain ⟨i, hi, e, hc⟩ := kp_dec C 0 _ h
    have : i = j := by omega
    subst this
    exact hc
  · have hs := kp_split C 0 j (by omega)
    rw [Nat.zero_add, List.drop_eq_getElem_cons hj, kp, h, if_neg (by decide)] at hs
    rw [hs]
    exact List.mem_append_right _ (by simp)
def bmp (S : List Int) (xs : List Int) : List Int := xs.foldl (fun S x => S.set x.toNat (wrap64 (rd S x + 1))) S
theorem bmp_app (S xs ys : List Int) : bmp S (xs ++ ys) = bmp (bmp S xs) ys := List.foldl_append
theorem bmp_at : ∀ (xs S : List Int) (N : Nat), (∀ x ∈ xs, 0 ≤ x ∧ x < (S.length : Int)) → (∀ x, x < S.length → 0 ≤ S.getD x 0 ∧ S.getD x 0 ≤ (N : Int)) → N + xs.length ≤ 1000000000000 →
    (bmp S xs).length = S.length ∧ ∀ x, x < S.length → (bmp S xs).getD x 0 = S.getD x 0 + ((xs.count (x : Int) : Nat) : Int)
  | [], S, N, _, _, _ => ⟨rfl, fun x _ => by simp [bmp]⟩
  | y :: xs, S, N, h1, h2, h3 => by
    rw [List.length_cons] at h3
    have hy := h1 y (by simp)
    have h2y := h2 y.toNat (by omega)
    have ey : rd S y = S.getD y.toNat 0 := by simp [rd]
    have w : wrap64 (rd S y + 1) = S.getD y.toNat 0 + 1 := by rw [ey, w64 (by omega) (by omega)]
    have gset : ∀ x, x < S.length → (S.set y.toNat (wrap64 (rd S y + 1))).getD x 0 = if y.toNat = x then S.getD x 0 + 1 else S.getD x 0 := fun x hx => by
      rw [List.getD_eq_getElem?_getD, List.getElem?_set]
      by_cases e : y.toNat = x
      · rw [if_pos e, if_pos (by omega), if_pos e, w, e]; rfl
      · rw [if_neg e, if_neg e, List.getD_eq_getElem?_getD]
    obtain ⟨k1, k2⟩ := bmp_at xs (S.set y.toNat (wrap64 (rd S y + 1))) (N + 1) (fun x hx => by rw [List.length_set]; exact h1 x (by simp [hx])) (fun x hx => by
      rw [List.length_set] at hx
      have := h2 x hx
      rw [gset x hx]
      split <;> omega) (by omega)
    rw [List.length_set] at k1 k2
    refine ⟨k1, fun x hx => ?_⟩
    show (bmp (S.set y.toNat (wrap64 (rd S y + 1))) xs).getD x 0 = _
    rw [k2 x hx, gset x hx, List.count_cons]
    by_cases e : y.toNat = x
    · have e2 : (y == (x : Int)) = true := beq_iff_eq.mpr (by omega)
      rw [if_pos e, e2, if_pos rfl]; omega
    · have e2 : (y == (x : Int)) = false := beq_eq_false_iff_ne.mpr (by omega)
      rw [if_neg e, e2, if_neg (by decide)]; omega
theorem once_l2 (T S : List Int) (hS : S.length = T.length) (hT : T.length ≤ 200) (hs : ∀ x, (h : x < T.length) → S.getD x 0 = if lf T[x] = true then 0 else 1) : ∀ (d k i : Nat), i + d = T.length → d + 100 < k → naskhlaw23_SeqOnce.l2 k T S (S.length : Int) (i : Int) = some true := by
  intro d
  induction d with
  | zero =>
    intro k i hi hk
    obtain ⟨k, rfl⟩ : ∃ m, k = m + 1 := ⟨k - 1, by omega⟩
    rw [naskhlaw23_SeqOnce.l2, if_neg (by omega), awake_f k (by omega)]
    rfl
  | succ d ih =>
    intro k i hi hk
    obtain ⟨k, rfl⟩ : ∃ m, k = m + 1 := ⟨k - 1, by omega⟩
    have hlt : i < T.length := by omega
    have w1 : wrap64 ((i : Int) + 1) = ((i + 1 : Nat) : Int) := (up1 (by omega) (by omega)).trans (by omega)
    have hv := hs i hlt
    have hnx := ih k (i + 1) (by omega) (by omega)
    rw [naskhlaw23_SeqOnce.l2, if_pos (by omega), if_pos (by omega), if_pos (by omega), if_pos (by omega), rd_nat T i hlt, rleft_f, Option.bind_some, rd_getD, hv, w1]
    by_cases hc : lf T[i] = true
    · rw [if_pos hc, if_pos hc, if_pos rfl]; exact hnx
    · rw [if_neg hc, if_neg hc, if_pos rfl]; exact hnx
theorem once_l1 (L T A : List Int) (r : List S42) (n i : Int) (b1 b2 b3 : Int) (hA : A.length ≤ 40200) (hL : L.length ≤ 200) (ha : ∀ x ∈ A, (0 ≤ x ∧ x < (L.length : Int)) ∧ rd L x = b1) : ∀ (d k j : Nat) (S : List Int), j + d = A.length → S.length = L.length →
    naskhlaw23_SeqOnce.l1 (k + d + 1) L T S r n i A (A.length : Int) (j : Int) A b1 b2 b3 = naskhlaw23_SeqOnce.l0 k L T (bmp S (A.drop j)) r n (wrap64 (i + 1)) := by
  intro d
  induction d with
  | zero =>
    intro k j S hj hS
    rw [naskhlaw23_SeqOnce.l1, if_neg (by omega), List.drop_eq_nil_of_le (by omega)]
    rfl
  | succ d ih =>
    intro k j S hj hS
    have hlt : j < A.length := by omega
    obtain ⟨⟨h0, h1⟩, h2⟩ := ha A[j] (List.getElem_mem hlt)
    have w1 : wrap64 ((j : Int) + 1) = ((j + 1 : Nat) : Int) := (up1 (by omega) (by omega)).trans (by omega)
    have hnx := ih k (j + 1) (S.set A[j].toNat (wrap64 (rd S A[j] + 1))) (by omega) (by rw [List.length_set]; exact hS)
    rw [show k + (d + 1) + 1 = (k + d + 1) + 1 by omega, naskhlaw23_SeqOnce.l1, if_pos (by omega), if_pos (by omega), if_pos (by omega), rd_nat A j hlt, if_neg (by omega), if_neg (by omega), if_pos h0, if_pos h1, if_pos h2, if_pos (by omega), w1, hnx, List.drop_eq_getElem_cons hlt]
    rfl
def fl : List S42 → Nat
  | [] => 1
  | s :: r => s.f0.length + 2 + fl r
theorem once_l0 (L T : List Int) (r : List S42) (hL : L.length ≤ 200) (hr : r.length ≤ 200) (ha : ∀ s ∈ r, s.f0.length ≤ 40200 ∧ ∀ x ∈ s.f0, (0 ≤ x ∧ x < (L.length : Int)) ∧ rd L x = s.f1) : ∀ (d k i : Nat) (S : List Int), i + d = r.length → S.length = L.length → (∀ S', S'.length = L.length → (bmp S' (alls (r.drop i))).length = L.length) →
    naskhlaw23_SeqOnce.l0 (k + fl (r.drop i)) L T S r (r.length : Int) (i : Int) = naskhlaw23_SeqOnce.l2 k T (bmp S (alls (r.drop i))) ((bmp S (alls (r.drop i))).length : Int) 0 := by
  intro d
  induction d with
  | zero =>
    intro k i S hi hS _
    rw [List.drop_eq_nil_of_le (by omega), fl, naskhlaw23_SeqOnce.l0, if_neg (by omega)]
    rfl
  | succ d ih =>
    intro k i S hi hS hb
    have hlt : i < r.length := by omega
    have w1 : wrap64 ((i : Int) + 1) = ((i + 1 : Nat) : Int) := (up1 (by omega) (by omega)).trans (by omega)
    have er : rd_T42 r (i : Int) = r[i] := by simp [rd_T42, List.getElem?_eq_getElem hlt]
    obtain ⟨hl, hx⟩ := ha r[i] (List.getElem_mem hlt)
    have hbl : ∀ (xs S' : List Int), (bmp S' xs).length = S'.length := fun xs => by
      induction xs with
      | nil => intro S'; rfl
      | cons y xs ih2 => intro S'; show (bmp (S'.set y.toNat (wrap64 (rd S' y + 1))) xs).length = _; rw [ih2, List.length_set]
    have h1 := once_l1 L T r[i].f0 r (r.length : Int) (i : Int) r[i].f1 r[i].f2 r[i].f3 hl hL hx r[i].f0.length (k + fl (r.drop (i + 1))) 0 S (by omega) hS
    rw [List.drop_zero, w1] at h1
    rw [List.drop_eq_getElem_cons hlt, fl, alls, bmp_app, show k + (r[i].f0.length + 2 + fl (r.drop (i + 1))) = (k + fl (r.drop (i + 1)) + r[i].f0.length + 1) + 1 by omega, naskhlaw23_SeqOnce.l0, if_pos (by omega), if_pos (by omega), if_pos (by omega), er]
    exact h1.trans (ih k (i + 1) (bmp S r[i].f0) (by omega) (by rw [hbl]; exact hS) (fun S' h => by rw [hbl]; exact h))
theorem alls_len : ∀ (r : List S42) (m : Nat), (∀ s ∈ r, s.f0.length ≤ m) → (alls r).length ≤ r.length * m
  | [], _, _ => by simp [alls]
  | s :: r, m, h => by
    have h1 := alls_len r m (fun t ht => h t (by simp [ht]))
    have h2 := h s (by simp)
    rw [alls, List.length_append, List.length_cons, Nat.succ_mul]
    omega
theorem fl_le : ∀ (r : List S42), fl r = (alls r).length + 2 * r.length + 1
  | [] => rfl
  | s :: r => by rw [fl, alls, List.length_append, List.length_cons, fl_le r]; omega
theorem alls_mem : ∀ (r : List S42) (x : Int), x ∈ alls r → ∃ s ∈ r, x ∈ s.f0
  | s :: r, x, h => by
    rcases List.mem_append.1 h with h1 | h1
    · exact ⟨s, by simp, h1⟩
    · obtain ⟨t, h2, h3⟩ := alls_mem r x h1
      exact ⟨t, by simp [h2], h3⟩
theorem sequences_once (q L T : List Int) (bs : Int) (hq : q.length ≤ 200) (hL : L.length = q.length) (hT : T.length = q.length) (hi : ∀ j, j < q.length → opn (q.getD j 0) → clo q j < q.length → L.getD (clo q j) 0 = L.getD j 0) (k : Nat) (hk : 1000 < k) :
    ∃ r, seq_Sequences.f k L T q bs = some r ∧ r.length ≤ 200 ∧ (∀ s ∈ r, s.f0.length ≤ 40200 ∧ ∀ x ∈ s.f0, (0 ≤ x ∧ x < (L.length : Int)) ∧ rd L x = s.f1) ∧ ∀ x, (alls r).count x = if x ∈ kp T 0 then 1 else 0 := by
  unfold seq_Sequences.f
  have h := rns_rs L T (by omega)
  have hkl := kp_len T 0
  have hko : (kp T 0).all okI = true := by
    rw [List.all_eq_true]
    intro x hx
    have := kp_mem T 0 x hx
    exact ok_bd (by omega) (by omega)
  have hrl := h.rl
  rw [hT] at h
  rw [if_pos (by omega), if_pos (by omega), matches_f q (by omega) k (by omega), Option.bind_some, runs_f L T (by omega) (by omega) k (by omega), Option.bind_some, kept_f T (by omega) k (by omega), Option.bind_some, if_pos (by omega), if_pos (by omega), if_pos hko, if_pos (heads_ok _ _ _ h)]
  have told : ∀ y : Int, 0 ≤ y → y < (q.length : Int) → isoB (rd q y) = true → ∃ j : Nat, y = (j : Int) ∧ j < q.length ∧ opn (q.getD j 0) ∧ rd (mat q) y = (clo q j : Int) ∧ clo q j ≤ q.length := fun y h0 h1 hi2 => by
    obtain ⟨j, rfl⟩ : ∃ j : Nat, y = (j : Int) := ⟨y.toNat, by omega⟩
    rw [rd_getD] at hi2
    have ho := (iso_opn _).1 hi2
    have hj : j < q.length := by omega
    have t3 := cls_le (q.drop (j + 1)) 0
    rw [List.length_drop] at t3
    exact ⟨j, rfl, hj, ho, by rw [rd_getD, mat_told q j hj ho]; rfl, by unfold clo; omega⟩
  obtain ⟨r, r1, r2, r3, r4⟩ := go_cov L (kp T 0) q (mat q) bs (rns L T) h hL (mat_len q) (fun y h0 h1 hi2 => by
      obtain ⟨j, _, _, _, e, hc⟩ := told y h0 h1 hi2
      rw [e]; omega) (rns_lev L T) (fun y h0 h1 hi2 hlt => by
      obtain ⟨j, e1, hj, ho, e, hc⟩ := told y h0 h1 hi2
      rw [e] at hlt ⊢
      rw [e1, rd_getD, rd_getD]
      exact hi j hj ho (by omega)) (rns L T).length (List.replicate (rns L T).length false) (begF (rns L T) (rns L T).length) [] (Nat.le_refl _) (rel_start h) (fun j hj => by omega) (by simp) (fun s hs => by cases hs)
  refine ⟨r, r1, by omega, fun s hs => ?_, fun x => ?_⟩
  · refine ⟨(r3 s hs).1, fun x hx => ?_⟩
    obtain ⟨h1, h2⟩ := (r3 s hs).2 x hx
    have := kp_mem T 0 x h1
    exact ⟨by omega, h2⟩
  · rw [r4 x, rem_all, (rns_rn L T).flat, cnt_sorted (kp T 0) (kp_sorted T 0) x]
    simp [alls]
theorem SeqOnce_ok : naskhlaw23_SeqOnce.Pure := by
  intro q lv _ _ _ _
  refine ⟨9000000, ?_⟩
  unfold naskhlaw23_SeqOnce.f
  by_cases h : (q.length : Int) > 200
  · rw [if_pos h, awake_f _ (by omega)]; rfl
  · rw [if_neg h]
    obtain ⟨L, T, e, hL, hT, hi⟩ := levels_iso q (mn (mx lv 0) 1) (by omega) 9000000 (by omega)
    have ht : ((T.length : Int) != (q.length : Int)) = false := bne_eq_false_iff_eq.mpr (by omega)
    rw [e, Option.bind_some, if_pos (by omega), if_pos (by omega), Option.bind_some, if_pos (show (L.length : Int) = (q.length : Int) by omega), ht, Int.toNat_natCast, show 9000000 = 8999999 + 1 from rfl, naskhlaw23_SeqOnce.j0, if_neg (by decide)]
    obtain ⟨r, r1, r2, r3, r4⟩ := sequences_once q L T (mn (mx lv 0) 1) (by omega) hL hT hi 8999999 (by omega)
    rw [r1, Option.bind_some]
    have hal := alls_len r 40200 (fun s hs => (r3 s hs).1)
    have hfl := fl_le r
    have hal2 : r.length * 40200 ≤ 200 * 40200 := Nat.mul_le_mul_right _ r2
    have hS : (List.replicate q.length (0 : Int)).length = L.length := by rw [List.length_replicate]; omega
    have hb := bmp_at (alls r) (List.replicate q.length 0) 0 (fun x hx => by
      obtain ⟨s, h1, h2⟩ := alls_mem r x hx
      have := ((r3 s h1).2 x h2).1
      rw [hS]; exact this) (fun x hx => by
      rw [List.length_replicate] at hx
      rw [List.getD_eq_getElem?_getD, List.getElem?_replicate, if_pos hx]; exact ⟨Int.le_refl _, Int.le_refl _⟩) (by omega)
    have h0 := once_l0 L T r (by omega) r2 r3 r.length (8999999 - fl r) 0 (List.replicate q.length 0) (by omega) hS (fun S' hS' => by
      rw [List.drop_zero]
      have : ∀ (xs S' : List Int), (bmp S' xs).length = S'.length := fun xs => by
        induction xs with
        | nil => intro S'; rfl
        | cons y xs ih2 => intro S'; show (bmp (S'.set y.toNat (wrap64 (rd S' y + 1))) xs).length = _; rw [ih2, List.length_set]
      rw [this]; exact hS')
    rw [List.drop_zero, show 8999999 - fl r + fl r = 8999999 by omega] at h0
    refine h0.trans ?_
    refine once_l2 T (bmp (List.replicate q.length 0) (alls r)) (by rw [hb.1, List.length_replicate]; omega) (by omega) (fun x hx => ?_) T.length (8999999 - fl r) 0 (by omega) (by omega)
    have hxq : x < q.length := by omega
    rw [hb.2 x (by rw [List.length_replicate]; exact hxq), r4, List.getD_eq_getElem?_getD, List.getElem?_replicate, if_pos hxq]
    by_cases hc : lf T[x] = true
    · rw [if_pos hc, if_neg (fun hm => by rw [(kp_iff T x hx).1 hm] at hc; cases hc)]; rfl
    · rw [if_neg hc, if_pos ((kp_iff T x hx).2 (Bool.eq_false_iff.mpr hc))]; rfl
end Go.Proofs.Ytbkdaafphcfpdaa.PureSeqOnceAux
namespace Go.Proofs.Ytbkdaafphcfpdaa.Pure
open Go.Proofs.Ytbkdaafphcfpdaa.PSeqOnce
theorem SeqOnce : naskhlaw23_SeqOnce.Pure := PureSeqOnceAux.SeqOnce_ok
end Go.Proofs.Ytbkdaafphcfpdaa.Pure
