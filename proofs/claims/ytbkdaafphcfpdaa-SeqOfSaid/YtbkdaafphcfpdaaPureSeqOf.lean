import Derived.Test.YtbkdaafphcfpdaaPSeqOfx8
namespace Go.Proofs.Ytbkdaafphcfpdaa.PureSeqOfAux
open Go.RowKit Go.Proofs.Ytbkdaafphcfpdaa.PSeqOf Go.Proofs.YtbkdaafphcfpdaaW.PrintWords Go.Proofs.YtbkdaafphcfpdaaW.PrintLast
set_option linter.unusedSimpArgs false
set_option linter.unusedVariables false
theorem w64 {x : Int} (h0 : -9223372036854775808 ≤ x) (h1 : x ≤ 9223372036854775807) : wrap64 x = x := by unfold wrap64; omega
theorem rd_at (pre : List Int) (x : Int) (rest : List Int) : rd (pre ++ x :: rest) (pre.length : Int) = x := by simp [rd]
theorem rd_nat (l : List Int) (i : Nat) (h : i < l.length) : rd l (i : Int) = l[i] := by simp [rd, h]
theorem wf64 {x : Int} (h : (Lit.int .i64 x).wf = true) : -9223372036854775808 ≤ x ∧ x ≤ 9223372036854775807 := by
  simpa [Lit.wf, IntKind.min, IntKind.max, IntKind.signed, IntKind.bits] using h
theorem bsome {P : Prop} [Decidable P] {b : Bool} (h : b = true ↔ P) : some b = some (decide P) := by
  congr 1; rw [Bool.eq_iff_iff]; simpa using h
theorem u16w {x : Int} (h0 : 0 ≤ x) (h1 : x ≤ 65535) : IntKind.u16.wrap x = x := by
  simp [IntKind.wrap, IntKind.min, IntKind.max, IntKind.signed, IntKind.bits]; omega
theorem eq_loop_int_int (a b : List Int) (hl : a.length = b.length) (hm : a.length ≤ 9223372036854775806) : ∀ d k i : Nat, i + d = a.length → d < k →
    slices_Equal_int_int.l0 k a b a.length i = some (decide (a.drop i = b.drop i)) := by
  intro d
  induction d with
  | zero =>
    intro k i hi hk
    obtain ⟨k, rfl⟩ : ∃ m, k = m + 1 := ⟨k - 1, by omega⟩
    simp only [slices_Equal_int_int.l0]
    rw [if_neg (by omega), List.drop_eq_nil_of_le (by omega), List.drop_eq_nil_of_le (by omega)]
    simp
  | succ d ih =>
    intro k i hi hk
    obtain ⟨k, rfl⟩ : ∃ m, k = m + 1 := ⟨k - 1, by omega⟩
    simp only [slices_Equal_int_int.l0]
    rw [if_pos (by omega), if_pos (by omega), if_pos (by omega), if_pos (by omega), rd_nat a i (by omega), rd_nat b i (by omega),
      List.drop_eq_getElem_cons (by omega : i < a.length), List.drop_eq_getElem_cons (by omega : i < b.length)]
    by_cases h : a[i]'(by omega) = b[i]'(by omega)
    · rw [if_pos h, w64 (by omega) (by omega)]
      have := ih k (i + 1) (by omega) (by omega)
      rw [Int.natCast_add] at this
      rw [show ((1 : Nat) : Int) = 1 from rfl] at this
      rw [this]
      congr 1
      rw [decide_eq_decide, List.cons.injEq]
      simp only [h, true_and]
    · rw [if_neg h]
      congr 1
      symm
      rw [decide_eq_false_iff_not, List.cons.injEq]
      exact fun e => h e.1
theorem equal_f_int_int (a b : List Int) (hm : a.length ≤ 9223372036854775806) (k : Nat) (hk : a.length < k) : slices_Equal_int_int.f k a b = some (decide (a = b)) := by
  unfold slices_Equal_int_int.f
  by_cases hl : a.length = b.length
  · rw [if_pos (by omega), show (0 : Int) = ((0 : Nat) : Int) from rfl, eq_loop_int_int a b hl hm a.length k 0 (by omega) hk]
    simp
  · rw [if_neg (by omega)]
    have : a ≠ b := fun e => hl (by rw [e])
    simp [this]
theorem equal_self_int_int (a : List Int) (hm : a.length ≤ 9223372036854775806) (k : Nat) (hk : a.length < k) : slices_Equal_int_int.f k a a = some true := by
  rw [equal_f_int_int a a hm k hk]; simp
theorem i64_and1 (n : Int) : Go.bits .and .i64 n 1 = n % 2 := by
  have h1 : (BitVec.ofInt 64 1).toNat = 2 ^ 1 - 1 := by decide
  have key : (BitVec.ofInt 64 n &&& BitVec.ofInt 64 1).toNat = (n % ((2 ^ 64 : Nat) : Int)).toNat % 2 ^ 1 := by
    rw [BitVec.toNat_and, BitVec.toNat_ofInt, h1, Nat.and_two_pow_sub_one_eq_mod]
  show IntKind.i64.wrap ((BitVec.ofInt 64 n &&& BitVec.ofInt 64 1).toNat : Nat) = n % 2
  rw [key, IntKind.wrap_i64]
  omega
def opn (c : Int) : Prop := c = 19 ∨ c = 20 ∨ c = 21
instance (c : Int) : Decidable (opn c) := by unfold opn; infer_instance
theorem opens_f (c : Int) (k : Nat) (hk : 4 ≤ k) : para_opens.f k c = some (decide (opn c)) := by
  obtain ⟨k, rfl⟩ : ∃ m, k = m + 4 := ⟨k - 4, by omega⟩
  have a1 : wrap64 (0 + 1) = 1 := w64 (by omega) (by omega)
  have a2 : wrap64 (1 + 1) = 2 := w64 (by omega) (by omega)
  have a3 : wrap64 (2 + 1) = 3 := w64 (by omega) (by omega)
  unfold para_opens.f slices_Contains_int_int.f slices_Index_int_int.f
  have e : slices_Index_int_int.l0 (k + 4) [19, 20, 21] c (([19, 20, 21] : List Int).length : Int) 0 = some (if c = 19 then 0 else if c = 20 then 1 else if c = 21 then 2 else -1) := by
    simp only [slices_Index_int_int.l0, List.length_cons, List.length_nil]
    rw [if_pos (by omega), if_pos (by omega), if_pos (by omega), show rd [19, 20, 21] 0 = 19 from rfl]
    by_cases h1 : c = 19
    · rw [if_pos h1, if_pos h1]
    · rw [if_neg h1, if_neg h1, a1, if_pos (by omega), if_pos (by omega), if_pos (by omega), show rd [19, 20, 21] 1 = 20 from rfl]
      by_cases h2 : c = 20
      · rw [if_pos h2, if_pos h2]
      · rw [if_neg h2, if_neg h2, a2, if_pos (by omega), if_pos (by omega), if_pos (by omega), show rd [19, 20, 21] 2 = 21 from rfl]
        by_cases h3 : c = 21
        · rw [if_pos h3, if_pos h3]
        · rw [if_neg h3, if_neg h3, a3, if_neg (by omega)]
  rw [e]
  simp only [Option.bind_some]
  congr 1
  rw [decide_eq_decide]
  unfold opn
  repeat' split
  all_goals omega
theorem up1 {d : Int} (h0 : 0 ≤ d) (h1 : d ≤ 17592186043000) : wrap64 (d + 1) = d + 1 := w64 (by omega) (by omega)
theorem dn1 {d : Int} (h0 : 0 ≤ d) (h1 : d ≤ 17592186043000) : wrap64 (d - 1) = d - 1 := w64 (by omega) (by omega)
def mt (n : Nat) : List Int → Nat → List Int → List Int → List Int
  | [], _, out, _ => out
  | c :: r, i, out, op => if opn c then mt n r (i + 1) (out.set i (n : Int)) (op ++ [(i : Int)])
      else if c = 22 then (if op.length = 0 then mt n r (i + 1) out op else mt n r (i + 1) ((out.set (op.getD (op.length - 1) 0).toNat (i : Int)).set i (op.getD (op.length - 1) 0)) (op.take (op.length - 1)))
      else mt n r (i + 1) out op
theorem mt_len (n : Nat) : ∀ (r : List Int) (i : Nat) (out op : List Int), (mt n r i out op).length = out.length
  | [], _, _, _ => rfl
  | c :: r, i, out, op => by
    unfold mt
    repeat' split
    all_goals rw [mt_len n r]
    all_goals simp
theorem matches_l0 (q : List Int) (hq : q.length ≤ 17592186043000) : ∀ (r : List Int) (k i : Nat) (out op : List Int), q.drop i = r → i + r.length = q.length → r.length + 5 < k → out.length = q.length → op.length ≤ i → (∀ x ∈ op, 0 ≤ x ∧ x < (i : Int)) →
    para_Matches.l0 k q out op q (q.length : Int) (i : Int) = some (mt q.length r i out op)
  | [], k, i, out, op, hr, hi, hk, ho, hop, hb => by
    obtain ⟨k, rfl⟩ : ∃ m, k = m + 1 := ⟨k - 1, by omega⟩
    rw [List.length_nil] at hi
    rw [para_Matches.l0, if_neg (by omega)]
    rfl
  | c :: r, k, i, out, op, hr, hi, hk, ho, hop, hb => by
    obtain ⟨k, rfl⟩ : ∃ m, k = m + 1 := ⟨k - 1, by omega⟩
    rw [List.length_cons] at hi hk
    have hil : i < q.length := by omega
    have hd := List.drop_eq_getElem_cons hil
    rw [hr] at hd
    obtain ⟨hc, hr2⟩ := List.cons.inj hd
    have hrd : rd q (i : Int) = c := by rw [rd_nat q i hil]; exact hc.symm
    have w1 : wrap64 ((i : Int) + 1) = ((i + 1 : Nat) : Int) := by rw [w64 (by omega) (by omega)]; omega
    have hnext := fun out' op' h1 h2 h3 => matches_l0 q hq r k (i + 1) out' op' hr2.symm (by omega) (by omega) h1 h2 h3
    rw [para_Matches.l0, if_pos (by omega), if_pos (by omega), if_pos (by omega), hrd, opens_f c k (by omega), Option.bind_some, w1, mt]
    by_cases hopn : opn c
    · rw [if_pos (by simpa using hopn), if_pos hopn, if_pos (by omega), if_pos (by omega), Int.toNat_natCast]
      refine hnext _ _ (by simp [ho]) (by simp; omega) (fun x hx => ?_)
      rcases List.mem_append.1 hx with h1 | h1
      · have := hb x h1; omega
      · rw [List.mem_singleton] at h1; omega
    · rw [if_neg (by simpa using hopn), if_neg hopn]
      by_cases h22 : c = 22
      · rw [if_pos h22, if_pos h22]
        by_cases hz : op.length = 0
        · rw [if_neg (by omega), if_pos hz]
          exact hnext _ _ ho (by omega) (fun x hx => by have := hb x hx; omega)
        · have w2 : wrap64 ((op.length : Int) - 1) = ((op.length - 1 : Nat) : Int) := by rw [w64 (by omega) (by omega)]; omega
          have hlt : op.length - 1 < op.length := by omega
          have hrl : rd op ((op.length - 1 : Nat) : Int) = op.getD (op.length - 1) 0 := by simp [rd]
          have hm : op.getD (op.length - 1) 0 ∈ op := by rw [List.getD_eq_getElem?_getD, List.getElem?_eq_getElem hlt]; exact List.getElem_mem hlt
          have hbl := hb _ hm
          rw [if_pos (by omega), if_neg hz, w2, if_pos (by omega), if_pos (by omega), if_pos (by omega), hrl, if_pos (by omega), if_pos (by omega), if_pos (by omega), Int.toNat_natCast, Int.toNat_natCast]
          exact hnext _ _ (by simp [ho]) (by rw [List.length_take]; omega) (fun x hx => by have := hb x (List.mem_of_mem_take hx); omega)
      · rw [if_neg h22, if_neg h22]
        exact hnext _ _ ho (by omega) (fun x hx => by have := hb x hx; omega)
def mat (q : List Int) : List Int := mt q.length q 0 (List.replicate q.length (-1)) []
theorem matches_f (q : List Int) (hq : q.length ≤ 17592186043000) (k : Nat) (hk : q.length + 5 < k) : para_Matches.f k q = some (mat q) := by
  unfold para_Matches.f slices_Repeat_int_int.f mat
  rw [if_pos (show ([-1] : List Int).length = 1 from rfl), if_pos (by omega), if_pos (by omega), Option.bind_some, Int.toNat_natCast]
  exact matches_l0 q hq q k 0 _ [] (by simp) (by simp) hk (by simp) (by simp) (by simp)
theorem mat_len (q : List Int) : (mat q).length = q.length := by unfold mat; rw [mt_len]; simp
def cls : List Int → Nat → Nat
  | [], _ => 0
  | c :: r, d => if opn c then cls r (d + 1) + 1 else if c = 22 then (if d = 0 then 0 else cls r (d - 1) + 1) else cls r d + 1
theorem cls_le : ∀ (r : List Int) (d : Nat), cls r d ≤ r.length
  | [], _ => Nat.le_refl _
  | c :: r, d => by
    have h1 := cls_le r (d + 1)
    have h2 := cls_le r (d - 1)
    have h3 := cls_le r d
    rw [cls, List.length_cons]
    repeat' split
    all_goals omega
theorem not_opn22 : ¬ opn 22 := by decide
theorem cls_pdi : ∀ (r : List Int) (d : Nat), cls r d < r.length → r.getD (cls r d) 0 = 22
  | [], _, h => absurd h (Nat.not_lt_zero _)
  | c :: r, d, h => by
    rw [cls] at h ⊢
    rw [List.length_cons] at h
    by_cases ho : opn c
    · rw [if_pos ho] at h ⊢; rw [List.getD_cons_succ]; exact cls_pdi r _ (by omega)
    · rw [if_neg ho] at h ⊢
      by_cases h22 : c = 22
      · rw [if_pos h22] at h ⊢
        by_cases hd : d = 0
        · rw [if_pos hd]; exact h22
        · rw [if_neg hd] at h ⊢; rw [List.getD_cons_succ]; exact cls_pdi r _ (by omega)
      · rw [if_neg h22] at h ⊢; rw [List.getD_cons_succ]; exact cls_pdi r _ (by omega)
theorem opens3_f (c : Int) : naskhref20_Opens.f c = some (decide (opn c)) := by
  unfold naskhref20_Opens.f
  by_cases h1 : c = 19
  · rw [if_pos h1, decide_eq_true (show opn c from Or.inl h1)]
  · rw [if_neg h1]
    by_cases h2 : c = 20
    · rw [if_pos h2, decide_eq_true (show opn c from Or.inr (Or.inl h2))]
    · rw [if_neg h2]
      by_cases h3 : c = 21
      · rw [beq_iff_eq.mpr h3, decide_eq_true (show opn c from Or.inr (Or.inr h3))]
      · rw [beq_eq_false_iff_ne.mpr h3, decide_eq_false (show ¬ opn c from by unfold opn; omega)]
theorem closes_l0 (q : List Int) (hq : q.length ≤ 17592186043000) : ∀ (n k i d : Nat), q.length - i = n → 2 * n + 2 < k → d ≤ i → i ≤ q.length → naskhref20_closes.l0 k q (d : Int) (i : Int) = some ((i + cls (q.drop i) d : Nat) : Int) := by
  intro n
  induction n with
  | zero =>
    intro k i d hn hk hd hi
    obtain ⟨k, rfl⟩ : ∃ m, k = m + 1 := ⟨k - 1, by omega⟩
    rw [naskhref20_closes.l0, if_neg (by omega), List.drop_eq_nil_of_le (by omega), cls, Nat.add_zero, show i = q.length by omega]
  | succ n ih =>
    intro k i d hn hk hd hi
    obtain ⟨k, rfl⟩ : ∃ m, k = m + 2 := ⟨k - 2, by omega⟩
    have hlt : i < q.length := by omega
    have hr : rd q (i : Int) = q[i] := rd_nat q i hlt
    have w1 : wrap64 ((i : Int) + 1) = ((i + 1 : Nat) : Int) := up1 (by omega) (by omega)
    have w2 : wrap64 ((d : Int) + 1) = ((d + 1 : Nat) : Int) := up1 (by omega) (by omega)
    have g1 : (i : Int) < (q.length : Int) := by omega
    have g2 : (0 : Int) ≤ (i : Int) := by omega
    have hnx := fun k' d' h1 h2 => ih k' (i + 1) d' (by omega) h1 h2 (by omega)
    rw [naskhref20_closes.l0, if_pos g1, if_pos g2, hr, opens3_f, Option.bind_some, w1, w2, List.drop_eq_getElem_cons hlt, cls]
    generalize q[i] = c at hr
    by_cases ho : opn c
    · rw [if_pos (decide_eq_true ho), if_pos ho, hnx _ _ (by omega) (by omega)]
      congr 2; omega
    · rw [decide_eq_false ho, if_neg (by decide), if_neg ho]
      by_cases h22 : c = 22
      · rw [if_pos h22, if_pos h22, naskhref20_closes.j1]
        by_cases hd0 : d = 0
        · rw [if_pos (by rw [hd0]; rfl), if_pos hd0]; rfl
        · have w3 : wrap64 ((d : Int) - 1) = ((d - 1 : Nat) : Int) := (dn1 (by omega) (by omega)).trans (by omega)
          have e : ((d : Int) == 0) = false := beq_eq_false_iff_ne.mpr (by omega)
          rw [e, if_neg (by decide), if_pos g2, if_pos g1, hr, if_pos h22, w1, w3, if_neg hd0, hnx _ _ (by omega) (by omega)]
          congr 2; omega
      · rw [if_neg h22, if_neg h22, naskhref20_closes.j1, if_neg (by decide), if_pos g2, if_pos g1, hr, if_neg h22, w1, hnx _ _ (by omega) (by omega)]
        congr 2; omega
theorem closes_f (q : List Int) (hq : q.length ≤ 17592186043000) (k i : Nat) (hk : 2 * q.length + 2 < k) (hi : i < q.length) : naskhref20_closes.f k q (i : Int) = some ((i + 1 + cls (q.drop (i + 1)) 0 : Nat) : Int) := by
  unfold naskhref20_closes.f
  rw [up1 (d := (i : Int)) (by omega) (by omega), show (i : Int) + 1 = ((i + 1 : Nat) : Int) by omega]
  exact closes_l0 q hq (q.length - (i + 1)) k (i + 1) 0 rfl (by omega) (by omega) (by omega)
theorem mt_told (n : Nat) : ∀ (r : List Int) (i : Nat) (out op : List Int), out.length = n → i + r.length = n → op.Nodup → (∀ p ∈ op, 0 ≤ p ∧ p < (i : Int) ∧ out.getD p.toNat 0 = (n : Int)) →
    (∀ t, t < r.length → opn (r.getD t 0) → (mt n r i out op).getD (i + t) 0 = ((i + t + 1 + cls (r.drop (t + 1)) 0 : Nat) : Int)) ∧ (∀ p : Nat, p < i → (p : Int) ∉ op → (mt n r i out op).getD p 0 = out.getD p 0) ∧ (∀ j, j < op.length → (mt n r i out op).getD (op.getD j 0).toNat 0 = ((i + cls r (op.length - 1 - j) : Nat) : Int))
  | [], i, out, op, ho, hi, hnd, hop => by
    refine ⟨fun t ht => absurd ht (Nat.not_lt_zero _), fun _ _ _ => rfl, fun j hj => ?_⟩
    have hm : op.getD j 0 ∈ op := by rw [List.getD_eq_getElem?_getD, List.getElem?_eq_getElem hj]; exact List.getElem_mem hj
    have := (hop _ hm).2.2
    rw [List.length_nil] at hi
    rw [mt, this, cls]
    omega
  | c :: r, i, out, op, ho, hi, hnd, hop => by
    rw [List.length_cons] at hi
    have gset : ∀ (l : List Int) (a p : Nat) (x : Int), p < l.length → (l.set a x).getD p 0 = if a = p then x else l.getD p 0 := fun l a p x hp => by
      rw [List.getD_eq_getElem?_getD, List.getElem?_set]
      by_cases h : a = p
      · rw [if_pos h, if_pos h, if_pos (by omega)]; rfl
      · rw [if_neg h, if_neg h, List.getD_eq_getElem?_getD]
    have hmem : ∀ j, j < op.length → op.getD j 0 ∈ op := fun j hj => by rw [List.getD_eq_getElem?_getD, List.getElem?_eq_getElem hj]; exact List.getElem_mem hj
    by_cases hc : opn c
    · obtain ⟨k1, k2, k3⟩ := mt_told n r (i + 1) (out.set i (n : Int)) (op ++ [(i : Int)]) (by simp [ho]) (by omega)
        (List.nodup_append.2 ⟨hnd, by simp, fun a ha b hb => by rw [List.mem_singleton] at hb; have := hop a ha; omega⟩)
        (fun p hp => by
          rcases List.mem_append.1 hp with h | h
          · have := hop p h
            refine ⟨this.1, by omega, ?_⟩
            rw [gset _ _ _ _ (by omega), if_neg (by omega)]; exact this.2.2
          · rw [List.mem_singleton] at h
            subst h
            refine ⟨by omega, by omega, ?_⟩
            rw [Int.toNat_natCast, gset _ _ _ _ (by omega), if_pos rfl])
      rw [mt, if_pos hc]
      have hk3 : ∀ j, j < op.length + 1 → (mt n r (i + 1) (out.set i (n : Int)) (op ++ [(i : Int)])).getD ((op ++ [(i : Int)]).getD j 0).toNat 0 = ((i + 1 + cls r (op.length - j) : Nat) : Int) := fun j hj => by
        have := k3 j (by simp; omega)
        rw [List.length_append, List.length_singleton, Nat.add_sub_cancel] at this
        exact this
      refine ⟨fun t ht hto => ?_, fun p hp hn => ?_, fun j hj => ?_⟩
      · cases t with
        | zero =>
          have := hk3 op.length (by omega)
          rw [List.getD_eq_getElem?_getD (l := op ++ [(i : Int)]), List.getElem?_append_right (Nat.le_refl _), Nat.sub_self] at this
          simpa using this
        | succ t =>
          rw [List.getD_cons_succ] at hto
          have := k1 t (by rw [List.length_cons] at ht; omega) hto
          rw [show i + (t + 1) = i + 1 + t by omega, List.drop_succ_cons]
          exact this
      · rw [k2 p (by omega) (fun h => by
          rcases List.mem_append.1 h with h | h
          · exact hn h
          · rw [List.mem_singleton] at h; omega), gset _ _ _ _ (by omega), if_neg (by omega)]
      · have := hk3 j (by omega)
        rw [List.getD_eq_getElem?_getD (l := op ++ [(i : Int)]), List.getElem?_append_left hj, ← List.getD_eq_getElem?_getD] at this
        rw [this, cls, if_pos hc, show op.length - 1 - j + 1 = op.length - j by omega]
        omega
    · by_cases h22 : c = 22
      · by_cases hz : op.length = 0
        · obtain ⟨k1, k2, k3⟩ := mt_told n r (i + 1) out op ho (by omega) hnd (fun p hp => by have := hop p hp; exact ⟨this.1, by omega, this.2.2⟩)
          rw [mt, if_neg hc, if_pos h22, if_pos hz]
          refine ⟨fun t ht hto => ?_, fun p hp hn => k2 p (by omega) hn, fun j hj => absurd hj (by omega)⟩
          cases t with
          | zero => rw [List.getD_cons_zero] at hto; exact absurd hto hc
          | succ t =>
            rw [List.getD_cons_succ] at hto
            have := k1 t (by rw [List.length_cons] at ht; omega) hto
            rw [show i + (t + 1) = i + 1 + t by omega, List.drop_succ_cons]
            exact this
        · have hlast := hop _ (hmem (op.length - 1) (by omega))
          generalize hx : op.getD (op.length - 1) 0 = x at hlast
          have hnl : ∀ j, j < op.length - 1 → op.getD j 0 ≠ x := fun j hj e => by
            rw [← hx, List.getD_eq_getElem?_getD, List.getD_eq_getElem?_getD, List.getElem?_eq_getElem (by omega), List.getElem?_eq_getElem (by omega)] at e
            have := (List.getElem_inj hnd).1 e
            omega
          have hnx : ∀ p, p ∈ op.take (op.length - 1) → p ≠ x := fun p hp e => by
            obtain ⟨j, hj, e2⟩ := List.getElem_of_mem hp
            rw [List.length_take] at hj
            rw [List.getElem_take] at e2
            refine hnl j (by omega) ?_
            rw [List.getD_eq_getElem?_getD, List.getElem?_eq_getElem (by omega)]
            exact e2.trans e
          obtain ⟨k1, k2, k3⟩ := mt_told n r (i + 1) ((out.set x.toNat (i : Int)).set i x) (op.take (op.length - 1)) (by simp [ho]) (by omega) (hnd.sublist (List.take_sublist _ _))
            (fun p hp => by
              have := hop p (List.mem_of_mem_take hp)
              have := hnx p hp
              refine ⟨by omega, by omega, ?_⟩
              rw [gset _ _ _ _ (by simp; omega), if_neg (by omega), gset _ _ _ _ (by omega), if_neg (by omega)]; omega)
          rw [mt, if_neg hc, if_pos h22, if_neg hz, hx]
          refine ⟨fun t ht hto => ?_, fun p hp hn => ?_, fun j hj => ?_⟩
          · cases t with
            | zero => rw [List.getD_cons_zero] at hto; exact absurd hto hc
            | succ t =>
              rw [List.getD_cons_succ] at hto
              have := k1 t (by rw [List.length_cons] at ht; omega) hto
              rw [show i + (t + 1) = i + 1 + t by omega, List.drop_succ_cons]
              exact this
          · have hpx : (p : Int) ≠ x := fun e => hn (by rw [e, ← hx]; exact hmem _ (by omega))
            rw [k2 p (by omega) (fun h => hn (List.mem_of_mem_take h)), gset _ _ _ _ (by simp; omega), if_neg (by omega), gset _ _ _ _ (by omega), if_neg (by omega)]
          · by_cases hjl : j = op.length - 1
            · rw [hjl, hx, k2 x.toNat (by omega) (fun h => hnx _ h (by omega)), gset _ _ _ _ (by simp; omega), if_neg (by omega), gset _ _ _ _ (by omega), if_pos rfl, cls, if_neg hc, if_pos h22, if_pos (by omega)]
              rfl
            · have := k3 j (by rw [List.length_take]; omega)
              rw [List.length_take, List.getD_eq_getElem?_getD (l := op.take _), List.getElem?_take, if_pos (by omega), ← List.getD_eq_getElem?_getD] at this
              rw [this, cls, if_neg hc, if_pos h22, if_neg (by omega), show min (op.length - 1) op.length - 1 - j = op.length - 1 - j - 1 by omega]
              omega
      · obtain ⟨k1, k2, k3⟩ := mt_told n r (i + 1) out op ho (by omega) hnd (fun p hp => by have := hop p hp; exact ⟨this.1, by omega, this.2.2⟩)
        rw [mt, if_neg hc, if_neg h22]
        refine ⟨fun t ht hto => ?_, fun p hp hn => k2 p (by omega) hn, fun j hj => ?_⟩
        · cases t with
          | zero => rw [List.getD_cons_zero] at hto; exact absurd hto hc
          | succ t =>
            rw [List.getD_cons_succ] at hto
            have := k1 t (by rw [List.length_cons] at ht; omega) hto
            rw [show i + (t + 1) = i + 1 + t by omega, List.drop_succ_cons]
            exact this
        · rw [k3 j hj, cls, if_neg hc, if_neg h22]
          omega
theorem mat_told (q : List Int) (i : Nat) (hi : i < q.length) (ho : opn (q.getD i 0)) : (mat q).getD i 0 = ((i + 1 + cls (q.drop (i + 1)) 0 : Nat) : Int) := by
  have := (mt_told q.length q 0 (List.replicate q.length (-1)) [] (by simp) (by omega) List.nodup_nil (fun p hp => by cases hp)).1 i hi ho
  rw [Nat.zero_add] at this
  exact this
theorem rmat_l0 (q : List Int) (hq : q.length ≤ 17592186043000) : ∀ (d k i : Nat), i + d = q.length → naskhref20_Matches.l0 (k + d + 1) q (List.replicate i (-1)) (i : Int) = naskhref20_Matches.l1 k q (List.replicate q.length (-1)) 0 := by
  intro d
  induction d with
  | zero =>
    intro k i hi
    obtain rfl : i = q.length := by omega
    rw [naskhref20_Matches.l0, if_neg (by omega)]
  | succ d ih =>
    intro k i hi
    have w1 : wrap64 ((i : Int) + 1) = ((i + 1 : Nat) : Int) := up1 (by omega) (by omega)
    have hl : (List.replicate i (-1 : Int)).length < 17592186044416 := by simp; omega
    rw [show k + (d + 1) + 1 = (k + d + 1) + 1 by omega, naskhref20_Matches.l0, if_pos (by omega), if_pos hl, w1, ← List.replicate_succ']
    exact ih k (i + 1) (by omega)
def clo (q : List Int) (j : Nat) : Nat := j + 1 + cls (q.drop (j + 1)) 0
theorem rmat_l1 (q : List Int) (hq : q.length ≤ 17592186043000) : ∀ (d k i : Nat) (out : List Int), i + d = q.length → 2 * q.length + 3 + d < k → out.length = q.length → (∀ j, j < i → opn (q.getD j 0) → out.getD j 0 = (clo q j : Int)) → ∃ R : List Int, naskhref20_Matches.l1 k q out (i : Int) = some R ∧ R.length = q.length ∧ ∀ j, j < q.length → opn (q.getD j 0) → R.getD j 0 = (clo q j : Int) := by
  intro d
  induction d with
  | zero =>
    intro k i out hi hk ho hj
    obtain ⟨k, rfl⟩ : ∃ m, k = m + 1 := ⟨k - 1, by omega⟩
    exact ⟨out, by rw [naskhref20_Matches.l1, if_neg (by omega)], ho, fun j h => hj j (by omega)⟩
  | succ d ih =>
    intro k i out hi hk ho hj
    obtain ⟨k, rfl⟩ : ∃ m, k = m + 1 := ⟨k - 1, by omega⟩
    have hlt : i < q.length := by omega
    have g1 : (i : Int) < (q.length : Int) := by omega
    have g2 : (0 : Int) ≤ (i : Int) := by omega
    have hkk : 2 * q.length + 2 < k := by omega
    have hkd : 2 * q.length + 3 + d < k := by omega
    have b1 : (i : Int) ≤ 17592186043000 := by omega
    have hc := closes_f q hq k i hkk hlt
    have hgq : q.getD i 0 = q[i] := by rw [List.getD_eq_getElem?_getD, List.getElem?_eq_getElem hlt, Option.getD_some]
    have hr : rd q (i : Int) = q[i] := rd_nat q i hlt
    have w1 : wrap64 ((i : Int) + 1) = ((i + 1 : Nat) : Int) := (up1 g2 b1).trans (by omega)
    have gset : ∀ (l : List Int) (a p : Nat) (x : Int), p < l.length → (l.set a x).getD p 0 = if a = p then x else l.getD p 0 := fun l a p x hp => by
      rw [List.getD_eq_getElem?_getD, List.getElem?_set]
      by_cases h : a = p
      · rw [if_pos h, if_pos h, if_pos (by omega)]; rfl
      · rw [if_neg h, if_neg h, List.getD_eq_getElem?_getD]
    have hnx := fun out' h1 h2 => ih k (i + 1) out' (by omega) hkd h1 h2
    rw [naskhref20_Matches.l1, if_pos g1, if_pos g2, hr, opens3_f, Option.bind_some, hc, Option.bind_some, ho, if_pos g1, Option.bind_some, w1, Int.toNat_natCast, Int.toNat_natCast]
    by_cases hop : opn q[i]
    · rw [if_pos (decide_eq_true hop)]
      have hset : ∀ j, j < i + 1 → opn (q.getD j 0) → (out.set i ((i + 1 + cls (q.drop (i + 1)) 0 : Nat) : Int)).getD j 0 = (clo q j : Int) := fun j h1 h2 => by
        rw [gset _ _ _ _ (by omega)]
        by_cases hij : i = j
        · rw [if_pos hij, ← hij]; rfl
        · rw [if_neg hij]; exact hj j (by omega) h2
      by_cases ht : ((i + 1 + cls (q.drop (i + 1)) 0 : Nat) : Int) < (q.length : Int)
      · rw [if_pos ht, if_pos (Int.natCast_nonneg _), if_pos ht]
        refine hnx _ (by simp [ho]) (fun j h1 h2 => ?_)
        rw [gset _ _ _ _ (by rw [List.length_set]; omega), if_neg ?_]
        · exact hset j h1 h2
        · intro e
          have hp := cls_pdi (q.drop (i + 1)) 0 (by rw [List.length_drop]; omega)
          rw [List.getD_eq_getElem?_getD, List.getElem?_drop, ← List.getD_eq_getElem?_getD, e] at hp
          rw [hp] at h2
          exact not_opn22 h2
      · rw [if_neg ht]
        exact hnx _ (by simp [ho]) hset
    · rw [decide_eq_false hop, if_neg (by decide)]
      refine hnx _ ho (fun j h1 h2 => ?_)
      by_cases hij : i = j
      · subst hij; rw [hgq] at h2; exact absurd h2 hop
      · exact hj j (by omega) h2
theorem rmat_f (q : List Int) (hq : q.length ≤ 17592186043000) (k : Nat) (hk : 4 * q.length + 10 < k) : ∃ R : List Int, naskhref20_Matches.f k q = some R ∧ R.length = q.length ∧ ∀ j, j < q.length → opn (q.getD j 0) → R.getD j 0 = (clo q j : Int) := by
  obtain ⟨m, rfl⟩ : ∃ m, k = m + q.length + 1 := ⟨k - q.length - 1, by omega⟩
  obtain ⟨R, e, h1, h2⟩ := rmat_l1 q hq q.length m 0 (List.replicate q.length (-1)) (by omega) (by omega) (by simp) (fun j h => absurd h (Nat.not_lt_zero _))
  refine ⟨R, ?_, h1, h2⟩
  unfold naskhref20_Matches.f
  exact (rmat_l0 q hq q.length m 0 (by omega)).trans e
def lf (c : Int) : Bool := decide (c = 14 ∨ c = 15 ∨ c = 16 ∨ c = 17 ∨ c = 18 ∨ c = 9)
theorem left_f (c : Int) : explicit_Left.f c = some (lf c) := by
  unfold explicit_Left.f lf
  repeat' split
  all_goals (congr 1; symm; first | (rw [decide_eq_true_eq]; omega) | (rw [decide_eq_false_iff_not]; omega))
theorem rleft_f (c : Int) : naskhref22_Left.f c = some (lf c) := by
  unfold naskhref22_Left.f lf
  by_cases h9 : c = 9
  · have e : (c == 9) = true := beq_iff_eq.mpr h9
    rw [if_neg (by omega), e]
    congr 1; symm; rw [decide_eq_true_eq]; omega
  · have e : (c == 9) = false := beq_eq_false_iff_ne.mpr h9
    rw [e]
    repeat' split
    all_goals (congr 1; symm; first | (rw [decide_eq_true_eq]; omega) | (rw [decide_eq_false_iff_not]; omega))
def kp : List Int → Nat → List Int
  | [], _ => []
  | c :: r, i => if lf c = true then kp r (i + 1) else (i : Int) :: kp r (i + 1)
theorem kp_mem : ∀ (r : List Int) (i : Nat) (x : Int), x ∈ kp r i → (i : Int) ≤ x ∧ x < ((i + r.length : Nat) : Int)
  | [], _, _, h => by cases h
  | c :: r, i, x, h => by
    have ih := kp_mem r (i + 1)
    rw [kp] at h
    rw [List.length_cons]
    by_cases hc : lf c = true
    · rw [if_pos hc] at h; have := ih x h; omega
    · rw [if_neg hc] at h
      rcases List.mem_cons.1 h with rfl | h
      · omega
      · have := ih x h; omega
theorem kp_sorted : ∀ (r : List Int) (i : Nat), (kp r i).Pairwise (· < ·)
  | [], _ => List.Pairwise.nil
  | c :: r, i => by
    rw [kp]
    by_cases hc : lf c = true
    · rw [if_pos hc]; exact kp_sorted r (i + 1)
    · rw [if_neg hc]
      exact List.pairwise_cons.2 ⟨fun x hx => by have := kp_mem r (i + 1) x hx; omega, kp_sorted r (i + 1)⟩
theorem kp_len : ∀ (r : List Int) (i : Nat), (kp r i).length ≤ r.length
  | [], _ => Nat.le_refl _
  | c :: r, i => by
    have := kp_len r (i + 1)
    rw [kp, List.length_cons]
    split
    · omega
    · rw [List.length_cons]; omega
theorem kept_l0 (q : List Int) (hq : q.length ≤ 200) : ∀ (n k i : Nat) (out : List Int), i + n = q.length → n < k → out.length ≤ i → seq_kept.l0 k out q (q.length : Int) (i : Int) = some (out ++ kp (q.drop i) i) := by
  intro n
  induction n with
  | zero =>
    intro k i out hi hk ho
    obtain ⟨k, rfl⟩ : ∃ m, k = m + 1 := ⟨k - 1, by omega⟩
    rw [seq_kept.l0, if_neg (by omega), List.drop_eq_nil_of_le (by omega), kp, List.append_nil]
  | succ n ih =>
    intro k i out hi hk ho
    obtain ⟨k, rfl⟩ : ∃ m, k = m + 1 := ⟨k - 1, by omega⟩
    have hlt : i < q.length := by omega
    have w1 : wrap64 ((i : Int) + 1) = ((i + 1 : Nat) : Int) := (up1 (by omega) (by omega)).trans (by omega)
    have hlo : out.length < 17592186044416 := by omega
    rw [seq_kept.l0, if_pos (by omega), if_pos (by omega), if_pos (by omega), rd_nat q i hlt, left_f, Option.bind_some, w1, List.drop_eq_getElem_cons hlt, kp]
    by_cases hc : lf q[i] = true
    · rw [if_pos hc, if_pos hc]; exact ih k (i + 1) out (by omega) (by omega) (by omega)
    · rw [if_neg hc, if_neg hc, if_pos hlo, ih k (i + 1) _ (by omega) (by omega) (by simp; omega), List.append_assoc]; rfl
theorem kept_f (q : List Int) (hq : q.length ≤ 200) (k : Nat) (hk : q.length < k) : seq_kept.f k q = some (kp q 0) := by
  unfold seq_kept.f
  rw [show (0 : Int) = ((0 : Nat) : Int) from rfl, kept_l0 q hq q.length k 0 [] (by omega) hk (Nat.le_refl _)]
  rfl
def lastp (out : List (List Int)) : Int := (out.getD (out.length - 1) []).getD ((out.getD (out.length - 1) []).length - 1) 0
def addR (L : List Int) (out : List (List Int)) (i : Int) : List (List Int) :=
  if out.length = 0 then [[i]] else if rd L (lastp out) = rd L i then out.set (out.length - 1) (out.getD (out.length - 1) [] ++ [i]) else out ++ [[i]]
structure Rn (out : List (List Int)) (K : List Int) : Prop where
  flat : out.flatten = K
  ne : ∀ l ∈ out, l ≠ []
theorem rd_L1_nat (l : List (List Int)) (i : Nat) : rd_L1 l (i : Int) = l.getD i [] := by simp [rd_L1]
theorem rd_getD (l : List Int) (i : Nat) : rd l (i : Int) = l.getD i 0 := by simp [rd]
theorem flat_set_last (out : List (List Int)) (hp : 0 < out.length) (x : Int) : (out.set (out.length - 1) (out.getD (out.length - 1) [] ++ [x])).flatten = out.flatten ++ [x] := by
  obtain ⟨a, b, rfl⟩ : ∃ a b, out = a ++ [b] := by
    refine ⟨out.take (out.length - 1), out.getD (out.length - 1) [], ?_⟩
    rw [List.getD_eq_getElem?_getD, List.getElem?_eq_getElem (by omega), Option.getD_some]
    have h := List.take_append_drop (out.length - 1) out
    rw [List.drop_eq_getElem_cons (by omega), show out.length - 1 + 1 = out.length by omega, List.drop_length] at h
    exact h.symm
  simp
theorem addR_rn {L : List Int} {out : List (List Int)} {K : List Int} (h : Rn out K) (i : Int) : Rn (addR L out i) (K ++ [i]) := by
  unfold addR
  by_cases h0 : out.length = 0
  · rw [if_pos h0]
    obtain rfl := List.length_eq_zero_iff.1 h0
    have := h.flat
    subst this
    exact ⟨rfl, fun l hl => by rw [List.mem_singleton] at hl; rw [hl]; simp⟩
  · rw [if_neg h0]
    by_cases he : rd L (lastp out) = rd L i
    · rw [if_pos he]
      refine ⟨by rw [flat_set_last out (by omega), h.flat], fun l hl => ?_⟩
      rcases List.mem_or_eq_of_mem_set hl with h1 | h1
      · exact h.ne l h1
      · rw [h1]; simp
    · rw [if_neg he]
      refine ⟨by rw [List.flatten_append, h.flat]; rfl, fun l hl => ?_⟩
      rcases List.mem_append.1 hl with h1 | h1
      · exact h.ne l h1
      · rw [List.mem_singleton] at h1; rw [h1]; simp
theorem addR_len {L : List Int} {out : List (List Int)} (i : Int) : (addR L out i).length ≤ out.length + 1 := by
  unfold addR
  repeat' split
  all_goals simp
theorem len_flat : ∀ (out : List (List Int)) (l : List Int), l ∈ out → l.length ≤ out.flatten.length
  | a :: out, l, h => by
    rw [List.flatten_cons, List.length_append]
    rcases List.mem_cons.1 h with rfl | h
    · omega
    · have := len_flat out l h; omega
theorem rn_len {out : List (List Int)} {K : List Int} (h : Rn out K) : ∀ l ∈ out, l.length ≤ K.length := fun l hl => by
  rw [← h.flat]
  exact len_flat out l hl
theorem rn_mem {out : List (List Int)} {K : List Int} (h : Rn out K) : ∀ l ∈ out, ∀ x ∈ l, x ∈ K := fun l hl x hx => by
  rw [← h.flat]
  exact List.mem_flatten.2 ⟨l, hl, hx⟩
theorem rn_last {out : List (List Int)} {K : List Int} (h : Rn out K) (hp : 0 < out.length) : lastp out ∈ K ∧ 0 < (out.getD (out.length - 1) []).length ∧ (out.getD (out.length - 1) []).length ≤ K.length := by
  have hm : out.getD (out.length - 1) [] ∈ out := by rw [List.getD_eq_getElem?_getD, List.getElem?_eq_getElem (by omega)]; exact List.getElem_mem _
  have hn := h.ne _ hm
  have hl : 0 < (out.getD (out.length - 1) []).length := Nat.pos_of_ne_zero (fun h => hn (List.length_eq_zero_iff.1 h))
  refine ⟨rn_mem h _ hm _ ?_, hl, rn_len h _ hm⟩
  unfold lastp
  rw [List.getD_eq_getElem?_getD (l := out.getD (out.length - 1) []), List.getElem?_eq_getElem (by omega)]
  exact List.getElem_mem _
theorem runs_l0 (L K : List Int) (hL : L.length ≤ 200) (hK : K.length ≤ 200) (hm : ∀ x ∈ K, 0 ≤ x ∧ x < (L.length : Int)) : ∀ (n k i : Nat) (out : List (List Int)), i + n = K.length → n < k → out.length ≤ i → (i = 0 ↔ out.length = 0) → Rn out (K.take i) →
    seq_Runs.l0 k L out K (K.length : Int) (i : Int) = some ((K.drop i).foldl (addR L) out) := by
  intro n
  induction n with
  | zero =>
    intro k i out hi hk ho h0 hr
    obtain ⟨k, rfl⟩ : ∃ m, k = m + 1 := ⟨k - 1, by omega⟩
    rw [seq_Runs.l0, if_neg (by omega), List.drop_eq_nil_of_le (by omega)]
    rfl
  | succ n ih =>
    intro k i out hi hk ho h0 hr
    obtain ⟨k, rfl⟩ : ∃ m, k = m + 1 := ⟨k - 1, by omega⟩
    have hlt : i < K.length := by omega
    have w1 : wrap64 ((i : Int) + 1) = ((i + 1 : Nat) : Int) := (up1 (by omega) (by omega)).trans (by omega)
    have hrd : rd K (i : Int) = K[i] := rd_nat K i hlt
    have hx := hm K[i] (List.getElem_mem hlt)
    have hlo : out.length < 5864062014805 := by omega
    have htk : K.take (i + 1) = K.take i ++ [K[i]] := by rw [List.take_succ_eq_append_getElem hlt]
    have hnx := ih k (i + 1) (addR L out K[i]) (by omega) (by omega) (by have := addR_len (L := L) (out := out) K[i]; omega) ⟨fun h => by omega, fun h => by
      exfalso
      have h1 := (addR_rn (L := L) hr K[i]).flat
      rw [List.length_eq_zero_iff.1 h] at h1
      have := congrArg List.length h1
      simp at this
      omega⟩ (by rw [htk]; exact addR_rn hr _)
    rw [seq_Runs.l0, if_pos (by omega), if_pos (by omega), if_pos (by omega), hrd, w1, List.drop_eq_getElem_cons hlt, List.foldl_cons]
    by_cases hi0 : i = 0
    · have ho0 := h0.1 hi0
      have e : addR L out K[i] = out ++ [[K[i]]] := by unfold addR; rw [if_pos ho0, List.length_eq_zero_iff.1 ho0]; rfl
      rw [e] at hnx ⊢
      rw [if_pos (by omega), if_pos hlo]
      exact hnx
    · have ho0 : 0 < out.length := by omega
      obtain ⟨hl1, hl2, hl3⟩ := rn_last hr ho0
      have hlm := hm _ (List.mem_of_mem_take hl1)
      rw [List.length_take] at hl3
      have w2 : wrap64 ((out.length : Int) - 1) = ((out.length - 1 : Nat) : Int) := by rw [w64 (by omega) (by omega)]; omega
      have w3 : wrap64 (((out.getD (out.length - 1) []).length : Int) - 1) = (((out.getD (out.length - 1) []).length - 1 : Nat) : Int) := by rw [w64 (by omega) (by omega)]; omega
      have hll : (out.getD (out.length - 1) []).length < 17592186044416 := by omega
      rw [if_neg (by omega), w2, rd_L1_nat, w3, rd_getD, if_pos (by omega), if_pos (by omega), if_pos (by omega), if_pos (by omega)]
      change (if 0 ≤ lastp out then _ else _) = _
      rw [if_pos hlm.1]
      change (if lastp out < (L.length : Int) then _ else _) = _
      rw [if_pos hlm.2, if_pos hx.1, if_pos hx.2, Int.toNat_natCast]
      change (if rd L (lastp out) = rd L K[i] then _ else _) = _
      by_cases he : rd L (lastp out) = rd L K[i]
      · have e : addR L out K[i] = out.set (out.length - 1) (out.getD (out.length - 1) [] ++ [K[i]]) := by unfold addR; rw [if_neg (by omega), if_pos he]
        rw [e] at hnx ⊢
        rw [if_pos he, if_pos hll]
        exact hnx
      · have e : addR L out K[i] = out ++ [[K[i]]] := by unfold addR; rw [if_neg (by omega), if_neg he]
        rw [e] at hnx ⊢
        rw [if_neg he, if_pos hlo]
        exact hnx
def rns (L C : List Int) : List (List Int) := (kp C 0).foldl (addR L) []
theorem runs_f (L C : List Int) (hL : L.length ≤ 200) (he : L.length = C.length) (k : Nat) (hk : 200 < k) : seq_Runs.f k L C = some (rns L C) := by
  have hl := kp_len C 0
  unfold seq_Runs.f
  rw [if_pos (by omega), kept_f C (by omega) k (by omega), Option.bind_some, show (0 : Int) = ((0 : Nat) : Int) from rfl]
  exact runs_l0 L (kp C 0) hL (by omega) (fun x hx => by have := kp_mem C 0 x hx; omega) (kp C 0).length k 0 [] (by omega) (by omega) (Nat.le_refl _) ⟨fun _ => rfl, fun _ => rfl⟩ ⟨rfl, fun _ h => by cases h⟩
theorem fold_rn (L : List Int) : ∀ (K : List Int) (out : List (List Int)) (P : List Int), Rn out P → Rn (K.foldl (addR L) out) (P ++ K)
  | [], out, P, h => by rw [List.append_nil]; exact h
  | x :: K, out, P, h => by
    have := fold_rn L K (addR L out x) (P ++ [x]) (addR_rn h x)
    rw [List.append_assoc] at this
    exact this
theorem rns_rn (L C : List Int) : Rn (rns L C) (kp C 0) := by
  have := fold_rn L (kp C 0) [] [] ⟨rfl, fun _ h => by cases h⟩
  exact this
theorem lastp_app (out : List (List Int)) (i : Int) : lastp (out ++ [[i]]) = i := by
  unfold lastp
  simp
theorem lastp_set (out : List (List Int)) (hp : 0 < out.length) (l : List Int) (i : Int) : lastp (out.set (out.length - 1) (l ++ [i])) = i := by
  unfold lastp
  have e : (out.set (out.length - 1) (l ++ [i])).getD ((out.set (out.length - 1) (l ++ [i])).length - 1) [] = l ++ [i] := by
    rw [List.length_set, List.getD_eq_getElem?_getD, List.getElem?_set_self (by omega)]; rfl
  rw [e]
  simp
theorem lastp_addR (L : List Int) (out : List (List Int)) (i : Int) : lastp (addR L out i) = i ∧ 0 < (addR L out i).length := by
  unfold addR
  by_cases h0 : out.length = 0
  · rw [if_pos h0]; exact ⟨rfl, by simp⟩
  · rw [if_neg h0]
    by_cases he : rd L (lastp out) = rd L i
    · rw [if_pos he]; exact ⟨lastp_set out (by omega) _ i, by rw [List.length_set]; omega⟩
    · rw [if_neg he]; exact ⟨lastp_app out i, by simp⟩
theorem rruns_l0 (L C : List Int) (hL : L.length ≤ 200) (he : L.length = C.length) : ∀ (n k i : Nat) (out : List (List Int)) (last : Int) (P : List Int), i + n = L.length → n < k → out.length ≤ i → P.length ≤ i → Rn out P → (∀ x ∈ P, 0 ≤ x ∧ x < (L.length : Int)) → ((out.length = 0 ∧ last = -1) ∨ (0 < out.length ∧ last = lastp out)) →
    naskhref23_Runs.l0 k L C out last (i : Int) = some ((kp (C.drop i) i).foldl (addR L) out) := by
  intro n
  induction n with
  | zero =>
    intro k i out last P hi hk ho hP hr hm hla
    obtain ⟨k, rfl⟩ : ∃ m, k = m + 1 := ⟨k - 1, by omega⟩
    rw [naskhref23_Runs.l0, if_neg (by omega), List.drop_eq_nil_of_le (by omega)]
    rfl
  | succ n ih =>
    intro k i out last P hi hk ho hP hr hm hla
    obtain ⟨k, rfl⟩ : ∃ m, k = m + 1 := ⟨k - 1, by omega⟩
    have hlt : i < C.length := by omega
    have w1 : wrap64 ((i : Int) + 1) = ((i + 1 : Nat) : Int) := (up1 (by omega) (by omega)).trans (by omega)
    have hrd : rd C (i : Int) = C[i] := rd_nat C i hlt
    rw [naskhref23_Runs.l0, if_pos (by omega), if_pos (by omega), if_pos (by omega), hrd, rleft_f, Option.bind_some, w1, List.drop_eq_getElem_cons hlt, kp]
    by_cases hc : lf C[i] = true
    · rw [if_pos hc, if_pos hc]
      exact ih k (i + 1) out last P (by omega) (by omega) (by omega) (by omega) hr hm hla
    · have hnx := ih k (i + 1) (addR L out (i : Int)) (i : Int) (P ++ [(i : Int)]) (by omega) (by omega) (by have := addR_len (L := L) (out := out) (i : Int); omega) (by simp; omega) (addR_rn hr _) (fun x hx => by
        rcases List.mem_append.1 hx with h | h
        · exact hm x h
        · rw [List.mem_singleton] at h; omega) (.inr ⟨(lastp_addR L out _).2, (lastp_addR L out _).1.symm⟩)
      have hlo : out.length < 5864062014805 := by omega
      have a1 : (out ++ [[]] : List (List Int)).length = out.length + 1 := by simp
      have a2 : wrap64 (((out ++ [[]] : List (List Int)).length : Int) - 1) = (out.length : Int) := by rw [a1, w64 (by omega) (by omega)]; omega
      have a3 : rd_L1 (out ++ [[]]) (out.length : Int) = [] := by rw [rd_L1_nat]; simp
      have a4 : (out ++ [[]] : List (List Int)).set out.length [(i : Int)] = out ++ [[(i : Int)]] := by simp
      rw [if_neg hc, if_neg hc, List.foldl_cons]
      have happ : ∀ (Y : Option (List (List Int))), (if out.length < 5864062014805 then ((some (out ++ [[]] : List (List Int))).bind fun y181 => (if 0 ≤ (wrap64 ((y181.length : Int) - 1)) then (if (wrap64 ((y181.length : Int) - 1)) < (y181.length : Int) then (if (rd_L1 y181 (wrap64 ((y181.length : Int) - 1))).length < 17592186044416 then (naskhref23_Runs.l0 k L C (y181.set ((wrap64 ((y181.length : Int) - 1)) : Int).toNat ((rd_L1 y181 (wrap64 ((y181.length : Int) - 1))) ++ [(i : Int)])) (i : Int) ((i + 1 : Nat) : Int)) else (none)) else (none)) else (none))) else (none)) = naskhref23_Runs.l0 k L C (out ++ [[(i : Int)]]) (i : Int) ((i + 1 : Nat) : Int) := fun _ => by
        rw [if_pos hlo, Option.bind_some, a2, a3, if_pos (by omega), if_pos (by rw [a1]; omega), if_pos (by simp), Int.toNat_natCast, List.nil_append, a4]
      rcases hla with ⟨h0, hl⟩ | ⟨h0, hl⟩
      · have e : addR L out (i : Int) = out ++ [[(i : Int)]] := by unfold addR; rw [if_pos h0, List.length_eq_zero_iff.1 h0]; rfl
        rw [e] at hnx ⊢
        rw [hl, if_pos (by omega), happ none]
        exact hnx
      · obtain ⟨hl1, hl2, hl3⟩ := rn_last hr h0
        have hlm := hm _ hl1
        rw [hl, if_neg (by omega), if_pos hlm.1, if_pos hlm.2]
        by_cases heq : rd L (lastp out) = rd L (i : Int)
        · have e : addR L out (i : Int) = out.set (out.length - 1) (out.getD (out.length - 1) [] ++ [(i : Int)]) := by unfold addR; rw [if_neg (by omega), if_pos heq]
          have w2 : wrap64 ((out.length : Int) - 1) = ((out.length - 1 : Nat) : Int) := by rw [w64 (by omega) (by omega)]; omega
          rw [e] at hnx ⊢
          rw [if_pos heq, w2, rd_L1_nat, if_pos (by omega), if_pos (by omega), if_pos (by omega), Int.toNat_natCast]
          exact hnx
        · have e : addR L out (i : Int) = out ++ [[(i : Int)]] := by unfold addR; rw [if_neg (by omega), if_neg heq]
          rw [e] at hnx ⊢
          rw [if_neg heq, happ none]
          exact hnx
theorem rruns_f (L C : List Int) (hL : L.length ≤ 200) (he : L.length = C.length) (k : Nat) (hk : 200 < k) : naskhref23_Runs.f k L C = some (rns L C) := by
  unfold naskhref23_Runs.f
  rw [if_pos (by omega), show (0 : Int) = ((0 : Nat) : Int) from rfl]
  exact rruns_l0 L C hL he L.length k 0 [] (-1) [] (by omega) (by omega) (Nat.le_refl _) (Nat.le_refl _) ⟨rfl, fun _ h => by cases h⟩ (fun _ h => by cases h) (.inl ⟨rfl, rfl⟩)
open Stk (okI gput gdel begF rkI lastL nxtF chainF isoB nearF dirF behF)
abbrev hd (R : List (List Int)) (j : Nat) : Int := rd (R.getD j []) 0
structure Rs (R : List (List Int)) (K : List Int) (n : Nat) : Prop where
  ne : ∀ j, j < R.length → 0 < (R.getD j []).length
  up : ∀ i j, i < j → j < R.length → hd R i < hd R j
  mem : ∀ j, j < R.length → ∀ x ∈ R.getD j [], x ∈ K
  len : ∀ j, j < R.length → (R.getD j []).length ≤ 200
  bd : ∀ x ∈ K, 0 ≤ x ∧ x < (n : Int)
  nn : n ≤ 200
  rl : R.length ≤ 200
theorem hd_mem {R : List (List Int)} {K : List Int} {n : Nat} (h : Rs R K n) (j : Nat) (hj : j < R.length) : hd R j ∈ K := by
  refine h.mem j hj _ ?_
  have h1 := h.ne j hj
  rw [hd, show (0 : Int) = ((0 : Nat) : Int) from rfl, rd_nat _ 0 h1]
  exact List.getElem_mem h1
theorem hd_inj {R : List (List Int)} {K : List Int} {n : Nat} (h : Rs R K n) {i j : Nat} (hi : i < R.length) (hj : j < R.length) (e : hd R i = hd R j) : i = j := by
  rcases Nat.lt_trichotomy i j with h1 | h1 | h1
  · have := h.up i j h1 hj; omega
  · exact h1
  · have := h.up j i h1 hi; omega
structure RelG (R : List (List Int)) (g : Int → Option (List Int)) (U : List Bool) : Prop where
  len : U.length = R.length
  at_ : ∀ j, j < R.length → g (hd R j) = if U.getD j false = true then none else some (R.getD j [])
  off : ∀ a, (∀ j, j < R.length → hd R j ≠ a) → g a = none
theorem getD_set_b (U : List Bool) (i j : Nat) (hj : j < U.length) : (U.set i true).getD j false = if i = j then true else U.getD j false := by
  rw [List.getD_eq_getElem?_getD, List.getElem?_set]
  by_cases h : i = j
  · rw [if_pos h, if_pos h, if_pos (by omega)]; rfl
  · rw [if_neg h, if_neg h, List.getD_eq_getElem?_getD]
theorem rel_step {R : List (List Int)} {K : List Int} {n : Nat} (h : Rs R K n) {g : Int → Option (List Int)} {U : List Bool} (hr : RelG R g U) {i : Nat} (hi : i < R.length) : RelG R (gdel g (hd R i)) (U.set i true) := by
  refine ⟨by rw [List.length_set]; exact hr.len, fun j hj => ?_, fun a ha => ?_⟩
  · rw [getD_set_b U i j (by rw [hr.len]; exact hj)]
    unfold gdel
    by_cases e : i = j
    · subst e; rw [if_pos rfl, if_pos rfl, if_pos rfl]
    · rw [if_neg (fun e2 => e (hd_inj h hj hi e2).symm), if_neg e]; exact hr.at_ j hj
  · unfold gdel
    rw [if_neg (fun e => ha i hi e.symm)]
    exact hr.off a ha
theorem beg_at {R : List (List Int)} {K : List Int} {n : Nat} (h : Rs R K n) : ∀ m, m ≤ R.length → (∀ j, j < m → begF R m (hd R j) = some (R.getD j [])) ∧ (∀ a, (∀ j, j < m → hd R j ≠ a) → begF R m a = none)
  | 0, _ => ⟨fun j hj => absurd hj (Nat.not_lt_zero _), fun _ _ => rfl⟩
  | m + 1, hm => by
    obtain ⟨h1, h2⟩ := beg_at h m (by omega)
    refine ⟨fun j hj => ?_, fun a ha => ?_⟩
    · rw [begF, gput]
      by_cases e : j = m
      · subst e; rw [if_pos rfl]
      · rw [if_neg (fun e2 => e (hd_inj h (by omega) (by omega) e2))]; exact h1 j (by omega)
    · rw [begF, gput, if_neg (fun e => ha m (by omega) e.symm)]
      exact h2 a (fun j hj => ha j (by omega))
theorem rel_start {R : List (List Int)} {K : List Int} {n : Nat} (h : Rs R K n) : RelG R (begF R R.length) (List.replicate R.length false) := by
  obtain ⟨h1, h2⟩ := beg_at h R.length (Nat.le_refl _)
  refine ⟨List.length_replicate, fun j hj => ?_, h2⟩
  have e : (List.replicate R.length false).getD j false = false := by rw [List.getD_eq_getElem?_getD, List.getElem?_replicate, if_pos hj]; rfl
  rw [e, if_neg (by decide)]
  exact h1 j hj
def cf (U : List Bool) : Nat := U.countP (fun b => !b)
theorem cf_set : ∀ (U : List Bool) (i : Nat), i < U.length → U.getD i false = false → cf (U.set i true) + 1 = cf U
  | b :: U, 0, _, h => by
    rw [List.getD_cons_zero] at h
    subst h
    simp [cf]
  | b :: U, i + 1, hi, h => by
    rw [List.getD_cons_succ] at h
    have := cf_set U i (by simpa using hi) h
    unfold cf at this ⊢
    rw [List.set_cons_succ, List.countP_cons, List.countP_cons]
    omega
theorem begins_l0 (R : List (List Int)) (hl : R.length ≤ 200) (hne : ∀ j, j < R.length → 0 < (R.getD j []).length) (a : Int) : ∀ (n k i : Nat), i + n = R.length → n < k →
    ∃ r, naskhref23_begins.l0 k R a (i : Int) = some r ∧ ((r = -1 ∧ ∀ j, i ≤ j → j < R.length → hd R j ≠ a) ∨ ∃ j, j < R.length ∧ r = (j : Int) ∧ hd R j = a) := by
  intro n
  induction n with
  | zero =>
    intro k i hi hk
    obtain ⟨k, rfl⟩ : ∃ m, k = m + 1 := ⟨k - 1, by omega⟩
    exact ⟨-1, by rw [naskhref23_begins.l0, if_neg (by omega)], .inl ⟨rfl, fun j h1 h2 => by omega⟩⟩
  | succ n ih =>
    intro k i hi hk
    obtain ⟨k, rfl⟩ : ∃ m, k = m + 1 := ⟨k - 1, by omega⟩
    have hn := hne i (by omega)
    have w1 : wrap64 ((i : Int) + 1) = ((i + 1 : Nat) : Int) := (up1 (by omega) (by omega)).trans (by omega)
    rw [naskhref23_begins.l0, if_pos (by omega), if_pos (by omega), rd_L1_nat, if_pos (by omega), w1]
    by_cases e : rd (R.getD i []) 0 = a
    · exact ⟨(i : Int), by rw [if_pos e], .inr ⟨i, by omega, rfl, e⟩⟩
    · obtain ⟨r, h1, h2⟩ := ih k (i + 1) (by omega) (by omega)
      refine ⟨r, by rw [if_neg e]; exact h1, ?_⟩
      rcases h2 with ⟨h2, h3⟩ | h2
      · refine .inl ⟨h2, fun j h4 h5 => ?_⟩
        by_cases e2 : j = i
        · subst e2; exact e
        · exact h3 j (by omega) h5
      · exact .inr h2
theorem lastL_app (a l : List Int) (hl : 0 < l.length) : lastL (a ++ l) ∈ l := by
  unfold lastL
  rw [show ((a ++ l).length : Int) - 1 = ((a ++ l).length - 1 : Nat) by rw [List.length_append]; omega, rd_nat _ _ (by rw [List.length_append]; omega), List.getElem_append_right (by rw [List.length_append]; omega)]
  exact List.getElem_mem _
theorem ok_bd {x : Int} (h0 : 0 ≤ x) (h1 : x ≤ 1000) : okI x = true := by
  simp [okI, Lit.wf, IntKind.min, IntKind.max, IntKind.signed, IntKind.bits]
  omega
theorem rdOf_nat (U : List Bool) (i : Nat) : rdOf false U (i : Int) = U.getD i false := by simp [rdOf]
theorem chain_sim (R : List (List Int)) (K B M M' : List Int) (h : Rs R K B.length) (hM : M.length = B.length) (hM' : M'.length = B.length) (hmm : ∀ y : Int, 0 ≤ y → y < (B.length : Int) → isoB (rd B y) = true → rd M y = rd M' y ∧ 0 ≤ rd M y ∧ rd M y ≤ (B.length : Int)) (k : Nat) (hk : 200 < k) :
    ∀ (m n : Nat) (U : List Bool) (g : Int → Option (List Int)) (i : Nat) (at_ : List Int), cf U = m → RelG R g U → i < R.length → U.getD i false = false → (i = 0 ∨ U.getD 0 false = true) → m < n → at_.length + 200 * m ≤ 40200 → (∀ x ∈ at_, x ∈ K) →
      ∃ g' U' at', chainF B M n g (R.getD i []) at_ = some (g', at') ∧ naskhref23_Sequences.chainR k B M' R n U (i : Int) at_ = some (U', at') ∧ RelG R g' U' ∧ U'.getD 0 false = true ∧ (∀ x ∈ at', x ∈ K) ∧ 0 < at'.length ∧ at'.length ≤ 40200 := by
  intro m
  induction m with
  | zero =>
    intro n U g i at_ hc hr hi hu h0 hn hl hk2
    have := cf_set U i (by rw [hr.len]; exact hi) hu
    omega
  | succ m ih =>
    intro n U g i at_ hc hr hi hu h0 hn hl hk2
    obtain ⟨n, rfl⟩ : ∃ q, n = q + 2 := ⟨n - 2, by omega⟩
    have hcs := cf_set U i (by rw [hr.len]; exact hi) hu
    have hr1 := rel_step h hr hi
    have hne := h.ne i hi
    have hll := h.len i hi
    have hb := h.nn
    have hhd := h.bd _ (hd_mem h i hi)
    have hy1 := h.mem i hi _ (lastL_app at_ (R.getD i []) hne)
    have hy := h.bd _ hy1
    have hu0 : (U.set i true).getD 0 false = true := by
      rw [getD_set_b U i 0 (by rw [hr.len]; omega)]
      rcases h0 with h0 | h0
      · rw [if_pos h0]
      · split
        · rfl
        · exact h0
    have hmem : ∀ x ∈ at_ ++ R.getD i [], x ∈ K := fun x hx => by
      rcases List.mem_append.1 hx with h1 | h1
      · exact hk2 x h1
      · exact h.mem i hi x h1
    have hlen : (at_ ++ R.getD i []).length = at_.length + (R.getD i []).length := List.length_append
    have hnx : 0 ≤ nxtF B M (lastL (at_ ++ R.getD i [])) ∧ nxtF B M (lastL (at_ ++ R.getD i [])) ≤ (B.length : Int) := by
      unfold nxtF
      split
      · rename_i hi2; exact (hmm _ hy.1 hy.2 hi2).2
      · omega
    have hF : chainF B M (n + 2) g (R.getD i []) at_ = match gdel g (hd R i) (nxtF B M (lastL (at_ ++ R.getD i []))) with
        | none => some (gdel g (hd R i), at_ ++ R.getD i [])
        | some l => chainF B M (n + 1) (gdel g (hd R i)) l (at_ ++ R.getD i []) := by
      rw [chainF, if_pos hne, if_pos (ok_bd hhd.1 (by omega)), if_pos (by omega), if_pos hy.1, if_pos hy.2, if_pos (by omega), if_pos (ok_bd hnx.1 (by omega))]
      cases gdel g (rd (R.getD i []) 0) (nxtF B M (lastL (at_ ++ R.getD i []))) <;> rfl
    have hR : naskhref23_Sequences.chainR k B M' R (n + 2) U (i : Int) at_ = (naskhref23_Sequences.nextJ k B M' R (lastL (at_ ++ R.getD i []))).bind fun j' => naskhref23_Sequences.chainR k B M' R (n + 1) (U.set i true) j' (at_ ++ R.getD i []) := by
      rw [naskhref23_Sequences.chainR, if_pos (by omega), if_pos (by rw [hr.len]; omega), rdOf_nat, hu, if_neg (by decide), Int.toNat_natCast, if_pos (by omega), if_pos hne, if_pos hy.1, if_pos hy.2, if_pos (by omega)]
    have hstop : ∀ U2 a2, naskhref23_Sequences.chainR k B M' R (n + 1) U2 (-1) a2 = some (U2, a2) := fun U2 a2 => by rw [naskhref23_Sequences.chainR, if_neg (by omega)]
    have hfin : gdel g (hd R i) (nxtF B M (lastL (at_ ++ R.getD i []))) = none → (∃ j', naskhref23_Sequences.nextJ k B M' R (lastL (at_ ++ R.getD i [])) = some j' ∧ naskhref23_Sequences.chainR k B M' R (n + 1) (U.set i true) j' (at_ ++ R.getD i []) = some (U.set i true, at_ ++ R.getD i [])) →
        ∃ g' U' at', chainF B M (n + 2) g (R.getD i []) at_ = some (g', at') ∧ naskhref23_Sequences.chainR k B M' R (n + 2) U (i : Int) at_ = some (U', at') ∧ RelG R g' U' ∧ U'.getD 0 false = true ∧ (∀ x ∈ at', x ∈ K) ∧ 0 < at'.length ∧ at'.length ≤ 40200 := fun e1 ⟨j', e2, e3⟩ =>
      ⟨gdel g (hd R i), U.set i true, at_ ++ R.getD i [], by rw [hF, e1], by rw [hR, e2, Option.bind_some, e3], hr1, hu0, hmem, by omega, by omega⟩
    generalize hye : lastL (at_ ++ R.getD i []) = y at hy hy1 hnx hF hR hfin
    by_cases hiso : isoB (rd B y) = true
    · obtain ⟨hm1, hm2, hm3⟩ := hmm y hy.1 hy.2 hiso
      have enx : nxtF B M y = rd M y := by unfold nxtF; rw [if_pos hiso]
      rw [enx] at hF hfin
      by_cases hlt : rd M' y < (B.length : Int)
      · obtain ⟨r, hb1, hb2⟩ := begins_l0 R h.rl h.ne (rd M' y) R.length k 0 (by omega) (by have := h.rl; omega)
        have hnj : naskhref23_Sequences.nextJ k B M' R y = some r := by unfold naskhref23_Sequences.nextJ naskhref23_begins.f; rw [if_pos hiso, if_pos hlt]; exact hb1
        rcases hb2 with ⟨rfl, hb2⟩ | ⟨j, hj, rfl, hj2⟩
        · exact hfin (hr1.off _ (fun j hj e => hb2 j (Nat.zero_le _) hj (e.trans hm1))) ⟨-1, hnj, hstop _ _⟩
        · have hgj := hr1.at_ j hj
          rw [hj2, ← hm1] at hgj
          by_cases hu1 : (U.set i true).getD j false = true
          · rw [if_pos hu1] at hgj
            refine hfin hgj ⟨(j : Int), hnj, ?_⟩
            rw [naskhref23_Sequences.chainR, if_pos (by omega), if_pos (by rw [hr1.len]; omega), rdOf_nat, if_pos hu1]
          · rw [if_neg hu1] at hgj
            replace hu1 := Bool.eq_false_iff.mpr hu1
            obtain ⟨g', U', at', k1, k2, k3⟩ := ih (n + 1) (U.set i true) (gdel g (hd R i)) j (at_ ++ R.getD i []) (by omega) hr1 hj hu1 (.inr hu0) (by omega) (by omega) hmem
            exact ⟨g', U', at', by rw [hF, hgj]; exact k1, by rw [hR, hnj, Option.bind_some]; exact k2, k3⟩
      · have hnj : naskhref23_Sequences.nextJ k B M' R y = some (-1) := by unfold naskhref23_Sequences.nextJ; rw [if_pos hiso, if_neg hlt]
        exact hfin (hr1.off _ (fun j hj e => by have := h.bd _ (hd_mem h j hj); omega)) ⟨-1, hnj, hstop _ _⟩
    · have enx : nxtF B M y = 0 := by unfold nxtF; rw [if_neg hiso]
      rw [enx] at hF hfin
      have hnj : naskhref23_Sequences.nextJ k B M' R y = some (-1) := by unfold naskhref23_Sequences.nextJ; rw [if_neg hiso]
      refine hfin ?_ ⟨-1, hnj, hstop _ _⟩
      by_cases hz : hd R 0 = 0
      · have := hr1.at_ 0 (by omega)
        rw [hz, if_pos hu0] at this
        exact this
      · refine hr1.off _ (fun j hj e => ?_)
        by_cases hj0 : j = 0
        · subst hj0; exact hz e
        · have h1 := h.up 0 j (by omega) hj
          have h2 := h.bd _ (hd_mem h 0 (by omega))
          omega
theorem kp_split : ∀ (C : List Int) (s j : Nat), j ≤ C.length → kp C s = kp (C.take j) s ++ kp (C.drop j) (s + j)
  | [], s, j, _ => by simp [kp]
  | c :: C, s, 0, _ => by simp [kp]
  | c :: C, s, j + 1, h => by
    have ih := kp_split C (s + 1) j (by simpa using h)
    rw [List.take_succ_cons, List.drop_succ_cons, kp, kp, show s + (j + 1) = s + 1 + j by omega]
    by_cases hc : lf c = true
    · rw [if_pos hc, if_pos hc, ih]
    · rw [if_neg hc, if_neg hc, ih]; rfl
theorem kp_dec : ∀ (C : List Int) (s : Nat) (x : Int), x ∈ kp C s → ∃ j, ∃ h : j < C.length, x = ((s + j : Nat) : Int) ∧ lf C[j] = false
  | [], _, _, h => by cases h
  | c :: C, s, x, h => by
    have ih := kp_dec C (s + 1) x
    rw [kp] at h
    by_cases hc : lf c = true
    · rw [if_pos hc] at h
      obtain ⟨j, h1, h2, h3⟩ := ih h
      exact ⟨j + 1, by simpa using h1, by omega, by simpa using h3⟩
    · rw [if_neg hc] at h
      rcases List.mem_cons.1 h with rfl | h
      · exact ⟨0, by simp, rfl, by simpa using Bool.eq_false_iff.mpr hc⟩
      · obtain ⟨j, h1, h2, h3⟩ := ih h
        exact ⟨j + 1, by simpa using h1, by omega, by simpa using h3⟩
theorem ahead_l0 (L C : List Int) (bs : Int) (hL : L.length ≤ 200) (he : L.length = C.length) : ∀ (j k : Nat), j ≤ C.length → j < k →
    naskhref23_ahead.l0 k L C bs ((j : Int) - 1) = some (if (kp (C.take j) 0).length = 0 then bs else rd L (lastL (kp (C.take j) 0))) := by
  intro j
  induction j with
  | zero =>
    intro k hj hk
    obtain ⟨k, rfl⟩ : ∃ m, k = m + 1 := ⟨k - 1, by omega⟩
    rw [naskhref23_ahead.l0, if_neg (by omega), List.take_zero, kp, if_pos (by simp)]
  | succ j ih =>
    intro k hj hk
    obtain ⟨k, rfl⟩ : ∃ m, k = m + 1 := ⟨k - 1, by omega⟩
    have hlt : j < C.length := by omega
    have w1 : wrap64 ((j : Int) - 1) = (j : Int) - 1 := by rw [w64 (by omega) (by omega)]
    have e1 : ∀ c : Int, kp [c] j = if lf c = true then [] else [(j : Int)] := fun c => by simp [kp]
    have hs : kp (C.take (j + 1)) 0 = kp (C.take j) 0 ++ (if lf C[j] = true then [] else [(j : Int)]) := by
      rw [kp_split (C.take (j + 1)) 0 j (by rw [List.length_take]; omega), List.take_take, show min j (j + 1) = j by omega, List.take_succ_eq_append_getElem hlt, List.drop_append_of_le_length (by rw [List.length_take]; omega), List.drop_of_length_le (by rw [List.length_take]; omega), List.nil_append, Nat.zero_add, e1]
    rw [show ((j + 1 : Nat) : Int) - 1 = (j : Int) by omega, naskhref23_ahead.l0, if_pos (by omega), if_pos (by omega), if_pos (by omega), rd_nat C j hlt, rleft_f, Option.bind_some, w1, hs]
    by_cases hc : lf C[j] = true
    · rw [if_pos hc, if_pos hc, List.append_nil]; exact ih k (by omega) (by omega)
    · rw [if_neg hc, if_neg hc, if_pos (by omega), if_neg (by simp)]
      congr 2
      unfold lastL
      rw [show ((kp (C.take j) 0 ++ [(j : Int)]).length : Int) - 1 = ((kp (C.take j) 0).length : Int) by simp, rd_at _ _ []]
theorem behind_l0 (L C : List Int) (bs : Int) (hL : L.length ≤ 200) (he : L.length = C.length) : ∀ (n k j : Nat), j + n = C.length → n < k →
    naskhref23_behind.l0 k L C bs (j : Int) = some (if (kp (C.drop j) j).length = 0 then bs else rd L (rd (kp (C.drop j) j) 0)) := by
  intro n
  induction n with
  | zero =>
    intro k j hj hk
    obtain ⟨k, rfl⟩ : ∃ m, k = m + 1 := ⟨k - 1, by omega⟩
    rw [naskhref23_behind.l0, if_neg (by omega), List.drop_eq_nil_of_le (by omega), kp, if_pos (by simp)]
  | succ n ih =>
    intro k j hj hk
    obtain ⟨k, rfl⟩ : ∃ m, k = m + 1 := ⟨k - 1, by omega⟩
    have hlt : j < C.length := by omega
    have w1 : wrap64 ((j : Int) + 1) = ((j + 1 : Nat) : Int) := (up1 (by omega) (by omega)).trans (by omega)
    rw [naskhref23_behind.l0, if_pos (by omega), if_pos (by omega), if_pos (by omega), rd_nat C j hlt, rleft_f, Option.bind_some, w1, List.drop_eq_getElem_cons hlt, kp]
    by_cases hc : lf C[j] = true
    · rw [if_pos hc, if_pos hc]; exact ih k (j + 1) (by omega) (by omega)
    · rw [if_neg hc, if_neg hc, if_neg (by simp)]
      rfl
theorem rk_at (K : List Int) (hs : K.Pairwise (· < ·)) : ∀ (m p : Nat), m ≤ K.length → (hp : p < m) → rkI K m (K.getD p 0) = (p : Int)
  | m + 1, p, hm, hp => by
    rw [rkI]
    have hg : ∀ q, (hq : q < K.length) → K.getD q 0 = K[q] := fun q hq => by rw [List.getD_eq_getElem?_getD, List.getElem?_eq_getElem hq]; rfl
    by_cases e : p = m
    · subst e; rw [if_pos rfl]
    · rw [if_neg ?_]
      · exact rk_at K hs m p (by omega) (by omega)
      · rw [hg p (by omega), hg m (by omega)]
        have := List.pairwise_iff_getElem.1 hs p m (by omega) (by omega) (by omega)
        omega
theorem near_sim (L C : List Int) (bs : Int) (hL : L.length ≤ 200) (he : L.length = C.length) (k : Nat) (hk : 201 < k) (x : Int) (hx : x ∈ kp C 0) :
    (∃ v, nearF L (kp C 0) bs (wrap64 (rkI (kp C 0) (kp C 0).length x + -1)) = some v ∧ naskhref23_ahead.f k L C x bs = some v) ∧ (∃ v, nearF L (kp C 0) bs (wrap64 (rkI (kp C 0) (kp C 0).length x + 1)) = some v ∧ naskhref23_behind.f k L C x bs = some v) := by
  obtain ⟨j, hj, rfl, hc⟩ := kp_dec C 0 x hx
  rw [Nat.zero_add] at *
  have hlen := kp_len C 0
  have hmem := kp_mem C 0
  have hs := kp_split C 0 j (by omega)
  rw [Nat.zero_add, List.drop_eq_getElem_cons hj, kp, hc, if_neg (by decide)] at hs
  have hsorted := kp_sorted C 0
  have ha := ahead_l0 L C bs hL he j k (by omega) (by omega)
  have hb := behind_l0 L C bs hL he (C.length - (j + 1)) k (j + 1) (by omega) (by omega)
  have hA : ∀ z ∈ kp (C.take j) 0, z ∈ kp C 0 := fun z hz => by rw [hs]; exact List.mem_append_left _ hz
  have hT : ∀ z ∈ kp (C.drop (j + 1)) (j + 1), z ∈ kp C 0 := fun z hz => by rw [hs]; exact List.mem_append_right _ (List.mem_cons_of_mem _ hz)
  generalize kp (C.take j) 0 = A at hs ha hA
  generalize kp (C.drop (j + 1)) (j + 1) = T at hs hb hT
  generalize kp C 0 = K at hs hsorted hlen hmem hA hT ⊢
  have hKl : K.length = A.length + (T.length + 1) := by rw [hs]; simp
  have hgj : K.getD A.length 0 = (j : Int) := by rw [hs]; simp
  have hrk : rkI K K.length (j : Int) = (A.length : Int) := by
    have := rk_at K hsorted K.length A.length (Nat.le_refl _) (by omega)
    rw [hgj] at this
    exact this
  rw [hrk]
  refine ⟨?_, ?_⟩
  · refine ⟨_, ?_, by unfold naskhref23_ahead.f; rw [show wrap64 ((j : Int) - 1) = (j : Int) - 1 from w64 (by omega) (by omega)]; exact ha⟩
    rw [show wrap64 ((A.length : Int) + -1) = (A.length : Int) - 1 by rw [w64 (by omega) (by omega)]; omega]
    unfold nearF
    by_cases h0 : A.length = 0
    · rw [if_pos (by omega), if_pos h0]
    · have hl : rd K ((A.length : Int) - 1) = lastL A := by
        unfold lastL
        rw [show (A.length : Int) - 1 = ((A.length - 1 : Nat) : Int) by omega, rd_nat A _ (by omega), rd_nat K _ (by omega)]
        simp only [hs]
        rw [List.getElem_append_left (by omega)]
      have hm := hmem _ (hA _ (show lastL A ∈ A by have := lastL_app [] A (by omega); rwa [List.nil_append] at this))
      rw [if_neg (by omega), if_pos (by omega), hl, if_pos (by omega), if_pos (by omega), if_neg h0]
  · refine ⟨_, ?_, by unfold naskhref23_behind.f; rw [show wrap64 ((j : Int) + 1) = ((j + 1 : Nat) : Int) from (up1 (by omega) (by omega)).trans (by omega)]; exact hb⟩
    rw [show wrap64 ((A.length : Int) + 1) = ((A.length + 1 : Nat) : Int) by rw [w64 (by omega) (by omega)]; omega]
    unfold nearF
    by_cases h0 : T.length = 0
    · rw [if_neg (by omega), if_neg (by omega), if_pos h0]
    · have hl : rd K ((A.length + 1 : Nat) : Int) = rd T 0 := by
        rw [show (0 : Int) = ((0 : Nat) : Int) from rfl, rd_nat T 0 (by omega), rd_nat K _ (by omega)]
        simp only [hs]
        rw [List.getElem_append_right (by omega)]
        simp
      have hm := hmem _ (hT (rd T 0) (by rw [show (0 : Int) = ((0 : Nat) : Int) from rfl, rd_nat T 0 (by omega)]; exact List.getElem_mem _))
      rw [if_neg (by omega), if_pos (by omega), hl, if_pos (by omega), if_pos (by omega), if_neg h0]
theorem dir_same (a b : Int) : naskhref23_Sequences.dirR a b = dirF a b := by
  unfold naskhref23_Sequences.dirR dirF
  rw [i64_and1]
  have h : Int.tmod (mx a b) 2 = 0 ↔ mx a b % 2 = 0 := by rw [← Int.dvd_iff_tmod_eq_zero, Int.dvd_iff_emod_eq_zero]
  by_cases h0 : mx a b % 2 = 0
  · rw [if_pos (h.2 h0), if_neg (by omega)]
  · rw [if_neg (fun e => h0 (h.1 e)), if_pos (by omega)]
def Same1 (s : S42) (t : S51) : Prop := s.f0 = t.f0 ∧ s.f1 = t.f1 ∧ s.f2 = t.f2 ∧ s.f3 = t.f3 ∧ s.f0.length ≤ 40200
theorem seq_sim (L C B M M' : List Int) (bs : Int) (hL : L.length ≤ 200) (he : L.length = C.length) (heB : B.length = C.length) (hM : M.length = B.length) (hM' : M'.length = B.length) (hmm : ∀ y : Int, 0 ≤ y → y < (B.length : Int) → isoB (rd B y) = true → rd M y = rd M' y ∧ 0 ≤ rd M y ∧ rd M y ≤ (B.length : Int)) (k : Nat) (hk : 201 < k) (at_ : List Int) (h0 : 0 < at_.length) (hl : at_.length ≤ 40200) (hm : ∀ x ∈ at_, x ∈ kp C 0) :
    ∃ s t, seq_Sequences.seqF L B M (kp C 0) bs at_ = some s ∧ naskhref23_Sequences.seqR k L C B M' bs at_ = some t ∧ Same1 s t ∧ s.f0 = at_ ∧ s.f1 = rd L (rd at_ 0) := by
  have hx : rd at_ 0 ∈ kp C 0 := hm _ (by rw [show (0 : Int) = ((0 : Nat) : Int) from rfl, rd_nat _ 0 h0]; exact List.getElem_mem h0)
  have hy : lastL at_ ∈ kp C 0 := hm _ (by have := lastL_app [] at_ h0; rwa [List.nil_append] at this)
  have bx := kp_mem C 0 _ hx
  have by_ := kp_mem C 0 _ hy
  obtain ⟨⟨v1, n1, a1⟩, _⟩ := near_sim L C bs hL he k hk _ hx
  obtain ⟨_, ⟨v2, n2, a2⟩⟩ := near_sim L C bs hL he k hk _ hy
  have hbeh : behF B M' (lastL at_) bs v2 = behF B M (lastL at_) bs v2 := by
    unfold behF
    by_cases hi : isoB (rd B (lastL at_)) = true
    · rw [if_pos hi, if_pos hi, (hmm _ (by omega) (by omega) hi).1]
    · rw [if_neg hi, if_neg hi]
  refine ⟨⟨at_, rd L (rd at_ 0), dirF (rd L (rd at_ 0)) v1, dirF (rd L (lastL at_)) (behF B M (lastL at_) bs v2)⟩, ⟨at_, rd L (rd at_ 0), dirF (rd L (rd at_ 0)) v1, dirF (rd L (lastL at_)) (behF B M (lastL at_) bs v2)⟩, ?_, ?_, ⟨rfl, rfl, rfl, rfl, hl⟩, rfl, rfl⟩
  · unfold seq_Sequences.seqF
    rw [if_pos h0, if_pos (by omega), if_pos (by omega), if_pos (by omega), if_pos (by omega), if_pos (by omega), if_pos (by omega), if_pos (ok_bd (by omega) (by omega)), if_pos (ok_bd (by omega) (by omega)), n1, Option.bind_some, n2, Option.bind_some]
  · unfold naskhref23_Sequences.seqR
    rw [if_pos h0, if_pos (by omega), if_pos (by omega), if_pos (by omega), if_pos (by omega), if_pos (by omega), if_pos (by omega), a1, Option.bind_some, a2, Option.bind_some, dir_same, dir_same, hbeh]
def SameL : List S42 → List S51 → Prop
  | [], [] => True
  | s :: a, t :: b => Same1 s t ∧ SameL a b
  | _, _ => False
theorem same_len : ∀ (a : List S42) (b : List S51), SameL a b → a.length = b.length
  | [], [], _ => rfl
  | s :: a, t :: b, h => by rw [List.length_cons, List.length_cons, same_len a b h.2]
theorem same_snoc : ∀ (a : List S42) (b : List S51) (s : S42) (t : S51), SameL a b → Same1 s t → SameL (a ++ [s]) (b ++ [t])
  | [], [], _, _, _, h => ⟨h, trivial⟩
  | x :: a, y :: b, s, t, h, h2 => ⟨h.1, same_snoc a b s t h.2 h2⟩
theorem same_at : ∀ (a : List S42) (b : List S51) (i : Nat), SameL a b → i < a.length → Same1 (a.getD i z42) (b.getD i z51)
  | s :: a, t :: b, 0, h, _ => h.1
  | s :: a, t :: b, i + 1, h, hi => by rw [List.getD_cons_succ, List.getD_cons_succ]; exact same_at a b i h.2 (by simpa using hi)
theorem go_sim (L C B M M' : List Int) (bs : Int) (R : List (List Int)) (hL : L.length ≤ 200) (he : L.length = C.length) (heB : B.length = C.length) (h : Rs R (kp C 0) B.length) (hM : M.length = B.length) (hM' : M'.length = B.length) (hmm : ∀ y : Int, 0 ≤ y → y < (B.length : Int) → isoB (rd B y) = true → rd M y = rd M' y ∧ 0 ≤ rd M y ∧ rd M y ≤ (B.length : Int)) (k : Nat) (hk : 201 < k) :
    ∀ (n : Nat) (U : List Bool) (g : Int → Option (List Int)) (a : List S42) (b : List S51), n ≤ R.length → RelG R g U → (0 < R.length - n → U.getD 0 false = true) → a.length ≤ R.length - n → SameL a b →
      ∃ r r', seq_Sequences.goF L B M (kp C 0) bs R n g a = some r ∧ naskhref23_Sequences.goR k L C B M' bs R n U b = some r' ∧ SameL r r' ∧ r.length ≤ R.length := by
  intro n
  induction n with
  | zero => intro U g a b hn hr h0 ha hs; exact ⟨a, b, rfl, rfl, hs, by omega⟩
  | succ n ih =>
    intro U g a b hn hr h0 ha hs
    have hi : R.length - (n + 1) < R.length := by omega
    have hne := h.ne _ hi
    have hhd := h.bd _ (hd_mem h _ hi)
    have hnn := h.nn
    have hat := hr.at_ _ hi
    have hF : seq_Sequences.goF L B M (kp C 0) bs R (n + 1) g a = match g (hd R (R.length - (n + 1))) with
        | none => seq_Sequences.goF L B M (kp C 0) bs R n g a
        | some _ => (chainF B M (R.length + 1) g (R.getD (R.length - (n + 1)) []) []).bind fun p => (seq_Sequences.seqF L B M (kp C 0) bs p.2).bind fun s => if a.length < 2932031007402 then seq_Sequences.goF L B M (kp C 0) bs R n p.1 (a ++ [s]) else none := by
      rw [seq_Sequences.goF, if_pos hne, if_pos (ok_bd hhd.1 (by omega))]
      cases g (rd (R.getD (R.length - (n + 1)) []) 0) <;> rfl
    rw [hF, naskhref23_Sequences.goR, rdOf_nat]
    have hab := same_len a b hs
    have hrl := h.rl
    by_cases hu : U.getD (R.length - (n + 1)) false = true
    · rw [if_pos hu] at hat
      rw [hat, if_pos hu]
      refine ih U g a b (by omega) hr (fun _ => ?_) (by omega) hs
      by_cases hz : R.length - (n + 1) = 0
      · rw [hz] at hu; exact hu
      · exact h0 (by omega)
    · rw [if_neg hu] at hat
      rw [hat, if_neg hu]
      obtain ⟨g', U', at', c1, c2, c3, c4, c5, c6, c7⟩ := chain_sim R (kp C 0) B M M' h hM hM' hmm k (by omega) (cf U) (R.length + 1) U g (R.length - (n + 1)) [] rfl hr hi (Bool.eq_false_iff.mpr hu) (by
        by_cases hz : R.length - (n + 1) = 0
        · exact .inl hz
        · exact .inr (h0 (by omega))) (by have : cf U ≤ U.length := List.countP_le_length; have := hr.len; omega) (by have : cf U ≤ U.length := List.countP_le_length; have := hr.len; simp; omega) (fun _ hx => by cases hx)
      obtain ⟨s, t, s1, s2, s3, _⟩ := seq_sim L C B M M' bs hL he heB hM hM' hmm k hk at' c6 c7 c5
      obtain ⟨r, r', r1, r2, r3⟩ := ih U' g' (a ++ [s]) (b ++ [t]) (by omega) c3 (fun _ => c4) (by simp; omega) (same_snoc a b s t hs s3)
      refine ⟨r, r', ?_, ?_, r3⟩
      · show ((chainF B M (R.length + 1) g (R.getD (R.length - (n + 1)) []) []).bind _) = _
        rw [c1, Option.bind_some, s1, Option.bind_some, if_pos (by omega)]; exact r1
      · rw [c2, Option.bind_some, s2, Option.bind_some, if_pos (by omega)]; exact r2
theorem heads_ok (R : List (List Int)) (K : List Int) (n : Nat) (h : Rs R K n) : seq_Sequences.headsF R = true := by
  unfold seq_Sequences.headsF
  rw [List.all_eq_true]
  intro l hl
  obtain ⟨j, hj, rfl⟩ := List.getElem_of_mem hl
  have h1 := h.ne j hj
  have h2 := h.bd _ (hd_mem h j hj)
  have hn := h.nn
  have e : R.getD j [] = R[j] := by rw [List.getD_eq_getElem?_getD, List.getElem?_eq_getElem hj]; rfl
  rw [hd, e] at h2
  rw [e] at h1
  rw [Bool.and_eq_true, decide_eq_true_eq]
  exact ⟨h1, ok_bd h2.1 (by omega)⟩
theorem rns_len (L : List Int) : ∀ (K : List Int) (out : List (List Int)), (K.foldl (addR L) out).length ≤ out.length + K.length
  | [], _ => Nat.le_refl _
  | x :: K, out => by
    have h1 := rns_len L K (addR L out x)
    have h2 := addR_len (L := L) (out := out) x
    rw [List.foldl_cons, List.length_cons]
    omega
theorem rns_rs (L C : List Int) (hL : C.length ≤ 200) : Rs (rns L C) (kp C 0) C.length := by
  have h := rns_rn L C
  have hs := kp_sorted C 0
  have hlen := kp_len C 0
  have hg : ∀ j, (hj : j < (rns L C).length) → (rns L C).getD j [] = (rns L C)[j] := fun j hj => by rw [List.getD_eq_getElem?_getD, List.getElem?_eq_getElem hj]; rfl
  have hne : ∀ j, j < (rns L C).length → 0 < ((rns L C).getD j []).length := fun j hj => by
    rw [hg j hj]
    exact Nat.pos_of_ne_zero (fun e => h.ne _ (List.getElem_mem hj) (List.length_eq_zero_iff.1 e))
  refine ⟨hne, fun i j hij hj => ?_, fun j hj x hx => ?_, fun j hj => ?_, fun x hx => ?_, hL, ?_⟩
  · rw [← h.flat] at hs
    have hp := List.pairwise_iff_getElem.1 (List.pairwise_flatten.1 hs).2 i j (by omega) hj hij
    have h1 := hne i (by omega)
    have h2 := hne j hj
    rw [hg i (by omega)] at h1
    rw [hg j hj] at h2
    rw [hd, hd, hg i (by omega), hg j hj, show (0 : Int) = ((0 : Nat) : Int) from rfl, rd_nat _ 0 h1, rd_nat _ 0 h2]
    exact hp _ (List.getElem_mem h1) _ (List.getElem_mem h2)
  · rw [hg j hj] at hx
    exact rn_mem h _ (List.getElem_mem hj) x hx
  · rw [hg j hj]
    have := rn_len h _ (List.getElem_mem hj)
    omega
  · have := kp_mem C 0 x hx
    omega
  · have := rns_len L (kp C 0) []
    unfold rns
    simp at this
    omega
theorem iso_opn (c : Int) : isoB c = true ↔ opn c := by
  unfold isoB opn
  repeat' split
  all_goals simp_all
theorem sequences_same (L C B : List Int) (bs : Int) (hL : L.length ≤ 200) (hC : C.length ≤ 200) (hB : B.length ≤ 200) (k : Nat) (hk : 1000 < k) :
    ∃ r r', seq_Sequences.f k L C B bs = some r ∧ naskhref23_Sequences.f k L C B bs = some r' ∧ SameL r r' ∧ r.length ≤ 200 := by
  unfold seq_Sequences.f naskhref23_Sequences.f
  by_cases e1 : (L.length : Int) = (C.length : Int)
  · by_cases e2 : (B.length : Int) = (C.length : Int)
    · rw [if_pos e1, if_pos e1, if_pos e2, if_pos e2, matches_f B (by omega) k (by omega), Option.bind_some, runs_f L C hL (by omega) k (by omega), Option.bind_some, kept_f C hC k (by omega), Option.bind_some, rruns_f L C hL (by omega) k (by omega), Option.bind_some]
      obtain ⟨M', m1, m2, m3⟩ := rmat_f B (by omega) k (by omega)
      rw [m1, Option.bind_some]
      have h := rns_rs L C hC
      have hkl := kp_len C 0
      have hrl := h.rl
      have hko : (kp C 0).all okI = true := by
        rw [List.all_eq_true]
        intro x hx
        have := kp_mem C 0 x hx
        exact ok_bd (by omega) (by omega)
      have eBC : B.length = C.length := by omega
      rw [← eBC] at h
      rw [if_pos (by omega), if_pos (by omega), if_pos hko, if_pos (heads_ok _ _ _ h), if_pos (by omega)]
      have hmm : ∀ y : Int, 0 ≤ y → y < (B.length : Int) → isoB (rd B y) = true → rd (mat B) y = rd M' y ∧ 0 ≤ rd (mat B) y ∧ rd (mat B) y ≤ (B.length : Int) := fun y h0 h1 hi => by
        obtain ⟨j, rfl⟩ : ∃ j : Nat, y = (j : Int) := ⟨y.toNat, by omega⟩
        rw [rd_getD] at hi
        have ho := (iso_opn _).1 hi
        have hj : j < B.length := by omega
        have t1 := mat_told B j hj ho
        have t2 := m3 j hj ho
        have t3 := cls_le (B.drop (j + 1)) 0
        rw [List.length_drop] at t3
        rw [rd_getD, rd_getD, t1, t2]
        unfold clo
        refine ⟨rfl, by omega, by omega⟩
      obtain ⟨r, r', r1, r2, r3, r4⟩ := go_sim L C B (mat B) M' bs (rns L C) hL (by omega) eBC h (mat_len B) m2 hmm k (by omega) (rns L C).length (List.replicate (rns L C).length false) (begF (rns L C) (rns L C).length) [] [] (Nat.le_refl _) (rel_start h) (fun hlt => by omega) (by simp) trivial
      exact ⟨r, r', r1, r2, r3, by omega⟩
    · rw [if_pos e1, if_pos e1, if_neg e2, if_neg e2]
      exact ⟨[], [], rfl, rfl, trivial, by simp⟩
  · rw [if_neg e1, if_neg e1]
    exact ⟨[], [], rfl, rfl, trivial, by simp⟩
theorem same_l0 (a : List S42) (b : List S51) (hs : SameL a b) (hl : a.length ≤ 200) : ∀ (n k i : Nat), i + n = a.length → n + 40300 < k → naskhlaw23_same.l0 k a b (a.length : Int) (i : Int) = some true := by
  have hab := same_len a b hs
  intro n
  induction n with
  | zero =>
    intro k i hi hk
    obtain ⟨k, rfl⟩ : ∃ m, k = m + 1 := ⟨k - 1, by omega⟩
    rw [naskhlaw23_same.l0, if_neg (by omega)]
  | succ n ih =>
    intro k i hi hk
    obtain ⟨k, rfl⟩ : ∃ m, k = m + 1 := ⟨k - 1, by omega⟩
    have w1 : wrap64 ((i : Int) + 1) = ((i + 1 : Nat) : Int) := (up1 (by omega) (by omega)).trans (by omega)
    obtain ⟨s0, s1, s2, s3, s4⟩ := same_at a b i hs (by omega)
    have ea : rd_T42 a (i : Int) = a.getD i z42 := by simp [rd_T42]
    have eb : rd_T51 b (i : Int) = b.getD i z51 := by simp [rd_T51]
    rw [naskhlaw23_same.l0, if_pos (by omega), if_pos (by omega), if_pos (by omega), if_pos (by omega), ea, eb, ← s0, equal_self_int_int _ (by omega) k (by omega), Option.bind_some, if_pos rfl, if_pos s1, if_pos s2, if_pos s3, w1]
    exact ih k (i + 1) (by omega) (by omega)
theorem same_f (a : List S42) (b : List S51) (hs : SameL a b) (hl : a.length ≤ 200) (k : Nat) (hk : 41000 < k) : naskhlaw23_same.f k a b = some true := by
  unfold naskhlaw23_same.f
  rw [if_pos (by rw [same_len a b hs]), show (0 : Int) = ((0 : Nat) : Int) from rfl]
  exact same_l0 a b hs hl a.length k 0 (by omega) (by omega)
theorem awake_f (k : Nat) (hk : 60 ≤ k) : naskhlaw23_awake.f k = some true := by
  obtain ⟨m, rfl⟩ : ∃ m, k = 60 + m := ⟨k - 60, by omega⟩
  have h : naskhlaw23_awake.f 60 = some true := by decide +kernel
  clear hk
  induction m with
  | zero => exact h
  | succ m ih => exact naskhlaw23_awake.mono (60 + m) _ ih
def sid (c : Int) : Int × Bool := if c = 0 then (0, true) else if c = 1 then (1, true) else if c = 2 then (1, true) else (0, false)
def fsl : List Int → Int → Int
  | [], _ => -1
  | c :: r, d => if opn c then fsl r (d + 1) else if c = 22 then (if (sid c).2 = true ∧ mx (d - 1) 0 = 0 then (sid c).1 else fsl r (mx (d - 1) 0)) else (if (sid c).2 = true ∧ d = 0 then (sid c).1 else fsl r d)
theorem mx_bd {d b : Int} (h0 : 0 ≤ d) (h1 : d ≤ b) : 0 ≤ mx (d - 1) 0 ∧ mx (d - 1) 0 ≤ b := by unfold mx; split <;> omega
theorem fsl_skip : ∀ (r : List Int) (d : Nat), fsl r ((d : Int) + 1) = fsl (r.drop (cls r d + 1)) 0
  | [], d => by rw [List.drop_nil]; rfl
  | c :: r, d => by
    rw [fsl, cls, List.drop_succ_cons]
    by_cases ho : opn c
    · rw [if_pos ho, if_pos ho, show (d : Int) + 1 + 1 = ((d + 1 : Nat) : Int) + 1 by omega]
      exact fsl_skip r (d + 1)
    · rw [if_neg ho, if_neg ho]
      by_cases h22 : c = 22
      · have hs : (sid c).2 = false := by rw [h22]; decide
        have hm : mx ((d : Int) + 1 - 1) 0 = (d : Int) := by unfold mx; split <;> omega
        rw [if_pos h22, if_pos h22, hs, if_neg (by simp), hm]
        by_cases hd : d = 0
        · rw [if_pos hd, hd]; rfl
        · rw [if_neg hd]
          have := fsl_skip r (d - 1)
          rw [show ((d - 1 : Nat) : Int) + 1 = (d : Int) by omega] at this
          exact this
      · rw [if_neg h22, if_neg h22, if_neg (fun h => by have := h.2; omega)]
        exact fsl_skip r d
theorem rfirst_l0 (q : List Int) (hq : q.length ≤ 17592186043000) : ∀ (n k i : Nat), q.length - i ≤ n → 2 * q.length + 3 + n < k → naskhref20_First.l0 k q (i : Int) = some (fsl (q.drop i) 0) := by
  intro n
  induction n with
  | zero =>
    intro k i hn hk
    obtain ⟨k, rfl⟩ : ∃ m, k = m + 1 := ⟨k - 1, by omega⟩
    rw [naskhref20_First.l0, if_neg (by omega), List.drop_eq_nil_of_le (by omega)]
    rfl
  | succ n ih =>
    intro k i hn hk
    obtain ⟨k, rfl⟩ : ∃ m, k = m + 1 := ⟨k - 1, by omega⟩
    by_cases hlt : i < q.length
    · have g1 : (i : Int) < (q.length : Int) := by omega
      have g2 : (0 : Int) ≤ (i : Int) := by omega
      have hn1 := ih k (i + 1) (by omega) (by omega)
      have hn2 := ih k (i + 1 + (cls (q.drop (i + 1)) 0 + 1)) (by omega) (by omega)
      have hcl := cls_le (q.drop (i + 1)) 0
      rw [List.length_drop] at hcl
      have hkk : 2 * q.length + 2 < k := by omega
      have hc := closes_f q hq k i hkk hlt
      have b1 : (i : Int) ≤ 17592186043000 := by omega
      have b2 : ((i + 1 + cls (q.drop (i + 1)) 0 : Nat) : Int) ≤ 17592186043000 := by omega
      have hr : rd q (i : Int) = q[i] := rd_nat q i hlt
      have w1 : wrap64 ((i : Int) + 1) = ((i + 1 : Nat) : Int) := (up1 g2 b1).trans (by omega)
      have w2 : wrap64 (((i + 1 + cls (q.drop (i + 1)) 0 : Nat) : Int) + 1) = ((i + 1 + (cls (q.drop (i + 1)) 0 + 1) : Nat) : Int) := (up1 (Int.natCast_nonneg _) b2).trans (by omega)
      rw [naskhref20_First.l0, if_pos g1, if_pos g2, hr, opens3_f, Option.bind_some, hc, Option.bind_some, w1, w2, hn1, hn2, List.drop_eq_getElem_cons hlt, ← List.drop_drop]
      generalize q.drop (i + 1) = r
      generalize q[i] = c
      rw [fsl]
      by_cases ho : opn c
      · have h0 : ¬ c = 0 ∧ ¬ c = 1 ∧ ¬ c = 2 := by unfold opn at ho; omega
        rw [if_neg h0.1, if_neg h0.2.1, if_neg h0.2.2, if_pos (decide_eq_true ho), if_pos ho]
        have := fsl_skip r 0
        rw [← this]
        rfl
      · rw [if_neg ho, decide_eq_false ho, if_neg (by decide : ¬ (false = true))]
        by_cases h0 : c = 0
        · rw [if_pos h0, h0]; rfl
        · rw [if_neg h0]
          by_cases h1 : c = 1
          · rw [if_pos h1, h1]; rfl
          · rw [if_neg h1]
            by_cases h2 : c = 2
            · rw [if_pos h2, h2]; rfl
            · have hs : (sid c).2 = false := by unfold sid; rw [if_neg h0, if_neg h1, if_neg h2]
              rw [if_neg h2, hs]
              by_cases h22 : c = 22
              · rw [if_pos h22, if_neg (by simp)]; rfl
              · rw [if_neg h22, if_neg (by simp)]
    · rw [naskhref20_First.l0, if_neg (by omega), List.drop_eq_nil_of_le (by omega)]
      rfl
theorem rfirst_f (q : List Int) (a b : Int) (hq : q.length ≤ 17592186043000) (k : Nat) (hk : 3 * q.length + 10 < k) : naskhref20_First.f k q a b = some (fsl ((q.take (mn b (q.length : Int)).toNat).drop (mx a 0).toNat) 0) := by
  obtain ⟨k, rfl⟩ : ∃ m, k = m + 1 := ⟨k - 1, by omega⟩
  have hl : 0 ≤ mx a 0 := by unfold mx; split <;> omega
  have hh : mn b (q.length : Int) ≤ (q.length : Int) ∧ mn b (q.length : Int) ≤ b ∧ (mn b (q.length : Int) = b ∨ mn b (q.length : Int) = (q.length : Int)) := by unfold mn; split <;> omega
  have hnil : mx a 0 ≥ (q.length : Int) ∨ b ≤ mx a 0 → (q.take (mn b (q.length : Int)).toNat).drop (mx a 0).toNat = [] := fun h => List.drop_eq_nil_of_le (by rw [List.length_take]; omega)
  unfold naskhref20_First.f
  by_cases h1 : mx a 0 ≥ (q.length : Int)
  · rw [if_pos h1, naskhref20_First.j0, if_pos rfl, hnil (.inl h1)]; rfl
  · rw [if_neg h1, naskhref20_First.j0]
    by_cases h2 : b ≤ mx a 0
    · rw [if_pos (decide_eq_true h2), hnil (.inr h2)]; rfl
    · rw [decide_eq_false h2, if_neg (by decide), if_pos hl, if_pos (by omega), if_pos hh.1]
      have hlen : ((q.take (mn b (q.length : Int)).toNat).drop (mx a 0).toNat).length ≤ q.length := by rw [List.length_drop, List.length_take]; omega
      exact rfirst_l0 _ (by omega) _ k 0 (Nat.sub_le _ _) (by omega)
theorem rright21 (q : List Int) (hq : q.length ≤ 17592186043000) (k i : Nat) (hk : 4 * q.length + 10 < k) (hi : i < q.length) (h : q.getD i 0 = 21) : ∃ b : Bool, naskhref22_right.f k q (i : Int) = some b := by
  obtain ⟨R, e, h1, h2⟩ := rmat_f q hq k hk
  unfold naskhref22_right.f
  rw [if_pos (by omega), if_pos (by omega), naskhref22_Levels.rdD, if_pos h, e, Option.bind_some, if_pos (by omega), rfirst_f q _ _ hq k (by omega)]
  exact ⟨_, rfl⟩
theorem rstep_len (q : List Int) (hq : q.length ≤ 17592186043000) (bs : Int) (k i : Nat) (hk : 4 * q.length + 10 < k) (hi : i < q.length) (s : Stk.RSt) : ∃ s', naskhref22_Levels.step k q bs i s = some s' ∧ s'.L.length = s.L.length + 1 ∧ s'.T.length = s.T.length + 1 := by
  unfold naskhref22_Levels.step
  by_cases h21 : q.getD i 0 = 21
  · obtain ⟨b, e⟩ := rright21 q hq k i hk hi h21
    rw [if_neg (show ¬ q.getD i 0 = 16 by omega), if_neg (show ¬ q.getD i 0 = 14 by omega), if_neg (show ¬ q.getD i 0 = 17 by omega), if_neg (show ¬ q.getD i 0 = 15 by omega), if_neg (show ¬ q.getD i 0 = 20 by omega), if_neg (show ¬ q.getD i 0 = 19 by omega), if_pos h21, e]
    exact ⟨_, rfl, by simp, by simp⟩
  · by_cases h16 : q.getD i 0 = 16
    · rw [if_pos h16]; exact ⟨_, rfl, by simp, by simp⟩
    rw [if_neg h16]
    by_cases h14 : q.getD i 0 = 14
    · rw [if_pos h14]; exact ⟨_, rfl, by simp, by simp⟩
    rw [if_neg h14]
    by_cases h17 : q.getD i 0 = 17
    · rw [if_pos h17]; exact ⟨_, rfl, by simp, by simp⟩
    rw [if_neg h17]
    by_cases h15 : q.getD i 0 = 15
    · rw [if_pos h15]; exact ⟨_, rfl, by simp, by simp⟩
    rw [if_neg h15]
    by_cases h20 : q.getD i 0 = 20
    · rw [if_pos h20]; exact ⟨_, rfl, by simp, by simp⟩
    rw [if_neg h20]
    by_cases h19 : q.getD i 0 = 19
    · rw [if_pos h19]; exact ⟨_, rfl, by simp, by simp⟩
    rw [if_neg h19]
    rw [if_neg h21]
    by_cases h22 : q.getD i 0 = 22
    · rw [if_pos h22]; exact ⟨_, rfl, by simp, by simp⟩
    rw [if_neg h22]
    by_cases h18 : q.getD i 0 = 18
    · rw [if_pos h18]; exact ⟨_, rfl, by simp, by simp⟩
    rw [if_neg h18]
    by_cases h9 : q.getD i 0 = 9
    · rw [if_pos h9]; exact ⟨_, rfl, by simp, by simp⟩
    rw [if_neg h9]
    by_cases h10 : q.getD i 0 = 10
    · rw [if_pos h10]; exact ⟨_, rfl, by simp, by simp⟩
    rw [if_neg h10]
    exact ⟨_, rfl, by simp, by simp⟩
theorem rgo_len (q : List Int) (hq : q.length ≤ 17592186043000) (bs : Int) (k : Nat) (hk : 4 * q.length + 10 < k) : ∀ (n : Nat) (s : Stk.RSt), n ≤ q.length → ∃ s', naskhref22_Levels.go k q bs n s = some s' ∧ s'.L.length = s.L.length + n ∧ s'.T.length = s.T.length + n
  | 0, s, _ => ⟨s, rfl, rfl, rfl⟩
  | n + 1, s, hn => by
    obtain ⟨s1, e1, h1, h2⟩ := rstep_len q hq bs k (q.length - (n + 1)) hk (by omega) s
    obtain ⟨s2, e2, h3, h4⟩ := rgo_len q hq bs k hk n s1 (by omega)
    exact ⟨s2, by rw [naskhref22_Levels.go, e1]; exact e2, by omega, by omega⟩
theorem rlev_f (q : List Int) (lv : Int) (hq : q.length ≤ 17592186043000) (k : Nat) (hk : 4 * q.length + 10 < k) : ∃ L T, naskhref22_Levels.f k q lv = some (L, T) ∧ L.length = q.length ∧ T.length = q.length := by
  obtain ⟨s, e, h1, h2⟩ := rgo_len q hq (mn (mx lv 0) 1) k hk q.length (naskhref22_Levels.s0 (mn (mx lv 0) 1)) (Nat.le_refl _)
  refine ⟨s.L, s.T, ?_, by rw [h1]; simp [naskhref22_Levels.s0], by rw [h2]; simp [naskhref22_Levels.s0]⟩
  unfold naskhref22_Levels.f
  rw [if_pos hq, e]
  rfl
theorem SeqOf_ok : naskhlaw23_SeqOf.Pure := by
  intro q lv _ _ _ _
  refine ⟨50000, ?_⟩
  unfold naskhlaw23_SeqOf.f
  by_cases h : (q.length : Int) > 200
  · rw [if_pos h, awake_f _ (by omega)]; rfl
  · rw [if_neg h]
    obtain ⟨L, T, e, hL, hT⟩ := rlev_f q (mn (mx lv 0) 1) (by omega) 50000 (by omega)
    rw [e, Option.bind_some]
    obtain ⟨r, r', s1, s2, s3, s4⟩ := sequences_same L T q (mn (mx lv 0) 1) (by omega) (by omega) (by omega) 50000 (by omega)
    rw [s1, Option.bind_some, s2, Option.bind_some, same_f r r' s3 s4 _ (by omega), Option.bind_some, if_pos rfl, awake_f _ (by omega)]
    rfl
end Go.Proofs.Ytbkdaafphcfpdaa.PureSeqOfAux
namespace Go.Proofs.Ytbkdaafphcfpdaa.Pure
open Go.Proofs.Ytbkdaafphcfpdaa.PSeqOf
theorem SeqOf : naskhlaw23_SeqOf.Pure := PureSeqOfAux.SeqOf_ok
end Go.Proofs.Ytbkdaafphcfpdaa.Pure
