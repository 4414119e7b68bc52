/- Levels are from the paragraph's to the limit. No condition. -/
import Derived.Test.YtbkdaafphcfpdaaPExplicitBoundsx
namespace Go.Proofs.Ytbkdaafphcfpdaa.PureExplicitBoundsAux
open Go.RowKit Go.Proofs.Ytbkdaafphcfpdaa.PExplicitBounds Go.Proofs.YtbkdaafphcfpdaaW.PrintWords Go.Proofs.YtbkdaafphcfpdaaW.PrintLast

set_option linter.unusedSimpArgs false
set_option linter.unusedVariables false
theorem w64 {x : Int} (h0 : -9223372036854775808 ≤ x) (h1 : x ≤ 9223372036854775807) : wrap64 x = x := by unfold wrap64; omega
theorem rd_at (pre : List Int) (x : Int) (rest : List Int) : rd (pre ++ x :: rest) (pre.length : Int) = x := by simp [rd]
theorem rd_nat (l : List Int) (i : Nat) (h : i < l.length) : rd l (i : Int) = l[i] := by simp [rd, h]
theorem wf64 {x : Int} (h : (Lit.int .i64 x).wf = true) : -9223372036854775808 ≤ x ∧ x ≤ 9223372036854775807 := by
  simpa [Lit.wf, IntKind.min, IntKind.max, IntKind.signed, IntKind.bits] using h
theorem bsome {P : Prop} [Decidable P] {b : Bool} (h : b = true ↔ P) : some b = some (decide P) := by
  congr 1; rw [Bool.eq_iff_iff]; simpa using h
theorem u16w {x : Int} (h0 : 0 ≤ x) (h1 : x ≤ 65535) : IntKind.u16.wrap x = x := by
  simp [IntKind.wrap, IntKind.min, IntKind.max, IntKind.signed, IntKind.bits]; omega

theorem eq_loop_int_int (a b : List Int) (hl : a.length = b.length) (hm : a.length ≤ 9223372036854775806) : ∀ d k i : Nat, i + d = a.length → d < k →
    slices_Equal_int_int.l0 k a b a.length i = some (decide (a.drop i = b.drop i)) := by
  intro d
  induction d with
  | zero =>
    intro k i hi hk
    obtain ⟨k, rfl⟩ : ∃ m, k = m + 1 := ⟨k - 1, by omega⟩
    simp only [slices_Equal_int_int.l0]
    rw [if_neg (by omega), List.drop_eq_nil_of_le (by omega), List.drop_eq_nil_of_le (by omega)]
    simp
  | succ d ih =>
    intro k i hi hk
    obtain ⟨k, rfl⟩ : ∃ m, k = m + 1 := ⟨k - 1, by omega⟩
    simp only [slices_Equal_int_int.l0]
    rw [if_pos (by omega), if_pos (by omega), if_pos (by omega), if_pos (by omega), rd_nat a i (by omega), rd_nat b i (by omega),
      List.drop_eq_getElem_cons (by omega : i < a.length), List.drop_eq_getElem_cons (by omega : i < b.length)]
    by_cases h : a[i]'(by omega) = b[i]'(by omega)
    · rw [if_pos h, w64 (by omega) (by omega)]
      have := ih k (i + 1) (by omega) (by omega)
      rw [Int.natCast_add] at this
      rw [show ((1 : Nat) : Int) = 1 from rfl] at this
      rw [this]
      congr 1
      rw [decide_eq_decide, List.cons.injEq]
      simp only [h, true_and]
    · rw [if_neg h]
      congr 1
      symm
      rw [decide_eq_false_iff_not, List.cons.injEq]
      exact fun e => h e.1
theorem equal_f_int_int (a b : List Int) (hm : a.length ≤ 9223372036854775806) (k : Nat) (hk : a.length < k) : slices_Equal_int_int.f k a b = some (decide (a = b)) := by
  unfold slices_Equal_int_int.f
  by_cases hl : a.length = b.length
  · rw [if_pos (by omega), show (0 : Int) = ((0 : Nat) : Int) from rfl, eq_loop_int_int a b hl hm a.length k 0 (by omega) hk]
    simp
  · rw [if_neg (by omega)]
    have : a ≠ b := fun e => hl (by rw [e])
    simp [this]
theorem equal_self_int_int (a : List Int) (hm : a.length ≤ 9223372036854775806) (k : Nat) (hk : a.length < k) : slices_Equal_int_int.f k a a = some true := by
  rw [equal_f_int_int a a hm k hk]; simp

/-! ### The classes: what opens, which side -/
def opn (c : Int) : Prop := c = 19 ∨ c = 20 ∨ c = 21
instance (c : Int) : Decidable (opn c) := by unfold opn; infer_instance
theorem opens_f (c : Int) (k : Nat) (hk : 4 ≤ k) : para_opens.f k c = some (decide (opn c)) := by
  obtain ⟨k, rfl⟩ : ∃ m, k = m + 4 := ⟨k - 4, by omega⟩
  have a1 : wrap64 (0 + 1) = 1 := w64 (by omega) (by omega)
  have a2 : wrap64 (1 + 1) = 2 := w64 (by omega) (by omega)
  have a3 : wrap64 (2 + 1) = 3 := w64 (by omega) (by omega)
  unfold para_opens.f slices_Contains_int_int.f slices_Index_int_int.f
  have e : slices_Index_int_int.l0 (k + 4) [19, 20, 21] c (([19, 20, 21] : List Int).length : Int) 0 = some (if c = 19 then 0 else if c = 20 then 1 else if c = 21 then 2 else -1) := by
    simp only [slices_Index_int_int.l0, List.length_cons, List.length_nil]
    rw [if_pos (by omega), if_pos (by omega), if_pos (by omega), show rd [19, 20, 21] 0 = 19 from rfl]
    by_cases h1 : c = 19
    · rw [if_pos h1, if_pos h1]
    · rw [if_neg h1, if_neg h1, a1, if_pos (by omega), if_pos (by omega), if_pos (by omega), show rd [19, 20, 21] 1 = 20 from rfl]
      by_cases h2 : c = 20
      · rw [if_pos h2, if_pos h2]
      · rw [if_neg h2, if_neg h2, a2, if_pos (by omega), if_pos (by omega), if_pos (by omega), show rd [19, 20, 21] 2 = 21 from rfl]
        by_cases h3 : c = 21
        · rw [if_pos h3, if_pos h3]
        · rw [if_neg h3, if_neg h3, a3, if_neg (by omega)]
  rw [e]
  simp only [Option.bind_some]
  congr 1
  rw [decide_eq_decide]
  unfold opn
  repeat' split
  all_goals omega
/-- Which side a class is of. -/
def sid (c : Int) : Int × Bool := if c = 0 then (0, true) else if c = 1 then (1, true) else if c = 2 then (1, true) else (0, false)
theorem side_f (c : Int) : para_side.f c = some (sid c) := by
  unfold para_side.f sid
  repeat' split
  all_goals rfl
/-- The first strong class outside of what is isolated. -/
def fsl : List Int → Int → Int
  | [], _ => -1
  | c :: r, d => if opn c then fsl r (d + 1) else if c = 22 then (if (sid c).2 = true ∧ mx (d - 1) 0 = 0 then (sid c).1 else fsl r (mx (d - 1) 0)) else (if (sid c).2 = true ∧ d = 0 then (sid c).1 else fsl r d)
theorem up1 {d : Int} (h0 : 0 ≤ d) (h1 : d ≤ 17592186043000) : wrap64 (d + 1) = d + 1 := w64 (by omega) (by omega)
theorem dn1 {d : Int} (h0 : 0 ≤ d) (h1 : d ≤ 17592186043000) : wrap64 (d - 1) = d - 1 := w64 (by omega) (by omega)
theorem mx_bd {d b : Int} (h0 : 0 ≤ d) (h1 : d ≤ b) : 0 ≤ mx (d - 1) 0 ∧ mx (d - 1) 0 ≤ b := by unfold mx; split <;> omega
theorem first_l0 (q : List Int) (hi : Nat) (hh : hi ≤ q.length) (hq : q.length ≤ 17592186043000) : ∀ (n k i : Nat) (d : Int), hi - i = n → n + 5 < k → 0 ≤ d → d ≤ (i : Int) →
    para_First.l0 k q (hi : Int) d (i : Int) = some (fsl ((q.take hi).drop i) d) := by
  intro n
  induction n with
  | zero =>
    intro k i d hn hk h0 h1
    obtain ⟨k, rfl⟩ : ∃ m, k = m + 1 := ⟨k - 1, by omega⟩
    rw [para_First.l0, if_neg (by omega), List.drop_eq_nil_of_le (by rw [List.length_take]; omega)]
    rfl
  | succ n ih =>
    intro k i d hn hk h0 h1
    obtain ⟨k, rfl⟩ : ∃ m, k = m + 1 := ⟨k - 1, by omega⟩
    have hlen : i < (q.take hi).length := by rw [List.length_take]; omega
    have hil : i < q.length := by omega
    have hcons : (q.take hi).drop i = q[i] :: (q.take hi).drop (i + 1) := by rw [List.drop_eq_getElem_cons hlen, List.getElem_take]
    have hdi : d ≤ 17592186043000 := by omega
    have hdi2 : (i : Int) ≤ 17592186043000 := by omega
    have hdi3 : d ≤ ((i + 1 : Nat) : Int) := by omega
    have hdi4 : d + 1 ≤ ((i + 1 : Nat) : Int) := by omega
    have hdi5 : 0 ≤ d + 1 := by omega
    have g1 : (i : Int) < (hi : Int) := by omega
    have g2 : (0 : Int) ≤ (i : Int) := by omega
    have g3 : (i : Int) < (q.length : Int) := by omega
    have gk : 4 ≤ k := by omega
    have gd : ¬ d + 1 = 0 := by omega
    have hmx := mx_bd (b := ((i + 1 : Nat) : Int)) h0 hdi3
    have hnext := fun d' h1 h2 => ih k (i + 1) d' (by omega) (by omega) h1 h2
    have w1 : wrap64 ((i : Int) + 1) = ((i + 1 : Nat) : Int) := (up1 g2 hdi2).trans (by omega)
    have w2 := up1 h0 hdi
    have w3 := dn1 h0 hdi
    have hr : rd q (i : Int) = q[i] := rd_nat q i hil
    rw [hcons]
    generalize (q.take hi).drop (i + 1) = rest at hnext ⊢
    generalize q[i] = c at hr ⊢
    have hun : para_First.l0 (k + 1) q (hi : Int) d (i : Int) = if opn c then (if (sid c).2 = true then (if d + 1 = 0 then some (sid c).1 else para_First.l0 k q (hi : Int) (d + 1) ((i + 1 : Nat) : Int)) else para_First.l0 k q (hi : Int) (d + 1) ((i + 1 : Nat) : Int)) else if c = 22 then (if (sid c).2 = true then (if mx (d - 1) 0 = 0 then some (sid c).1 else para_First.l0 k q (hi : Int) (mx (d - 1) 0) ((i + 1 : Nat) : Int)) else para_First.l0 k q (hi : Int) (mx (d - 1) 0) ((i + 1 : Nat) : Int)) else (if (sid c).2 = true then (if d = 0 then some (sid c).1 else para_First.l0 k q (hi : Int) d ((i + 1 : Nat) : Int)) else para_First.l0 k q (hi : Int) d ((i + 1 : Nat) : Int)) := by
      rw [para_First.l0, if_pos g1, if_pos g2, if_pos g3, hr, opens_f c k gk, Option.bind_some, side_f, Option.bind_some, w1, w2, w3]
      simp only [decide_eq_true_eq, Option.bind_some]
    rw [hun]
    have hfs : fsl (c :: rest) d = if opn c then fsl rest (d + 1) else if c = 22 then (if (sid c).2 = true ∧ mx (d - 1) 0 = 0 then (sid c).1 else fsl rest (mx (d - 1) 0)) else (if (sid c).2 = true ∧ d = 0 then (sid c).1 else fsl rest d) := rfl
    rw [hfs]
    clear hun hfs
    by_cases ho : opn c
    · have hs : (sid c).2 = false := by
        unfold opn at ho
        unfold sid
        rw [if_neg (by omega), if_neg (by omega), if_neg (by omega)]
      rw [if_pos ho, hs, if_neg (by simp), if_pos ho]
      exact hnext (d + 1) hdi5 hdi4
    · rw [if_neg ho, if_neg ho]
      by_cases h22 : c = 22
      · rw [if_pos h22, if_pos h22]
        by_cases hs : (sid c).2 = true
        · rw [if_pos hs]
          by_cases hz : mx (d - 1) 0 = 0
          · rw [if_pos hz, if_pos ⟨hs, hz⟩]
          · rw [if_neg hz, if_neg (fun h => hz h.2)]
            exact hnext _ hmx.1 hmx.2
        · rw [if_neg hs, if_neg (fun h => hs h.1)]
          exact hnext _ hmx.1 hmx.2
      · rw [if_neg h22, if_neg h22]
        by_cases hs : (sid c).2 = true
        · rw [if_pos hs]
          by_cases hz : d = 0
          · rw [if_pos hz, if_pos ⟨hs, hz⟩]
          · rw [if_neg hz, if_neg (fun h => hz h.2)]
            exact hnext d h0 hdi3
        · rw [if_neg hs, if_neg (fun h => hs h.1)]
          exact hnext d h0 hdi3
theorem first_f (q : List Int) (a b : Int) (hq : q.length ≤ 17592186043000) (k : Nat) (hk : q.length + 5 < k) : para_First.f k q a b = some (fsl ((q.take (mn b (q.length : Int)).toNat).drop (mx a 0).toNat) 0) := by
  unfold para_First.f
  have hl : 0 ≤ mx a 0 := by unfold mx; split <;> omega
  have hh : mn b (q.length : Int) ≤ (q.length : Int) := by unfold mn; split <;> omega
  obtain ⟨lo, elo⟩ : ∃ lo : Nat, mx a 0 = (lo : Int) := ⟨(mx a 0).toNat, by omega⟩
  rw [elo]
  by_cases hlt : (lo : Int) < mn b (q.length : Int)
  · obtain ⟨hi, ehi⟩ : ∃ hi : Nat, mn b (q.length : Int) = (hi : Int) := ⟨(mn b (q.length : Int)).toNat, by omega⟩
    rw [ehi] at hh ⊢
    rw [Int.toNat_natCast, Int.toNat_natCast]
    exact first_l0 q hi (by omega) hq (hi - lo) k lo 0 rfl (by omega) (by omega) (by omega)
  · obtain ⟨k, rfl⟩ : ∃ m, k = m + 1 := ⟨k - 1, by omega⟩
    rw [para_First.l0, if_neg hlt, Int.toNat_natCast, List.drop_eq_nil_of_le (by rw [List.length_take]; omega)]
    rfl
/-- Which places go together: the places that are open are kept in a list. -/
def mt (n : Nat) : List Int → Nat → List Int → List Int → List Int
  | [], _, out, _ => out
  | c :: r, i, out, op => if opn c then mt n r (i + 1) (out.set i (n : Int)) (op ++ [(i : Int)])
      else if c = 22 then (if op.length = 0 then mt n r (i + 1) out op else mt n r (i + 1) ((out.set (op.getD (op.length - 1) 0).toNat (i : Int)).set i (op.getD (op.length - 1) 0)) (op.take (op.length - 1)))
      else mt n r (i + 1) out op
theorem mt_len (n : Nat) : ∀ (r : List Int) (i : Nat) (out op : List Int), (mt n r i out op).length = out.length
  | [], _, _, _ => rfl
  | c :: r, i, out, op => by
    unfold mt
    repeat' split
    all_goals rw [mt_len n r]
    all_goals simp
theorem matches_l0 (q : List Int) (hq : q.length ≤ 17592186043000) : ∀ (r : List Int) (k i : Nat) (out op : List Int), q.drop i = r → i + r.length = q.length → r.length + 5 < k → out.length = q.length → op.length ≤ i → (∀ x ∈ op, 0 ≤ x ∧ x < (i : Int)) →
    para_Matches.l0 k q out op q (q.length : Int) (i : Int) = some (mt q.length r i out op)
  | [], k, i, out, op, hr, hi, hk, ho, hop, hb => by
    obtain ⟨k, rfl⟩ : ∃ m, k = m + 1 := ⟨k - 1, by omega⟩
    rw [List.length_nil] at hi
    rw [para_Matches.l0, if_neg (by omega)]
    rfl
  | c :: r, k, i, out, op, hr, hi, hk, ho, hop, hb => by
    obtain ⟨k, rfl⟩ : ∃ m, k = m + 1 := ⟨k - 1, by omega⟩
    rw [List.length_cons] at hi hk
    have hil : i < q.length := by omega
    have hd := List.drop_eq_getElem_cons hil
    rw [hr] at hd
    obtain ⟨hc, hr2⟩ := List.cons.inj hd
    have hrd : rd q (i : Int) = c := by rw [rd_nat q i hil]; exact hc.symm
    have w1 : wrap64 ((i : Int) + 1) = ((i + 1 : Nat) : Int) := by rw [w64 (by omega) (by omega)]; omega
    have hnext := fun out' op' h1 h2 h3 => matches_l0 q hq r k (i + 1) out' op' hr2.symm (by omega) (by omega) h1 h2 h3
    rw [para_Matches.l0, if_pos (by omega), if_pos (by omega), if_pos (by omega), hrd, opens_f c k (by omega), Option.bind_some, w1, mt]
    by_cases hopn : opn c
    · rw [if_pos (by simpa using hopn), if_pos hopn, if_pos (by omega), if_pos (by omega), Int.toNat_natCast]
      refine hnext _ _ (by simp [ho]) (by simp; omega) (fun x hx => ?_)
      rcases List.mem_append.1 hx with h1 | h1
      · have := hb x h1; omega
      · rw [List.mem_singleton] at h1; omega
    · rw [if_neg (by simpa using hopn), if_neg hopn]
      by_cases h22 : c = 22
      · rw [if_pos h22, if_pos h22]
        by_cases hz : op.length = 0
        · rw [if_neg (by omega), if_pos hz]
          exact hnext _ _ ho (by omega) (fun x hx => by have := hb x hx; omega)
        · have w2 : wrap64 ((op.length : Int) - 1) = ((op.length - 1 : Nat) : Int) := by rw [w64 (by omega) (by omega)]; omega
          have hlt : op.length - 1 < op.length := by omega
          have hrl : rd op ((op.length - 1 : Nat) : Int) = op.getD (op.length - 1) 0 := by simp [rd]
          have hm : op.getD (op.length - 1) 0 ∈ op := by rw [List.getD_eq_getElem?_getD, List.getElem?_eq_getElem hlt]; exact List.getElem_mem hlt
          have hbl := hb _ hm
          rw [if_pos (by omega), if_neg hz, w2, if_pos (by omega), if_pos (by omega), if_pos (by omega), hrl, if_pos (by omega), if_pos (by omega), if_pos (by omega), Int.toNat_natCast, Int.toNat_natCast]
          exact hnext _ _ (by simp [ho]) (by rw [List.length_take]; omega) (fun x hx => by have := hb x (List.mem_of_mem_take hx); omega)
      · rw [if_neg h22, if_neg h22]
        exact hnext _ _ ho (by omega) (fun x hx => by have := hb x hx; omega)
/-- What goes together, of a whole paragraph. -/
def mat (q : List Int) : List Int := mt q.length q 0 (List.replicate q.length (-1)) []
theorem matches_f (q : List Int) (hq : q.length ≤ 17592186043000) (k : Nat) (hk : q.length + 5 < k) : para_Matches.f k q = some (mat q) := by
  unfold para_Matches.f slices_Repeat_int_int.f mat
  rw [if_pos (show ([-1] : List Int).length = 1 from rfl), if_pos (by omega), if_pos (by omega), Option.bind_some, Int.toNat_natCast]
  exact matches_l0 q hq q k 0 _ [] (by simp) (by simp) hk (by simp) (by simp) (by simp)
theorem mat_len (q : List Int) : (mat q).length = q.length := by unfold mat; rw [mt_len]; simp

/-! ### explicit.Levels: what it comes to -/
abbrev Ex := explicit_Levels.Ex
/-- A place's step, without rounds. -/
theorem go_some (q : List Int) (bs : Int) (hq : q.length ≤ 17592186043000) (k : Nat) (hk : q.length + 5 < k) (Inv : Nat → Ex → Prop)
    (hstep : ∀ (i : Nat) (s : Ex), i < q.length → Inv i s → ∃ s', explicit_Levels.step k q (mat q) bs i s = some s' ∧ Inv (i + 1) s') : ∀ (n : Nat) (s : Ex), n ≤ q.length → Inv (q.length - n) s → ∃ s', explicit_Levels.go k q (mat q) bs n s = some s' ∧ Inv q.length s'
  | 0, s, hn, h => ⟨s, rfl, h⟩
  | n + 1, s, hn, h => by
    obtain ⟨s', h1, h2⟩ := hstep (q.length - (n + 1)) s (by omega) h
    rw [show q.length - (n + 1) + 1 = q.length - n by omega] at h2
    obtain ⟨s2, h3, h4⟩ := go_some q bs hq k hk Inv hstep n s' (by omega) h2
    exact ⟨s2, by rw [explicit_Levels.go, h1]; exact h3, h4⟩
theorem levels_f (q : List Int) (lv : Int) (hq : q.length ≤ 17592186043000) (k : Nat) (hk : q.length + 5 < k) (Inv : Nat → Ex → Prop) (h0 : Inv 0 (explicit_Levels.s0 (mn (mx lv 0) 1)))
    (hstep : ∀ (i : Nat) (s : Ex), i < q.length → Inv i s → ∃ s', explicit_Levels.step k q (mat q) (mn (mx lv 0) 1) i s = some s' ∧ Inv (i + 1) s') : ∃ s, explicit_Levels.f k q lv = some (s.L, s.T) ∧ Inv q.length s := by
  unfold explicit_Levels.f
  rw [matches_f q hq k hk, Option.bind_some, if_pos hq]
  obtain ⟨s, h1, h2⟩ := go_some q (mn (mx lv 0) 1) (by omega) k hk Inv hstep q.length _ (Nat.le_refl _) (by rw [Nat.sub_self]; exact h0)
  exact ⟨s, by rw [h1]; rfl, h2⟩

/-! ### Levels are within bounds -/
def Low (bs : Int) (l : List Stk.Ent) : Prop := ∀ x ∈ l, bs ≤ x.lv
theorem Low.top {bs : Int} {l : List Stk.Ent} (h : Low bs l) (hG : Stk.Good l) : bs ≤ (Stk.topE l).lv := h _ (Stk.topE_mem hG.1)
theorem Low.put {bs : Int} {l : List Stk.Ent} (h : Low bs l) (hG : Stk.Good l) (r : Bool) (o : Int) (i : Bool) : Low bs (l ++ [⟨Stk.nextL r (Stk.topE l).lv, o, i⟩]) := fun x hx => by
  rcases List.mem_append.1 hx with h1 | h1
  · exact h x h1
  · rw [List.mem_singleton] at h1
    subst h1
    have := h.top hG
    have := Stk.nextL_lt (right := r) hG.top.1
    dsimp only
    omega
theorem Low.take {bs : Int} {l : List Stk.Ent} (h : Low bs l) (m : Nat) : Low bs (l.take m) := fun x hx => h x (List.mem_of_mem_take hx)
theorem Low.emb {bs a b : Int} {l : List Stk.Ent} (h : Low bs l) (hG : Stk.Good l) (r : Bool) (o : Int) : Low bs (Stk.embL a b l r o) := by
  unfold Stk.embL; split
  · exact h.put hG _ _ _
  · exact h
theorem Low.isol {bs a b : Int} {l : List Stk.Ent} (h : Low bs l) (hG : Stk.Good l) (r : Bool) : Low bs (Stk.isoL a b l r) := by
  unfold Stk.isoL; split
  · exact h.put hG _ _ _
  · exact h
theorem Low.pop {bs : Int} {l : List Stk.Ent} (h : Low bs l) (hG : Stk.Good l) : Low bs (Stk.popE l) := by
  obtain ⟨m, _, _, h3⟩ := Stk.popE_take l hG.1
  rw [h3]; exact h.take m
theorem Low.ee {bs a b : Int} {l : List Stk.Ent} (h : Low bs l) (hG : Stk.Good l) : Low bs (Stk.eeL a b l) := by
  unfold Stk.eeL
  repeat' split
  all_goals first | exact h | exact h.pop hG
theorem Low.ei {bs a c : Int} {l : List Stk.Ent} (h : Low bs l) (hG : Stk.Good l) : Low bs (Stk.eiL a c l) := by
  unfold Stk.eiL
  repeat' split
  · exact h
  · obtain ⟨m, h1, h2, h3⟩ := Stk.dropI_take l.length l hG.1
    rw [h3]
    obtain ⟨m2, _, _, h5⟩ := Stk.popE_take (l.take m) (by rw [List.length_take]; omega)
    rw [h5]
    exact (h.take m).take m2
  · exact h
/-- All levels so far are from the paragraph's to the limit. -/
def Within (bs : Int) (i : Nat) (s : Ex) : Prop := Stk.Good s.l ∧ Low bs s.l ∧ s.L.length = i ∧ s.T.length = i ∧ ∀ x ∈ s.L, bs ≤ x ∧ x ≤ 125
theorem within_snoc {bs x : Int} {L : List Int} (h : ∀ y ∈ L, bs ≤ y ∧ y ≤ 125) (h1 : bs ≤ x) (h2 : x ≤ 125) : ∀ y ∈ L ++ [x], bs ≤ y ∧ y ≤ 125 := fun y hy => by
  rcases List.mem_append.1 hy with h3 | h3
  · exact h y h3
  · rw [List.mem_singleton] at h3; subst h3; exact ⟨h1, h2⟩
theorem within_step (q : List Int) (bs : Int) (hb : 0 ≤ bs ∧ bs ≤ 1) (hq : q.length ≤ 17592186043000) (k : Nat) (hk : q.length + 5 < k) (i : Nat) (s : Ex) (hi : i < q.length) (h : Within bs i s) : ∃ s', explicit_Levels.step k q (mat q) bs i s = some s' ∧ Within bs (i + 1) s' := by
  obtain ⟨hG, hL, h1, h2, h3⟩ := h
  have ht := hG.top
  have hl := hL.top hG
  have hei := (Stk.Went.ei (a := s.a) (c := s.c) hG).1
  have hle := Low.ei (a := s.a) (c := s.c) hL hG
  unfold explicit_Levels.step
  by_cases h16 : q.getD i 0 = 16
  · rw [if_pos h16]; exact ⟨_, rfl, (Stk.Went.emb hG _ _).1, hL.emb hG _ _, by simp [h1], by simp [h2], within_snoc h3 hl ht.2⟩
  rw [if_neg h16]
  by_cases h14 : q.getD i 0 = 14
  · rw [if_pos h14]; exact ⟨_, rfl, (Stk.Went.emb hG _ _).1, hL.emb hG _ _, by simp [h1], by simp [h2], within_snoc h3 hl ht.2⟩
  rw [if_neg h14]
  by_cases h17 : q.getD i 0 = 17
  · rw [if_pos h17]; exact ⟨_, rfl, (Stk.Went.emb hG _ _).1, hL.emb hG _ _, by simp [h1], by simp [h2], within_snoc h3 hl ht.2⟩
  rw [if_neg h17]
  by_cases h15 : q.getD i 0 = 15
  · rw [if_pos h15]; exact ⟨_, rfl, (Stk.Went.emb hG _ _).1, hL.emb hG _ _, by simp [h1], by simp [h2], within_snoc h3 hl ht.2⟩
  rw [if_neg h15]
  by_cases h20 : q.getD i 0 = 20
  · rw [if_pos h20]; exact ⟨_, rfl, (Stk.Went.isol hG _).1, hL.isol hG _, by simp [h1], by simp [h2], within_snoc h3 hl ht.2⟩
  rw [if_neg h20]
  by_cases h19 : q.getD i 0 = 19
  · rw [if_pos h19]; exact ⟨_, rfl, (Stk.Went.isol hG _).1, hL.isol hG _, by simp [h1], by simp [h2], within_snoc h3 hl ht.2⟩
  rw [if_neg h19]
  by_cases h21 : q.getD i 0 = 21
  · rw [if_pos h21, if_pos (by rw [mat_len]; exact hi), first_f q _ _ (by omega) k hk, Option.bind_some]
    exact ⟨_, rfl, (Stk.Went.isol hG _).1, hL.isol hG _, by simp [h1], by simp [h2], within_snoc h3 hl ht.2⟩
  rw [if_neg h21]
  by_cases h22 : q.getD i 0 = 22
  · rw [if_pos h22]; exact ⟨_, rfl, hei, hle, by simp [h1], by simp [h2], within_snoc h3 (hle.top hei) hei.top.2⟩
  rw [if_neg h22]
  by_cases h18 : q.getD i 0 = 18
  · rw [if_pos h18]; exact ⟨_, rfl, (Stk.Went.ee hG).1, hL.ee hG, by simp [h1], by simp [h2], within_snoc h3 hl ht.2⟩
  rw [if_neg h18]
  by_cases h9 : q.getD i 0 = 9
  · rw [if_pos h9]; exact ⟨_, rfl, hG, hL, by simp [h1], by simp [h2], within_snoc h3 hl ht.2⟩
  rw [if_neg h9]
  by_cases h10 : q.getD i 0 = 10
  · rw [if_pos h10]; exact ⟨_, rfl, hG, hL, by simp [h1], by simp [h2], within_snoc h3 (by omega) (by omega)⟩
  rw [if_neg h10]
  exact ⟨_, rfl, hG, hL, by simp [h1], by simp [h2], within_snoc h3 hl ht.2⟩
theorem newE_low {bs : Int} (hb : 0 ≤ bs ∧ bs ≤ 1) : Low bs [Stk.newE bs] := fun x hx => by
  rw [List.mem_singleton] at hx
  subst hx
  unfold Stk.newE
  dsimp only
  rw [if_neg (by omega), if_neg (by omega)]
  omega
theorem base_bd (lv : Int) : 0 ≤ mn (mx lv 0) 1 ∧ mn (mx lv 0) 1 ≤ 1 := by
  unfold mn mx
  repeat' split
  all_goals omega
theorem levels_within (q : List Int) (lv : Int) (hq : q.length ≤ 17592186043000) (k : Nat) (hk : q.length + 5 < k) : ∃ s, explicit_Levels.f k q lv = some (s.L, s.T) ∧ Within (mn (mx lv 0) 1) q.length s :=
  levels_f q lv hq k hk (Within (mn (mx lv 0) 1)) ⟨Stk.Good.new _, newE_low (base_bd lv), rfl, rfl, fun _ h => by cases h⟩ (fun i s hi h => within_step q _ (base_bd lv) hq k hk i s hi h)

theorem awake_levels : explicit_Levels.f 20 [17, 0, 18, 0] 0 = some ([0, 1, 1, 0], [9, 1, 9, 0]) := by decide +kernel
theorem awake_up : ∀ j : Nat, explicit_Levels.f (20 + j) [17, 0, 18, 0] 0 = some ([0, 1, 1, 0], [9, 1, 9, 0])
  | 0 => awake_levels
  | j + 1 => explicit_Levels.mono _ _ _ _ (awake_up j)
theorem haw (k : Nat) (hk : 20 ≤ k) : naskhlaw22_awake.f k = some true := by
  obtain ⟨j, rfl⟩ : ∃ j, k = 20 + j := ⟨k - 20, by omega⟩
  unfold naskhlaw22_awake.f
  rw [awake_up j, Option.bind_some]
  dsimp only
  rw [equal_self_int_int [0, 1, 1, 0] (by decide) (20 + j) (by simp only [List.length_cons, List.length_nil]; omega), Option.bind_some, if_pos rfl, equal_self_int_int [9, 1, 9, 0] (by decide) (20 + j) (by simp only [List.length_cons, List.length_nil]; omega), Option.bind_some, if_pos rfl]
  rfl

theorem bounds_loop (bs : Int) (L : List Int) (hL : ∀ x ∈ L, bs ≤ x ∧ x ≤ 125) (hl : L.length ≤ 1000) : ∀ (d k i : Nat), i + d = L.length → d + 25 < k → naskhlaw22_ExplicitBounds.l0 k bs L (L.length : Int) (i : Int) = some true := by
  intro d
  induction d with
  | zero =>
    intro k i hi hk
    obtain ⟨k, rfl⟩ : ∃ m, k = m + 1 := ⟨k - 1, by omega⟩
    rw [naskhlaw22_ExplicitBounds.l0, if_neg (by omega), haw k (by omega)]
    rfl
  | succ d ih =>
    intro k i hi hk
    obtain ⟨k, rfl⟩ : ∃ m, k = m + 1 := ⟨k - 1, by omega⟩
    have hlt : i < L.length := by omega
    have hb := hL _ (List.getElem_mem hlt)
    rw [naskhlaw22_ExplicitBounds.l0, if_pos (by omega), if_pos (by omega), if_pos (by omega), rd_nat L i hlt, if_neg (by omega), if_neg (by omega), w64 (by omega) (by omega)]
    have := ih k (i + 1) (by omega) (by omega)
    rw [Int.natCast_add] at this
    exact this
theorem ExplicitBounds_ok : naskhlaw22_ExplicitBounds.Pure := by
  intro q lv h1 h2 h3 h4
  refine ⟨2000, ?_⟩
  unfold naskhlaw22_ExplicitBounds.f
  by_cases h : (q.length : Int) > 500
  · rw [if_pos h, haw 2000 (by omega)]; rfl
  · rw [if_neg h]
    obtain ⟨s, hs, hG, hl, hL, hT, hb⟩ := levels_within q lv (by omega) 2000 (by omega)
    rw [hs, Option.bind_some]
    dsimp only
    rw [if_pos (by omega), show ((s.T.length : Int) != (q.length : Int)) = false by rw [hT]; simp, naskhlaw22_ExplicitBounds.j0, if_neg (by simp)]
    exact bounds_loop _ s.L hb (by omega) s.L.length 1999 0 (by omega) (by omega)
end Go.Proofs.Ytbkdaafphcfpdaa.PureExplicitBoundsAux
namespace Go.Proofs.Ytbkdaafphcfpdaa.Pure
open Go.Proofs.Ytbkdaafphcfpdaa.PExplicitBounds
theorem ExplicitBounds : naskhlaw22_ExplicitBounds.Pure := PureExplicitBoundsAux.ExplicitBounds_ok
end Go.Proofs.Ytbkdaafphcfpdaa.Pure
