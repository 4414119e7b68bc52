/- The levels are the document's. No condition. -/
import Derived.Test.YtbkdaafphcfpdaaPExplicitLevelsx
namespace Go.Proofs.Ytbkdaafphcfpdaa.PureExplicitLevelsAux
open Go.RowKit Go.Proofs.Ytbkdaafphcfpdaa.PExplicitLevels Go.Proofs.YtbkdaafphcfpdaaW.PrintWords Go.Proofs.YtbkdaafphcfpdaaW.PrintLast

set_option linter.unusedSimpArgs false
set_option linter.unusedVariables false
theorem w64 {x : Int} (h0 : -9223372036854775808 ≤ x) (h1 : x ≤ 9223372036854775807) : wrap64 x = x := by unfold wrap64; omega
theorem rd_at (pre : List Int) (x : Int) (rest : List Int) : rd (pre ++ x :: rest) (pre.length : Int) = x := by simp [rd]
theorem rd_nat (l : List Int) (i : Nat) (h : i < l.length) : rd l (i : Int) = l[i] := by simp [rd, h]
theorem wf64 {x : Int} (h : (Lit.int .i64 x).wf = true) : -9223372036854775808 ≤ x ∧ x ≤ 9223372036854775807 := by
  simpa [Lit.wf, IntKind.min, IntKind.max, IntKind.signed, IntKind.bits] using h
theorem bsome {P : Prop} [Decidable P] {b : Bool} (h : b = true ↔ P) : some b = some (decide P) := by
  congr 1; rw [Bool.eq_iff_iff]; simpa using h
theorem u16w {x : Int} (h0 : 0 ≤ x) (h1 : x ≤ 65535) : IntKind.u16.wrap x = x := by
  simp [IntKind.wrap, IntKind.min, IntKind.max, IntKind.signed, IntKind.bits]; omega

theorem eq_loop_int_int (a b : List Int) (hl : a.length = b.length) (hm : a.length ≤ 9223372036854775806) : ∀ d k i : Nat, i + d = a.length → d < k →
    slices_Equal_int_int.l0 k a b a.length i = some (decide (a.drop i = b.drop i)) := by
  intro d
  induction d with
  | zero =>
    intro k i hi hk
    obtain ⟨k, rfl⟩ : ∃ m, k = m + 1 := ⟨k - 1, by omega⟩
    simp only [slices_Equal_int_int.l0]
    rw [if_neg (by omega), List.drop_eq_nil_of_le (by omega), List.drop_eq_nil_of_le (by omega)]
    simp
  | succ d ih =>
    intro k i hi hk
    obtain ⟨k, rfl⟩ : ∃ m, k = m + 1 := ⟨k - 1, by omega⟩
    simp only [slices_Equal_int_int.l0]
    rw [if_pos (by omega), if_pos (by omega), if_pos (by omega), if_pos (by omega), rd_nat a i (by omega), rd_nat b i (by omega),
      List.drop_eq_getElem_cons (by omega : i < a.length), List.drop_eq_getElem_cons (by omega : i < b.length)]
    by_cases h : a[i]'(by omega) = b[i]'(by omega)
    · rw [if_pos h, w64 (by omega) (by omega)]
      have := ih k (i + 1) (by omega) (by omega)
      rw [Int.natCast_add] at this
      rw [show ((1 : Nat) : Int) = 1 from rfl] at this
      rw [this]
      congr 1
      rw [decide_eq_decide, List.cons.injEq]
      simp only [h, true_and]
    · rw [if_neg h]
      congr 1
      symm
      rw [decide_eq_false_iff_not, List.cons.injEq]
      exact fun e => h e.1
theorem equal_f_int_int (a b : List Int) (hm : a.length ≤ 9223372036854775806) (k : Nat) (hk : a.length < k) : slices_Equal_int_int.f k a b = some (decide (a = b)) := by
  unfold slices_Equal_int_int.f
  by_cases hl : a.length = b.length
  · rw [if_pos (by omega), show (0 : Int) = ((0 : Nat) : Int) from rfl, eq_loop_int_int a b hl hm a.length k 0 (by omega) hk]
    simp
  · rw [if_neg (by omega)]
    have : a ≠ b := fun e => hl (by rw [e])
    simp [this]
theorem equal_self_int_int (a : List Int) (hm : a.length ≤ 9223372036854775806) (k : Nat) (hk : a.length < k) : slices_Equal_int_int.f k a a = some true := by
  rw [equal_f_int_int a a hm k hk]; simp

/-! ### The classes: what opens, which side -/
def opn (c : Int) : Prop := c = 19 ∨ c = 20 ∨ c = 21
instance (c : Int) : Decidable (opn c) := by unfold opn; infer_instance
theorem opens_f (c : Int) (k : Nat) (hk : 4 ≤ k) : para_opens.f k c = some (decide (opn c)) := by
  obtain ⟨k, rfl⟩ : ∃ m, k = m + 4 := ⟨k - 4, by omega⟩
  have a1 : wrap64 (0 + 1) = 1 := w64 (by omega) (by omega)
  have a2 : wrap64 (1 + 1) = 2 := w64 (by omega) (by omega)
  have a3 : wrap64 (2 + 1) = 3 := w64 (by omega) (by omega)
  unfold para_opens.f slices_Contains_int_int.f slices_Index_int_int.f
  have e : slices_Index_int_int.l0 (k + 4) [19, 20, 21] c (([19, 20, 21] : List Int).length : Int) 0 = some (if c = 19 then 0 else if c = 20 then 1 else if c = 21 then 2 else -1) := by
    simp only [slices_Index_int_int.l0, List.length_cons, List.length_nil]
    rw [if_pos (by omega), if_pos (by omega), if_pos (by omega), show rd [19, 20, 21] 0 = 19 from rfl]
    by_cases h1 : c = 19
    · rw [if_pos h1, if_pos h1]
    · rw [if_neg h1, if_neg h1, a1, if_pos (by omega), if_pos (by omega), if_pos (by omega), show rd [19, 20, 21] 1 = 20 from rfl]
      by_cases h2 : c = 20
      · rw [if_pos h2, if_pos h2]
      · rw [if_neg h2, if_neg h2, a2, if_pos (by omega), if_pos (by omega), if_pos (by omega), show rd [19, 20, 21] 2 = 21 from rfl]
        by_cases h3 : c = 21
        · rw [if_pos h3, if_pos h3]
        · rw [if_neg h3, if_neg h3, a3, if_neg (by omega)]
  rw [e]
  simp only [Option.bind_some]
  congr 1
  rw [decide_eq_decide]
  unfold opn
  repeat' split
  all_goals omega
/-- Which side a class is of. -/
def sid (c : Int) : Int × Bool := if c = 0 then (0, true) else if c = 1 then (1, true) else if c = 2 then (1, true) else (0, false)
theorem side_f (c : Int) : para_side.f c = some (sid c) := by
  unfold para_side.f sid
  repeat' split
  all_goals rfl
/-- The first strong class outside of what is isolated. -/
def fsl : List Int → Int → Int
  | [], _ => -1
  | c :: r, d => if opn c then fsl r (d + 1) else if c = 22 then (if (sid c).2 = true ∧ mx (d - 1) 0 = 0 then (sid c).1 else fsl r (mx (d - 1) 0)) else (if (sid c).2 = true ∧ d = 0 then (sid c).1 else fsl r d)
theorem up1 {d : Int} (h0 : 0 ≤ d) (h1 : d ≤ 17592186043000) : wrap64 (d + 1) = d + 1 := w64 (by omega) (by omega)
theorem dn1 {d : Int} (h0 : 0 ≤ d) (h1 : d ≤ 17592186043000) : wrap64 (d - 1) = d - 1 := w64 (by omega) (by omega)
theorem mx_bd {d b : Int} (h0 : 0 ≤ d) (h1 : d ≤ b) : 0 ≤ mx (d - 1) 0 ∧ mx (d - 1) 0 ≤ b := by unfold mx; split <;> omega
theorem first_l0 (q : List Int) (hi : Nat) (hh : hi ≤ q.length) (hq : q.length ≤ 17592186043000) : ∀ (n k i : Nat) (d : Int), hi - i = n → n + 5 < k → 0 ≤ d → d ≤ (i : Int) →
    para_First.l0 k q (hi : Int) d (i : Int) = some (fsl ((q.take hi).drop i) d) := by
  intro n
  induction n with
  | zero =>
    intro k i d hn hk h0 h1
    obtain ⟨k, rfl⟩ : ∃ m, k = m + 1 := ⟨k - 1, by omega⟩
    rw [para_First.l0, if_neg (by omega), List.drop_eq_nil_of_le (by rw [List.length_take]; omega)]
    rfl
  | succ n ih =>
    intro k i d hn hk h0 h1
    obtain ⟨k, rfl⟩ : ∃ m, k = m + 1 := ⟨k - 1, by omega⟩
    have hlen : i < (q.take hi).length := by rw [List.length_take]; omega
    have hil : i < q.length := by omega
    have hcons : (q.take hi).drop i = q[i] :: (q.take hi).drop (i + 1) := by rw [List.drop_eq_getElem_cons hlen, List.getElem_take]
    have hdi : d ≤ 17592186043000 := by omega
    have hdi2 : (i : Int) ≤ 17592186043000 := by omega
    have hdi3 : d ≤ ((i + 1 : Nat) : Int) := by omega
    have hdi4 : d + 1 ≤ ((i + 1 : Nat) : Int) := by omega
    have hdi5 : 0 ≤ d + 1 := by omega
    have g1 : (i : Int) < (hi : Int) := by omega
    have g2 : (0 : Int) ≤ (i : Int) := by omega
    have g3 : (i : Int) < (q.length : Int) := by omega
    have gk : 4 ≤ k := by omega
    have gd : ¬ d + 1 = 0 := by omega
    have hmx := mx_bd (b := ((i + 1 : Nat) : Int)) h0 hdi3
    have hnext := fun d' h1 h2 => ih k (i + 1) d' (by omega) (by omega) h1 h2
    have w1 : wrap64 ((i : Int) + 1) = ((i + 1 : Nat) : Int) := (up1 g2 hdi2).trans (by omega)
    have w2 := up1 h0 hdi
    have w3 := dn1 h0 hdi
    have hr : rd q (i : Int) = q[i] := rd_nat q i hil
    rw [hcons]
    generalize (q.take hi).drop (i + 1) = rest at hnext ⊢
    generalize q[i] = c at hr ⊢
    have hun : para_First.l0 (k + 1) q (hi : Int) d (i : Int) = if opn c then (if (sid c).2 = true then (if d + 1 = 0 then some (sid c).1 else para_First.l0 k q (hi : Int) (d + 1) ((i + 1 : Nat) : Int)) else para_First.l0 k q (hi : Int) (d + 1) ((i + 1 : Nat) : Int)) else if c = 22 then (if (sid c).2 = true then (if mx (d - 1) 0 = 0 then some (sid c).1 else para_First.l0 k q (hi : Int) (mx (d - 1) 0) ((i + 1 : Nat) : Int)) else para_First.l0 k q (hi : Int) (mx (d - 1) 0) ((i + 1 : Nat) : Int)) else (if (sid c).2 = true then (if d = 0 then some (sid c).1 else para_First.l0 k q (hi : Int) d ((i + 1 : Nat) : Int)) else para_First.l0 k q (hi : Int) d ((i + 1 : Nat) : Int)) := by
      rw [para_First.l0, if_pos g1, if_pos g2, if_pos g3, hr, opens_f c k gk, Option.bind_some, side_f, Option.bind_some, w1, w2, w3]
      simp only [decide_eq_true_eq, Option.bind_some]
    rw [hun]
    have hfs : fsl (c :: rest) d = if opn c then fsl rest (d + 1) else if c = 22 then (if (sid c).2 = true ∧ mx (d - 1) 0 = 0 then (sid c).1 else fsl rest (mx (d - 1) 0)) else (if (sid c).2 = true ∧ d = 0 then (sid c).1 else fsl rest d) := rfl
    rw [hfs]
    clear hun hfs
    by_cases ho : opn c
    · have hs : (sid c).2 = false := by
        unfold opn at ho
        unfold sid
        rw [if_neg (by omega), if_neg (by omega), if_neg (by omega)]
      rw [if_pos ho, hs, if_neg (by simp), if_pos ho]
      exact hnext (d + 1) hdi5 hdi4
    · rw [if_neg ho, if_neg ho]
      by_cases h22 : c = 22
      · rw [if_pos h22, if_pos h22]
        by_cases hs : (sid c).2 = true
        · rw [if_pos hs]
          by_cases hz : mx (d - 1) 0 = 0
          · rw [if_pos hz, if_pos ⟨hs, hz⟩]
          · rw [if_neg hz, if_neg (fun h => hz h.2)]
            exact hnext _ hmx.1 hmx.2
        · rw [if_neg hs, if_neg (fun h => hs h.1)]
          exact hnext _ hmx.1 hmx.2
      · rw [if_neg h22, if_neg h22]
        by_cases hs : (sid c).2 = true
        · rw [if_pos hs]
          by_cases hz : d = 0
          · rw [if_pos hz, if_pos ⟨hs, hz⟩]
          · rw [if_neg hz, if_neg (fun h => hz h.2)]
            exact hnext d h0 hdi3
        · rw [if_neg hs, if_neg (fun h => hs h.1)]
          exact hnext d h0 hdi3
theorem first_f (q : List Int) (a b : Int) (hq : q.length ≤ 17592186043000) (k : Nat) (hk : q.length + 5 < k) : para_First.f k q a b = some (fsl ((q.take (mn b (q.length : Int)).toNat).drop (mx a 0).toNat) 0) := by
  unfold para_First.f
  have hl : 0 ≤ mx a 0 := by unfold mx; split <;> omega
  have hh : mn b (q.length : Int) ≤ (q.length : Int) := by unfold mn; split <;> omega
  obtain ⟨lo, elo⟩ : ∃ lo : Nat, mx a 0 = (lo : Int) := ⟨(mx a 0).toNat, by omega⟩
  rw [elo]
  by_cases hlt : (lo : Int) < mn b (q.length : Int)
  · obtain ⟨hi, ehi⟩ : ∃ hi : Nat, mn b (q.length : Int) = (hi : Int) := ⟨(mn b (q.length : Int)).toNat, by omega⟩
    rw [ehi] at hh ⊢
    rw [Int.toNat_natCast, Int.toNat_natCast]
    exact first_l0 q hi (by omega) hq (hi - lo) k lo 0 rfl (by omega) (by omega) (by omega)
  · obtain ⟨k, rfl⟩ : ∃ m, k = m + 1 := ⟨k - 1, by omega⟩
    rw [para_First.l0, if_neg hlt, Int.toNat_natCast, List.drop_eq_nil_of_le (by rw [List.length_take]; omega)]
    rfl
/-- Which places go together: the places that are open are kept in a list. -/
def mt (n : Nat) : List Int → Nat → List Int → List Int → List Int
  | [], _, out, _ => out
  | c :: r, i, out, op => if opn c then mt n r (i + 1) (out.set i (n : Int)) (op ++ [(i : Int)])
      else if c = 22 then (if op.length = 0 then mt n r (i + 1) out op else mt n r (i + 1) ((out.set (op.getD (op.length - 1) 0).toNat (i : Int)).set i (op.getD (op.length - 1) 0)) (op.take (op.length - 1)))
      else mt n r (i + 1) out op
theorem mt_len (n : Nat) : ∀ (r : List Int) (i : Nat) (out op : List Int), (mt n r i out op).length = out.length
  | [], _, _, _ => rfl
  | c :: r, i, out, op => by
    unfold mt
    repeat' split
    all_goals rw [mt_len n r]
    all_goals simp
theorem matches_l0 (q : List Int) (hq : q.length ≤ 17592186043000) : ∀ (r : List Int) (k i : Nat) (out op : List Int), q.drop i = r → i + r.length = q.length → r.length + 5 < k → out.length = q.length → op.length ≤ i → (∀ x ∈ op, 0 ≤ x ∧ x < (i : Int)) →
    para_Matches.l0 k q out op q (q.length : Int) (i : Int) = some (mt q.length r i out op)
  | [], k, i, out, op, hr, hi, hk, ho, hop, hb => by
    obtain ⟨k, rfl⟩ : ∃ m, k = m + 1 := ⟨k - 1, by omega⟩
    rw [List.length_nil] at hi
    rw [para_Matches.l0, if_neg (by omega)]
    rfl
  | c :: r, k, i, out, op, hr, hi, hk, ho, hop, hb => by
    obtain ⟨k, rfl⟩ : ∃ m, k = m + 1 := ⟨k - 1, by omega⟩
    rw [List.length_cons] at hi hk
    have hil : i < q.length := by omega
    have hd := List.drop_eq_getElem_cons hil
    rw [hr] at hd
    obtain ⟨hc, hr2⟩ := List.cons.inj hd
    have hrd : rd q (i : Int) = c := by rw [rd_nat q i hil]; exact hc.symm
    have w1 : wrap64 ((i : Int) + 1) = ((i + 1 : Nat) : Int) := by rw [w64 (by omega) (by omega)]; omega
    have hnext := fun out' op' h1 h2 h3 => matches_l0 q hq r k (i + 1) out' op' hr2.symm (by omega) (by omega) h1 h2 h3
    rw [para_Matches.l0, if_pos (by omega), if_pos (by omega), if_pos (by omega), hrd, opens_f c k (by omega), Option.bind_some, w1, mt]
    by_cases hopn : opn c
    · rw [if_pos (by simpa using hopn), if_pos hopn, if_pos (by omega), if_pos (by omega), Int.toNat_natCast]
      refine hnext _ _ (by simp [ho]) (by simp; omega) (fun x hx => ?_)
      rcases List.mem_append.1 hx with h1 | h1
      · have := hb x h1; omega
      · rw [List.mem_singleton] at h1; omega
    · rw [if_neg (by simpa using hopn), if_neg hopn]
      by_cases h22 : c = 22
      · rw [if_pos h22, if_pos h22]
        by_cases hz : op.length = 0
        · rw [if_neg (by omega), if_pos hz]
          exact hnext _ _ ho (by omega) (fun x hx => by have := hb x hx; omega)
        · have w2 : wrap64 ((op.length : Int) - 1) = ((op.length - 1 : Nat) : Int) := by rw [w64 (by omega) (by omega)]; omega
          have hlt : op.length - 1 < op.length := by omega
          have hrl : rd op ((op.length - 1 : Nat) : Int) = op.getD (op.length - 1) 0 := by simp [rd]
          have hm : op.getD (op.length - 1) 0 ∈ op := by rw [List.getD_eq_getElem?_getD, List.getElem?_eq_getElem hlt]; exact List.getElem_mem hlt
          have hbl := hb _ hm
          rw [if_pos (by omega), if_neg hz, w2, if_pos (by omega), if_pos (by omega), if_pos (by omega), hrl, if_pos (by omega), if_pos (by omega), if_pos (by omega), Int.toNat_natCast, Int.toNat_natCast]
          exact hnext _ _ (by simp [ho]) (by rw [List.length_take]; omega) (fun x hx => by have := hb x (List.mem_of_mem_take hx); omega)
      · rw [if_neg h22, if_neg h22]
        exact hnext _ _ ho (by omega) (fun x hx => by have := hb x hx; omega)
/-- What goes together, of a whole paragraph. -/
def mat (q : List Int) : List Int := mt q.length q 0 (List.replicate q.length (-1)) []
theorem matches_f (q : List Int) (hq : q.length ≤ 17592186043000) (k : Nat) (hk : q.length + 5 < k) : para_Matches.f k q = some (mat q) := by
  unfold para_Matches.f slices_Repeat_int_int.f mat
  rw [if_pos (show ([-1] : List Int).length = 1 from rfl), if_pos (by omega), if_pos (by omega), Option.bind_some, Int.toNat_natCast]
  exact matches_l0 q hq q k 0 _ [] (by simp) (by simp) hk (by simp) (by simp) (by simp)
theorem mat_len (q : List Int) : (mat q).length = q.length := by unfold mat; rw [mt_len]; simp

/-! ### explicit.Levels: what it comes to -/
abbrev Ex := explicit_Levels.Ex
/-- A place's step, without rounds. -/
theorem go_some (q : List Int) (bs : Int) (hq : q.length ≤ 17592186043000) (k : Nat) (hk : q.length + 5 < k) (Inv : Nat → Ex → Prop)
    (hstep : ∀ (i : Nat) (s : Ex), i < q.length → Inv i s → ∃ s', explicit_Levels.step k q (mat q) bs i s = some s' ∧ Inv (i + 1) s') : ∀ (n : Nat) (s : Ex), n ≤ q.length → Inv (q.length - n) s → ∃ s', explicit_Levels.go k q (mat q) bs n s = some s' ∧ Inv q.length s'
  | 0, s, hn, h => ⟨s, rfl, h⟩
  | n + 1, s, hn, h => by
    obtain ⟨s', h1, h2⟩ := hstep (q.length - (n + 1)) s (by omega) h
    rw [show q.length - (n + 1) + 1 = q.length - n by omega] at h2
    obtain ⟨s2, h3, h4⟩ := go_some q bs hq k hk Inv hstep n s' (by omega) h2
    exact ⟨s2, by rw [explicit_Levels.go, h1]; exact h3, h4⟩
theorem levels_f (q : List Int) (lv : Int) (hq : q.length ≤ 17592186043000) (k : Nat) (hk : q.length + 5 < k) (Inv : Nat → Ex → Prop) (h0 : Inv 0 (explicit_Levels.s0 (mn (mx lv 0) 1)))
    (hstep : ∀ (i : Nat) (s : Ex), i < q.length → Inv i s → ∃ s', explicit_Levels.step k q (mat q) (mn (mx lv 0) 1) i s = some s' ∧ Inv (i + 1) s') : ∃ s, explicit_Levels.f k q lv = some (s.L, s.T) ∧ Inv q.length s := by
  unfold explicit_Levels.f
  rw [matches_f q hq k hk, Option.bind_some, if_pos hq]
  obtain ⟨s, h1, h2⟩ := go_some q (mn (mx lv 0) 1) (by omega) k hk Inv hstep q.length _ (Nat.le_refl _) (by rw [Nat.sub_self]; exact h0)
  exact ⟨s, by rw [h1]; rfl, h2⟩
theorem base_bd (lv : Int) : 0 ≤ mn (mx lv 0) 1 ∧ mn (mx lv 0) 1 ≤ 1 := by
  unfold mn mx
  repeat' split
  all_goals omega

/-! ### Levels are within bounds -/
def Low (bs : Int) (l : List Stk.Ent) : Prop := ∀ x ∈ l, bs ≤ x.lv
theorem Low.top {bs : Int} {l : List Stk.Ent} (h : Low bs l) (hG : Stk.Good l) : bs ≤ (Stk.topE l).lv := h _ (Stk.topE_mem hG.1)
theorem Low.put {bs : Int} {l : List Stk.Ent} (h : Low bs l) (hG : Stk.Good l) (r : Bool) (o : Int) (i : Bool) : Low bs (l ++ [⟨Stk.nextL r (Stk.topE l).lv, o, i⟩]) := fun x hx => by
  rcases List.mem_append.1 hx with h1 | h1
  · exact h x h1
  · rw [List.mem_singleton] at h1
    subst h1
    have := h.top hG
    have := Stk.nextL_lt (right := r) hG.top.1
    dsimp only
    omega
theorem Low.take {bs : Int} {l : List Stk.Ent} (h : Low bs l) (m : Nat) : Low bs (l.take m) := fun x hx => h x (List.mem_of_mem_take hx)
theorem Low.emb {bs a b : Int} {l : List Stk.Ent} (h : Low bs l) (hG : Stk.Good l) (r : Bool) (o : Int) : Low bs (Stk.embL a b l r o) := by
  unfold Stk.embL; split
  · exact h.put hG _ _ _
  · exact h
theorem Low.isol {bs a b : Int} {l : List Stk.Ent} (h : Low bs l) (hG : Stk.Good l) (r : Bool) : Low bs (Stk.isoL a b l r) := by
  unfold Stk.isoL; split
  · exact h.put hG _ _ _
  · exact h
theorem Low.pop {bs : Int} {l : List Stk.Ent} (h : Low bs l) (hG : Stk.Good l) : Low bs (Stk.popE l) := by
  obtain ⟨m, _, _, h3⟩ := Stk.popE_take l hG.1
  rw [h3]; exact h.take m
theorem Low.ee {bs a b : Int} {l : List Stk.Ent} (h : Low bs l) (hG : Stk.Good l) : Low bs (Stk.eeL a b l) := by
  unfold Stk.eeL
  repeat' split
  all_goals first | exact h | exact h.pop hG
theorem Low.ei {bs a c : Int} {l : List Stk.Ent} (h : Low bs l) (hG : Stk.Good l) : Low bs (Stk.eiL a c l) := by
  unfold Stk.eiL
  repeat' split
  · exact h
  · obtain ⟨m, h1, h2, h3⟩ := Stk.dropI_take l.length l hG.1
    rw [h3]
    obtain ⟨m2, _, _, h5⟩ := Stk.popE_take (l.take m) (by rw [List.length_take]; omega)
    rw [h5]
    exact (h.take m).take m2
  · exact h
/-- All levels so far are from the paragraph's to the limit. -/
def Within (bs : Int) (i : Nat) (s : Ex) : Prop := Stk.Good s.l ∧ Low bs s.l ∧ s.L.length = i ∧ s.T.length = i ∧ ∀ x ∈ s.L, bs ≤ x ∧ x ≤ 125
theorem within_snoc {bs x : Int} {L : List Int} (h : ∀ y ∈ L, bs ≤ y ∧ y ≤ 125) (h1 : bs ≤ x) (h2 : x ≤ 125) : ∀ y ∈ L ++ [x], bs ≤ y ∧ y ≤ 125 := fun y hy => by
  rcases List.mem_append.1 hy with h3 | h3
  · exact h y h3
  · rw [List.mem_singleton] at h3; subst h3; exact ⟨h1, h2⟩
theorem within_step (q : List Int) (bs : Int) (hb : 0 ≤ bs ∧ bs ≤ 1) (hq : q.length ≤ 17592186043000) (k : Nat) (hk : q.length + 5 < k) (i : Nat) (s : Ex) (hi : i < q.length) (h : Within bs i s) : ∃ s', explicit_Levels.step k q (mat q) bs i s = some s' ∧ Within bs (i + 1) s' := by
  obtain ⟨hG, hL, h1, h2, h3⟩ := h
  have ht := hG.top
  have hl := hL.top hG
  have hei := (Stk.Went.ei (a := s.a) (c := s.c) hG).1
  have hle := Low.ei (a := s.a) (c := s.c) hL hG
  unfold explicit_Levels.step
  by_cases h16 : q.getD i 0 = 16
  · rw [if_pos h16]; exact ⟨_, rfl, (Stk.Went.emb hG _ _).1, hL.emb hG _ _, by simp [h1], by simp [h2], within_snoc h3 hl ht.2⟩
  rw [if_neg h16]
  by_cases h14 : q.getD i 0 = 14
  · rw [if_pos h14]; exact ⟨_, rfl, (Stk.Went.emb hG _ _).1, hL.emb hG _ _, by simp [h1], by simp [h2], within_snoc h3 hl ht.2⟩
  rw [if_neg h14]
  by_cases h17 : q.getD i 0 = 17
  · rw [if_pos h17]; exact ⟨_, rfl, (Stk.Went.emb hG _ _).1, hL.emb hG _ _, by simp [h1], by simp [h2], within_snoc h3 hl ht.2⟩
  rw [if_neg h17]
  by_cases h15 : q.getD i 0 = 15
  · rw [if_pos h15]; exact ⟨_, rfl, (Stk.Went.emb hG _ _).1, hL.emb hG _ _, by simp [h1], by simp [h2], within_snoc h3 hl ht.2⟩
  rw [if_neg h15]
  by_cases h20 : q.getD i 0 = 20
  · rw [if_pos h20]; exact ⟨_, rfl, (Stk.Went.isol hG _).1, hL.isol hG _, by simp [h1], by simp [h2], within_snoc h3 hl ht.2⟩
  rw [if_neg h20]
  by_cases h19 : q.getD i 0 = 19
  · rw [if_pos h19]; exact ⟨_, rfl, (Stk.Went.isol hG _).1, hL.isol hG _, by simp [h1], by simp [h2], within_snoc h3 hl ht.2⟩
  rw [if_neg h19]
  by_cases h21 : q.getD i 0 = 21
  · rw [if_pos h21, if_pos (by rw [mat_len]; exact hi), first_f q _ _ (by omega) k hk, Option.bind_some]
    exact ⟨_, rfl, (Stk.Went.isol hG _).1, hL.isol hG _, by simp [h1], by simp [h2], within_snoc h3 hl ht.2⟩
  rw [if_neg h21]
  by_cases h22 : q.getD i 0 = 22
  · rw [if_pos h22]; exact ⟨_, rfl, hei, hle, by simp [h1], by simp [h2], within_snoc h3 (hle.top hei) hei.top.2⟩
  rw [if_neg h22]
  by_cases h18 : q.getD i 0 = 18
  · rw [if_pos h18]; exact ⟨_, rfl, (Stk.Went.ee hG).1, hL.ee hG, by simp [h1], by simp [h2], within_snoc h3 hl ht.2⟩
  rw [if_neg h18]
  by_cases h9 : q.getD i 0 = 9
  · rw [if_pos h9]; exact ⟨_, rfl, hG, hL, by simp [h1], by simp [h2], within_snoc h3 hl ht.2⟩
  rw [if_neg h9]
  by_cases h10 : q.getD i 0 = 10
  · rw [if_pos h10]; exact ⟨_, rfl, hG, hL, by simp [h1], by simp [h2], within_snoc h3 (by omega) (by omega)⟩
  rw [if_neg h10]
  exact ⟨_, rfl, hG, hL, by simp [h1], by simp [h2], within_snoc h3 hl ht.2⟩
theorem newE_low {bs : Int} (hb : 0 ≤ bs ∧ bs ≤ 1) : Low bs [Stk.newE bs] := fun x hx => by
  rw [List.mem_singleton] at hx
  subst hx
  unfold Stk.newE
  dsimp only
  rw [if_neg (by omega), if_neg (by omega)]
  omega
theorem levels_within (q : List Int) (lv : Int) (hq : q.length ≤ 17592186043000) (k : Nat) (hk : q.length + 5 < k) : ∃ s, explicit_Levels.f k q lv = some (s.L, s.T) ∧ Within (mn (mx lv 0) 1) q.length s :=
  levels_f q lv hq k hk (Within (mn (mx lv 0) 1)) ⟨Stk.Good.new _, newE_low (base_bd lv), rfl, rfl, fun _ h => by cases h⟩ (fun i s hi h => within_step q _ (base_bd lv) hq k hk i s hi h)

theorem awake_levels : explicit_Levels.f 20 [17, 0, 18, 0] 0 = some ([0, 1, 1, 0], [9, 1, 9, 0]) := by decide +kernel
theorem awake_up : ∀ j : Nat, explicit_Levels.f (20 + j) [17, 0, 18, 0] 0 = some ([0, 1, 1, 0], [9, 1, 9, 0])
  | 0 => awake_levels
  | j + 1 => explicit_Levels.mono _ _ _ _ (awake_up j)
theorem haw (k : Nat) (hk : 20 ≤ k) : naskhlaw22_awake.f k = some true := by
  obtain ⟨j, rfl⟩ : ∃ j, k = 20 + j := ⟨k - 20, by omega⟩
  unfold naskhlaw22_awake.f
  rw [awake_up j, Option.bind_some]
  dsimp only
  rw [equal_self_int_int [0, 1, 1, 0] (by decide) (20 + j) (by simp only [List.length_cons, List.length_nil]; omega), Option.bind_some, if_pos rfl, equal_self_int_int [9, 1, 9, 0] (by decide) (20 + j) (by simp only [List.length_cons, List.length_nil]; omega), Option.bind_some, if_pos rfl]
  rfl

/-! ### The reference's matches and first, without rounds -/
/-- How far the place is where a depth closes. -/
def cls : List Int → Nat → Nat
  | [], _ => 0
  | c :: r, d => if opn c then cls r (d + 1) + 1 else if c = 22 then (if d = 0 then 0 else cls r (d - 1) + 1) else cls r d + 1
theorem cls_le : ∀ (r : List Int) (d : Nat), cls r d ≤ r.length
  | [], _ => Nat.le_refl _
  | c :: r, d => by
    have h1 := cls_le r (d + 1)
    have h2 := cls_le r (d - 1)
    have h3 := cls_le r d
    rw [cls, List.length_cons]
    repeat' split
    all_goals omega
theorem not_opn22 : ¬ opn 22 := by decide
theorem cls_pdi : ∀ (r : List Int) (d : Nat), cls r d < r.length → r.getD (cls r d) 0 = 22
  | [], _, h => absurd h (Nat.not_lt_zero _)
  | c :: r, d, h => by
    rw [cls] at h ⊢
    rw [List.length_cons] at h
    by_cases ho : opn c
    · rw [if_pos ho] at h ⊢; rw [List.getD_cons_succ]; exact cls_pdi r _ (by omega)
    · rw [if_neg ho] at h ⊢
      by_cases h22 : c = 22
      · rw [if_pos h22] at h ⊢
        by_cases hd : d = 0
        · rw [if_pos hd]; exact h22
        · rw [if_neg hd] at h ⊢; rw [List.getD_cons_succ]; exact cls_pdi r _ (by omega)
      · rw [if_neg h22] at h ⊢; rw [List.getD_cons_succ]; exact cls_pdi r _ (by omega)
theorem opens3_f (c : Int) : naskhref20_Opens.f c = some (decide (opn c)) := by
  unfold naskhref20_Opens.f
  by_cases h1 : c = 19
  · rw [if_pos h1, decide_eq_true (show opn c from Or.inl h1)]
  · rw [if_neg h1]
    by_cases h2 : c = 20
    · rw [if_pos h2, decide_eq_true (show opn c from Or.inr (Or.inl h2))]
    · rw [if_neg h2]
      by_cases h3 : c = 21
      · rw [beq_iff_eq.mpr h3, decide_eq_true (show opn c from Or.inr (Or.inr h3))]
      · rw [beq_eq_false_iff_ne.mpr h3, decide_eq_false (show ¬ opn c from by unfold opn; omega)]
theorem closes_l0 (q : List Int) (hq : q.length ≤ 17592186043000) : ∀ (n k i d : Nat), q.length - i = n → 2 * n + 2 < k → d ≤ i → i ≤ q.length → naskhref20_closes.l0 k q (d : Int) (i : Int) = some ((i + cls (q.drop i) d : Nat) : Int) := by
  intro n
  induction n with
  | zero =>
    intro k i d hn hk hd hi
    obtain ⟨k, rfl⟩ : ∃ m, k = m + 1 := ⟨k - 1, by omega⟩
    rw [naskhref20_closes.l0, if_neg (by omega), List.drop_eq_nil_of_le (by omega), cls, Nat.add_zero, show i = q.length by omega]
  | succ n ih =>
    intro k i d hn hk hd hi
    obtain ⟨k, rfl⟩ : ∃ m, k = m + 2 := ⟨k - 2, by omega⟩
    have hlt : i < q.length := by omega
    have hr : rd q (i : Int) = q[i] := rd_nat q i hlt
    have w1 : wrap64 ((i : Int) + 1) = ((i + 1 : Nat) : Int) := up1 (by omega) (by omega)
    have w2 : wrap64 ((d : Int) + 1) = ((d + 1 : Nat) : Int) := up1 (by omega) (by omega)
    have g1 : (i : Int) < (q.length : Int) := by omega
    have g2 : (0 : Int) ≤ (i : Int) := by omega
    have hnx := fun k' d' h1 h2 => ih k' (i + 1) d' (by omega) h1 h2 (by omega)
    rw [naskhref20_closes.l0, if_pos g1, if_pos g2, hr, opens3_f, Option.bind_some, w1, w2, List.drop_eq_getElem_cons hlt, cls]
    generalize q[i] = c at hr
    by_cases ho : opn c
    · rw [if_pos (decide_eq_true ho), if_pos ho, hnx _ _ (by omega) (by omega)]
      congr 2; omega
    · rw [decide_eq_false ho, if_neg (by decide), if_neg ho]
      by_cases h22 : c = 22
      · rw [if_pos h22, if_pos h22, naskhref20_closes.j1]
        by_cases hd0 : d = 0
        · rw [if_pos (by rw [hd0]; rfl), if_pos hd0]; rfl
        · have w3 : wrap64 ((d : Int) - 1) = ((d - 1 : Nat) : Int) := (dn1 (by omega) (by omega)).trans (by omega)
          have e : ((d : Int) == 0) = false := beq_eq_false_iff_ne.mpr (by omega)
          rw [e, if_neg (by decide), if_pos g2, if_pos g1, hr, if_pos h22, w1, w3, if_neg hd0, hnx _ _ (by omega) (by omega)]
          congr 2; omega
      · rw [if_neg h22, if_neg h22, naskhref20_closes.j1, if_neg (by decide), if_pos g2, if_pos g1, hr, if_neg h22, w1, hnx _ _ (by omega) (by omega)]
        congr 2; omega
theorem closes_f (q : List Int) (hq : q.length ≤ 17592186043000) (k i : Nat) (hk : 2 * q.length + 2 < k) (hi : i < q.length) : naskhref20_closes.f k q (i : Int) = some ((i + 1 + cls (q.drop (i + 1)) 0 : Nat) : Int) := by
  unfold naskhref20_closes.f
  rw [up1 (d := (i : Int)) (by omega) (by omega), show (i : Int) + 1 = ((i + 1 : Nat) : Int) by omega]
  exact closes_l0 q hq (q.length - (i + 1)) k (i + 1) 0 rfl (by omega) (by omega) (by omega)
theorem fsl_skip : ∀ (r : List Int) (d : Nat), fsl r ((d : Int) + 1) = fsl (r.drop (cls r d + 1)) 0
  | [], d => by rw [List.drop_nil]; rfl
  | c :: r, d => by
    rw [fsl, cls, List.drop_succ_cons]
    by_cases ho : opn c
    · rw [if_pos ho, if_pos ho, show (d : Int) + 1 + 1 = ((d + 1 : Nat) : Int) + 1 by omega]
      exact fsl_skip r (d + 1)
    · rw [if_neg ho, if_neg ho]
      by_cases h22 : c = 22
      · have hs : (sid c).2 = false := by rw [h22]; decide
        have hm : mx ((d : Int) + 1 - 1) 0 = (d : Int) := by unfold mx; split <;> omega
        rw [if_pos h22, if_pos h22, hs, if_neg (by simp), hm]
        by_cases hd : d = 0
        · rw [if_pos hd, hd]; rfl
        · rw [if_neg hd]
          have := fsl_skip r (d - 1)
          rw [show ((d - 1 : Nat) : Int) + 1 = (d : Int) by omega] at this
          exact this
      · rw [if_neg h22, if_neg h22, if_neg (fun h => by have := h.2; omega)]
        exact fsl_skip r d
theorem rfirst_l0 (q : List Int) (hq : q.length ≤ 17592186043000) : ∀ (n k i : Nat), q.length - i ≤ n → 2 * q.length + 3 + n < k → naskhref20_First.l0 k q (i : Int) = some (fsl (q.drop i) 0) := by
  intro n
  induction n with
  | zero =>
    intro k i hn hk
    obtain ⟨k, rfl⟩ : ∃ m, k = m + 1 := ⟨k - 1, by omega⟩
    rw [naskhref20_First.l0, if_neg (by omega), List.drop_eq_nil_of_le (by omega)]
    rfl
  | succ n ih =>
    intro k i hn hk
    obtain ⟨k, rfl⟩ : ∃ m, k = m + 1 := ⟨k - 1, by omega⟩
    by_cases hlt : i < q.length
    · have g1 : (i : Int) < (q.length : Int) := by omega
      have g2 : (0 : Int) ≤ (i : Int) := by omega
      have hn1 := ih k (i + 1) (by omega) (by omega)
      have hn2 := ih k (i + 1 + (cls (q.drop (i + 1)) 0 + 1)) (by omega) (by omega)
      have hcl := cls_le (q.drop (i + 1)) 0
      rw [List.length_drop] at hcl
      have hkk : 2 * q.length + 2 < k := by omega
      have hc := closes_f q hq k i hkk hlt
      have b1 : (i : Int) ≤ 17592186043000 := by omega
      have b2 : ((i + 1 + cls (q.drop (i + 1)) 0 : Nat) : Int) ≤ 17592186043000 := by omega
      have hr : rd q (i : Int) = q[i] := rd_nat q i hlt
      have w1 : wrap64 ((i : Int) + 1) = ((i + 1 : Nat) : Int) := (up1 g2 b1).trans (by omega)
      have w2 : wrap64 (((i + 1 + cls (q.drop (i + 1)) 0 : Nat) : Int) + 1) = ((i + 1 + (cls (q.drop (i + 1)) 0 + 1) : Nat) : Int) := (up1 (Int.natCast_nonneg _) b2).trans (by omega)
      rw [naskhref20_First.l0, if_pos g1, if_pos g2, hr, opens3_f, Option.bind_some, hc, Option.bind_some, w1, w2, hn1, hn2, List.drop_eq_getElem_cons hlt, ← List.drop_drop]
      generalize q.drop (i + 1) = r
      generalize q[i] = c
      rw [fsl]
      by_cases ho : opn c
      · have h0 : ¬ c = 0 ∧ ¬ c = 1 ∧ ¬ c = 2 := by unfold opn at ho; omega
        rw [if_neg h0.1, if_neg h0.2.1, if_neg h0.2.2, if_pos (decide_eq_true ho), if_pos ho]
        have := fsl_skip r 0
        rw [← this]
        rfl
      · rw [if_neg ho, decide_eq_false ho, if_neg (by decide : ¬ (false = true))]
        by_cases h0 : c = 0
        · rw [if_pos h0, h0]; rfl
        · rw [if_neg h0]
          by_cases h1 : c = 1
          · rw [if_pos h1, h1]; rfl
          · rw [if_neg h1]
            by_cases h2 : c = 2
            · rw [if_pos h2, h2]; rfl
            · have hs : (sid c).2 = false := by unfold sid; rw [if_neg h0, if_neg h1, if_neg h2]
              rw [if_neg h2, hs]
              by_cases h22 : c = 22
              · rw [if_pos h22, if_neg (by simp)]; rfl
              · rw [if_neg h22, if_neg (by simp)]
    · rw [naskhref20_First.l0, if_neg (by omega), List.drop_eq_nil_of_le (by omega)]
      rfl
theorem rfirst_f (q : List Int) (a b : Int) (hq : q.length ≤ 17592186043000) (k : Nat) (hk : 3 * q.length + 10 < k) : naskhref20_First.f k q a b = some (fsl ((q.take (mn b (q.length : Int)).toNat).drop (mx a 0).toNat) 0) := by
  obtain ⟨k, rfl⟩ : ∃ m, k = m + 1 := ⟨k - 1, by omega⟩
  have hl : 0 ≤ mx a 0 := by unfold mx; split <;> omega
  have hh : mn b (q.length : Int) ≤ (q.length : Int) ∧ mn b (q.length : Int) ≤ b ∧ (mn b (q.length : Int) = b ∨ mn b (q.length : Int) = (q.length : Int)) := by unfold mn; split <;> omega
  have hnil : mx a 0 ≥ (q.length : Int) ∨ b ≤ mx a 0 → (q.take (mn b (q.length : Int)).toNat).drop (mx a 0).toNat = [] := fun h => List.drop_eq_nil_of_le (by rw [List.length_take]; omega)
  unfold naskhref20_First.f
  by_cases h1 : mx a 0 ≥ (q.length : Int)
  · rw [if_pos h1, naskhref20_First.j0, if_pos rfl, hnil (.inl h1)]; rfl
  · rw [if_neg h1, naskhref20_First.j0]
    by_cases h2 : b ≤ mx a 0
    · rw [if_pos (decide_eq_true h2), hnil (.inr h2)]; rfl
    · rw [decide_eq_false h2, if_neg (by decide), if_pos hl, if_pos (by omega), if_pos hh.1]
      have hlen : ((q.take (mn b (q.length : Int)).toNat).drop (mx a 0).toNat).length ≤ q.length := by rw [List.length_drop, List.length_take]; omega
      exact rfirst_l0 _ (by omega) _ k 0 (Nat.sub_le _ _) (by omega)
/-- What a place that opens is told, in the end. -/
theorem mt_told (n : Nat) : ∀ (r : List Int) (i : Nat) (out op : List Int), out.length = n → i + r.length = n → op.Nodup → (∀ p ∈ op, 0 ≤ p ∧ p < (i : Int) ∧ out.getD p.toNat 0 = (n : Int)) →
    (∀ t, t < r.length → opn (r.getD t 0) → (mt n r i out op).getD (i + t) 0 = ((i + t + 1 + cls (r.drop (t + 1)) 0 : Nat) : Int)) ∧ (∀ p : Nat, p < i → (p : Int) ∉ op → (mt n r i out op).getD p 0 = out.getD p 0) ∧ (∀ j, j < op.length → (mt n r i out op).getD (op.getD j 0).toNat 0 = ((i + cls r (op.length - 1 - j) : Nat) : Int))
  | [], i, out, op, ho, hi, hnd, hop => by
    refine ⟨fun t ht => absurd ht (Nat.not_lt_zero _), fun _ _ _ => rfl, fun j hj => ?_⟩
    have hm : op.getD j 0 ∈ op := by rw [List.getD_eq_getElem?_getD, List.getElem?_eq_getElem hj]; exact List.getElem_mem hj
    have := (hop _ hm).2.2
    rw [List.length_nil] at hi
    rw [mt, this, cls]
    omega
  | c :: r, i, out, op, ho, hi, hnd, hop => by
    rw [List.length_cons] at hi
    have gset : ∀ (l : List Int) (a p : Nat) (x : Int), p < l.length → (l.set a x).getD p 0 = if a = p then x else l.getD p 0 := fun l a p x hp => by
      rw [List.getD_eq_getElem?_getD, List.getElem?_set]
      by_cases h : a = p
      · rw [if_pos h, if_pos h, if_pos (by omega)]; rfl
      · rw [if_neg h, if_neg h, List.getD_eq_getElem?_getD]
    have hmem : ∀ j, j < op.length → op.getD j 0 ∈ op := fun j hj => by rw [List.getD_eq_getElem?_getD, List.getElem?_eq_getElem hj]; exact List.getElem_mem hj
    by_cases hc : opn c
    · obtain ⟨k1, k2, k3⟩ := mt_told n r (i + 1) (out.set i (n : Int)) (op ++ [(i : Int)]) (by simp [ho]) (by omega)
        (List.nodup_append.2 ⟨hnd, by simp, fun a ha b hb => by rw [List.mem_singleton] at hb; have := hop a ha; omega⟩)
        (fun p hp => by
          rcases List.mem_append.1 hp with h | h
          · have := hop p h
            refine ⟨this.1, by omega, ?_⟩
            rw [gset _ _ _ _ (by omega), if_neg (by omega)]; exact this.2.2
          · rw [List.mem_singleton] at h
            subst h
            refine ⟨by omega, by omega, ?_⟩
            rw [Int.toNat_natCast, gset _ _ _ _ (by omega), if_pos rfl])
      rw [mt, if_pos hc]
      have hk3 : ∀ j, j < op.length + 1 → (mt n r (i + 1) (out.set i (n : Int)) (op ++ [(i : Int)])).getD ((op ++ [(i : Int)]).getD j 0).toNat 0 = ((i + 1 + cls r (op.length - j) : Nat) : Int) := fun j hj => by
        have := k3 j (by simp; omega)
        rw [List.length_append, List.length_singleton, Nat.add_sub_cancel] at this
        exact this
      refine ⟨fun t ht hto => ?_, fun p hp hn => ?_, fun j hj => ?_⟩
      · cases t with
        | zero =>
          have := hk3 op.length (by omega)
          rw [List.getD_eq_getElem?_getD (l := op ++ [(i : Int)]), List.getElem?_append_right (Nat.le_refl _), Nat.sub_self] at this
          simpa using this
        | succ t =>
          rw [List.getD_cons_succ] at hto
          have := k1 t (by rw [List.length_cons] at ht; omega) hto
          rw [show i + (t + 1) = i + 1 + t by omega, List.drop_succ_cons]
          exact this
      · rw [k2 p (by omega) (fun h => by
          rcases List.mem_append.1 h with h | h
          · exact hn h
          · rw [List.mem_singleton] at h; omega), gset _ _ _ _ (by omega), if_neg (by omega)]
      · have := hk3 j (by omega)
        rw [List.getD_eq_getElem?_getD (l := op ++ [(i : Int)]), List.getElem?_append_left hj, ← List.getD_eq_getElem?_getD] at this
        rw [this, cls, if_pos hc, show op.length - 1 - j + 1 = op.length - j by omega]
        omega
    · by_cases h22 : c = 22
      · by_cases hz : op.length = 0
        · obtain ⟨k1, k2, k3⟩ := mt_told n r (i + 1) out op ho (by omega) hnd (fun p hp => by have := hop p hp; exact ⟨this.1, by omega, this.2.2⟩)
          rw [mt, if_neg hc, if_pos h22, if_pos hz]
          refine ⟨fun t ht hto => ?_, fun p hp hn => k2 p (by omega) hn, fun j hj => absurd hj (by omega)⟩
          cases t with
          | zero => rw [List.getD_cons_zero] at hto; exact absurd hto hc
          | succ t =>
            rw [List.getD_cons_succ] at hto
            have := k1 t (by rw [List.length_cons] at ht; omega) hto
            rw [show i + (t + 1) = i + 1 + t by omega, List.drop_succ_cons]
            exact this
        · have hlast := hop _ (hmem (op.length - 1) (by omega))
          generalize hx : op.getD (op.length - 1) 0 = x at hlast
          have hnl : ∀ j, j < op.length - 1 → op.getD j 0 ≠ x := fun j hj e => by
            rw [← hx, List.getD_eq_getElem?_getD, List.getD_eq_getElem?_getD, List.getElem?_eq_getElem (by omega), List.getElem?_eq_getElem (by omega)] at e
            have := (List.getElem_inj hnd).1 e
            omega
          have hnx : ∀ p, p ∈ op.take (op.length - 1) → p ≠ x := fun p hp e => by
            obtain ⟨j, hj, e2⟩ := List.getElem_of_mem hp
            rw [List.length_take] at hj
            rw [List.getElem_take] at e2
            refine hnl j (by omega) ?_
            rw [List.getD_eq_getElem?_getD, List.getElem?_eq_getElem (by omega)]
            exact e2.trans e
          obtain ⟨k1, k2, k3⟩ := mt_told n r (i + 1) ((out.set x.toNat (i : Int)).set i x) (op.take (op.length - 1)) (by simp [ho]) (by omega) (hnd.sublist (List.take_sublist _ _))
            (fun p hp => by
              have := hop p (List.mem_of_mem_take hp)
              have := hnx p hp
              refine ⟨by omega, by omega, ?_⟩
              rw [gset _ _ _ _ (by simp; omega), if_neg (by omega), gset _ _ _ _ (by omega), if_neg (by omega)]; omega)
          rw [mt, if_neg hc, if_pos h22, if_neg hz, hx]
          refine ⟨fun t ht hto => ?_, fun p hp hn => ?_, fun j hj => ?_⟩
          · cases t with
            | zero => rw [List.getD_cons_zero] at hto; exact absurd hto hc
            | succ t =>
              rw [List.getD_cons_succ] at hto
              have := k1 t (by rw [List.length_cons] at ht; omega) hto
              rw [show i + (t + 1) = i + 1 + t by omega, List.drop_succ_cons]
              exact this
          · have hpx : (p : Int) ≠ x := fun e => hn (by rw [e, ← hx]; exact hmem _ (by omega))
            rw [k2 p (by omega) (fun h => hn (List.mem_of_mem_take h)), gset _ _ _ _ (by simp; omega), if_neg (by omega), gset _ _ _ _ (by omega), if_neg (by omega)]
          · by_cases hjl : j = op.length - 1
            · rw [hjl, hx, k2 x.toNat (by omega) (fun h => hnx _ h (by omega)), gset _ _ _ _ (by simp; omega), if_neg (by omega), gset _ _ _ _ (by omega), if_pos rfl, cls, if_neg hc, if_pos h22, if_pos (by omega)]
              rfl
            · have := k3 j (by rw [List.length_take]; omega)
              rw [List.length_take, List.getD_eq_getElem?_getD (l := op.take _), List.getElem?_take, if_pos (by omega), ← List.getD_eq_getElem?_getD] at this
              rw [this, cls, if_neg hc, if_pos h22, if_neg (by omega), show min (op.length - 1) op.length - 1 - j = op.length - 1 - j - 1 by omega]
              omega
      · obtain ⟨k1, k2, k3⟩ := mt_told n r (i + 1) out op ho (by omega) hnd (fun p hp => by have := hop p hp; exact ⟨this.1, by omega, this.2.2⟩)
        rw [mt, if_neg hc, if_neg h22]
        refine ⟨fun t ht hto => ?_, fun p hp hn => k2 p (by omega) hn, fun j hj => ?_⟩
        · cases t with
          | zero => rw [List.getD_cons_zero] at hto; exact absurd hto hc
          | succ t =>
            rw [List.getD_cons_succ] at hto
            have := k1 t (by rw [List.length_cons] at ht; omega) hto
            rw [show i + (t + 1) = i + 1 + t by omega, List.drop_succ_cons]
            exact this
        · rw [k3 j hj, cls, if_neg hc, if_neg h22]
          omega
theorem mat_told (q : List Int) (i : Nat) (hi : i < q.length) (ho : opn (q.getD i 0)) : (mat q).getD i 0 = ((i + 1 + cls (q.drop (i + 1)) 0 : Nat) : Int) := by
  have := (mt_told q.length q 0 (List.replicate q.length (-1)) [] (by simp) (by omega) List.nodup_nil (fun p hp => by cases hp)).1 i hi ho
  rw [Nat.zero_add] at this
  exact this

theorem rmat_l0 (q : List Int) (hq : q.length ≤ 17592186043000) : ∀ (d k i : Nat), i + d = q.length → naskhref20_Matches.l0 (k + d + 1) q (List.replicate i (-1)) (i : Int) = naskhref20_Matches.l1 k q (List.replicate q.length (-1)) 0 := by
  intro d
  induction d with
  | zero =>
    intro k i hi
    obtain rfl : i = q.length := by omega
    rw [naskhref20_Matches.l0, if_neg (by omega)]
  | succ d ih =>
    intro k i hi
    have w1 : wrap64 ((i : Int) + 1) = ((i + 1 : Nat) : Int) := up1 (by omega) (by omega)
    have hl : (List.replicate i (-1 : Int)).length < 17592186044416 := by simp; omega
    rw [show k + (d + 1) + 1 = (k + d + 1) + 1 by omega, naskhref20_Matches.l0, if_pos (by omega), if_pos hl, w1, ← List.replicate_succ']
    exact ih k (i + 1) (by omega)
def clo (q : List Int) (j : Nat) : Nat := j + 1 + cls (q.drop (j + 1)) 0
theorem rmat_l1 (q : List Int) (hq : q.length ≤ 17592186043000) : ∀ (d k i : Nat) (out : List Int), i + d = q.length → 2 * q.length + 3 + d < k → out.length = q.length → (∀ j, j < i → opn (q.getD j 0) → out.getD j 0 = (clo q j : Int)) → ∃ R : List Int, naskhref20_Matches.l1 k q out (i : Int) = some R ∧ R.length = q.length ∧ ∀ j, j < q.length → opn (q.getD j 0) → R.getD j 0 = (clo q j : Int) := by
  intro d
  induction d with
  | zero =>
    intro k i out hi hk ho hj
    obtain ⟨k, rfl⟩ : ∃ m, k = m + 1 := ⟨k - 1, by omega⟩
    exact ⟨out, by rw [naskhref20_Matches.l1, if_neg (by omega)], ho, fun j h => hj j (by omega)⟩
  | succ d ih =>
    intro k i out hi hk ho hj
    obtain ⟨k, rfl⟩ : ∃ m, k = m + 1 := ⟨k - 1, by omega⟩
    have hlt : i < q.length := by omega
    have g1 : (i : Int) < (q.length : Int) := by omega
    have g2 : (0 : Int) ≤ (i : Int) := by omega
    have hkk : 2 * q.length + 2 < k := by omega
    have hkd : 2 * q.length + 3 + d < k := by omega
    have b1 : (i : Int) ≤ 17592186043000 := by omega
    have hc := closes_f q hq k i hkk hlt
    have hgq : q.getD i 0 = q[i] := by rw [List.getD_eq_getElem?_getD, List.getElem?_eq_getElem hlt, Option.getD_some]
    have hr : rd q (i : Int) = q[i] := rd_nat q i hlt
    have w1 : wrap64 ((i : Int) + 1) = ((i + 1 : Nat) : Int) := (up1 g2 b1).trans (by omega)
    have gset : ∀ (l : List Int) (a p : Nat) (x : Int), p < l.length → (l.set a x).getD p 0 = if a = p then x else l.getD p 0 := fun l a p x hp => by
      rw [List.getD_eq_getElem?_getD, List.getElem?_set]
      by_cases h : a = p
      · rw [if_pos h, if_pos h, if_pos (by omega)]; rfl
      · rw [if_neg h, if_neg h, List.getD_eq_getElem?_getD]
    have hnx := fun out' h1 h2 => ih k (i + 1) out' (by omega) hkd h1 h2
    rw [naskhref20_Matches.l1, if_pos g1, if_pos g2, hr, opens3_f, Option.bind_some, hc, Option.bind_some, ho, if_pos g1, Option.bind_some, w1, Int.toNat_natCast, Int.toNat_natCast]
    by_cases hop : opn q[i]
    · rw [if_pos (decide_eq_true hop)]
      have hset : ∀ j, j < i + 1 → opn (q.getD j 0) → (out.set i ((i + 1 + cls (q.drop (i + 1)) 0 : Nat) : Int)).getD j 0 = (clo q j : Int) := fun j h1 h2 => by
        rw [gset _ _ _ _ (by omega)]
        by_cases hij : i = j
        · rw [if_pos hij, ← hij]; rfl
        · rw [if_neg hij]; exact hj j (by omega) h2
      by_cases ht : ((i + 1 + cls (q.drop (i + 1)) 0 : Nat) : Int) < (q.length : Int)
      · rw [if_pos ht, if_pos (Int.natCast_nonneg _), if_pos ht]
        refine hnx _ (by simp [ho]) (fun j h1 h2 => ?_)
        rw [gset _ _ _ _ (by rw [List.length_set]; omega), if_neg ?_]
        · exact hset j h1 h2
        · intro e
          have hp := cls_pdi (q.drop (i + 1)) 0 (by rw [List.length_drop]; omega)
          rw [List.getD_eq_getElem?_getD, List.getElem?_drop, ← List.getD_eq_getElem?_getD, e] at hp
          rw [hp] at h2
          exact not_opn22 h2
      · rw [if_neg ht]
        exact hnx _ (by simp [ho]) hset
    · rw [decide_eq_false hop, if_neg (by decide)]
      refine hnx _ ho (fun j h1 h2 => ?_)
      by_cases hij : i = j
      · subst hij; rw [hgq] at h2; exact absurd h2 hop
      · exact hj j (by omega) h2
theorem rmat_f (q : List Int) (hq : q.length ≤ 17592186043000) (k : Nat) (hk : 4 * q.length + 10 < k) : ∃ R : List Int, naskhref20_Matches.f k q = some R ∧ R.length = q.length ∧ ∀ j, j < q.length → opn (q.getD j 0) → R.getD j 0 = (clo q j : Int) := by
  obtain ⟨m, rfl⟩ : ∃ m, k = m + q.length + 1 := ⟨k - q.length - 1, by omega⟩
  obtain ⟨R, e, h1, h2⟩ := rmat_l1 q hq q.length m 0 (List.replicate q.length (-1)) (by omega) (by omega) (by simp) (fun j h => absurd h (Nat.not_lt_zero _))
  refine ⟨R, ?_, h1, h2⟩
  unfold naskhref20_Matches.f
  exact (rmat_l0 q hq q.length m 0 (by omega)).trans e
theorem right21 (q : List Int) (hq : q.length ≤ 17592186043000) (k i : Nat) (hk : 4 * q.length + 10 < k) (hi : i < q.length) (h : q.getD i 0 = 21) : ∃ x : Int, para_First.f k q ((i : Int) + 1) ((mat q).getD i 0) = some x ∧ naskhref22_right.f k q (i : Int) = some (x == 1) := by
  obtain ⟨R, e, h1, h2⟩ := rmat_f q hq k hk
  have ho : opn (q.getD i 0) := by rw [h]; decide
  have w1 : wrap64 ((i : Int) + 1) = (i : Int) + 1 := up1 (by omega) (by omega)
  have hRi : rd R (i : Int) = (mat q).getD i 0 := by
    rw [mat_told q i hi ho, naskhref22_Levels.rdD, h2 i hi ho]
    rfl
  refine ⟨_, first_f q _ _ hq k (by omega), ?_⟩
  unfold naskhref22_right.f
  rw [if_pos (by omega), if_pos (by omega), naskhref22_Levels.rdD, if_pos h, e, Option.bind_some, if_pos (by omega), hRi, w1, rfirst_f q _ _ hq k (by omega)]
  rfl
def toE (s : Stk.RSt) : Ex := ⟨s.a, s.b, s.c, s.l, s.L, s.T⟩
theorem step_same (q : List Int) (hq : q.length ≤ 17592186043000) (bs : Int) (k i : Nat) (hk : 4 * q.length + 10 < k) (hi : i < q.length) (s : Stk.RSt) : explicit_Levels.step k q (mat q) bs i (toE s) = (naskhref22_Levels.step k q bs i s).map toE := by
  unfold explicit_Levels.step naskhref22_Levels.step
  by_cases h16 : q.getD i 0 = 16
  · rw [if_pos h16, if_pos h16]; rfl
  rw [if_neg h16, if_neg h16]
  by_cases h14 : q.getD i 0 = 14
  · rw [if_pos h14, if_pos h14]; rfl
  rw [if_neg h14, if_neg h14]
  by_cases h17 : q.getD i 0 = 17
  · rw [if_pos h17, if_pos h17]; rfl
  rw [if_neg h17, if_neg h17]
  by_cases h15 : q.getD i 0 = 15
  · rw [if_pos h15, if_pos h15]; rfl
  rw [if_neg h15, if_neg h15]
  by_cases h20 : q.getD i 0 = 20
  · rw [if_pos h20, if_pos h20]; rfl
  rw [if_neg h20, if_neg h20]
  by_cases h19 : q.getD i 0 = 19
  · rw [if_pos h19, if_pos h19]; rfl
  rw [if_neg h19, if_neg h19]
  by_cases h21 : q.getD i 0 = 21
  · obtain ⟨x, e1, e2⟩ := right21 q hq k i hk hi h21
    rw [if_pos h21, if_pos h21, if_pos (by rw [mat_len]; exact hi), e1, e2]; rfl
  rw [if_neg h21, if_neg h21]
  by_cases h22 : q.getD i 0 = 22
  · rw [if_pos h22, if_pos h22]; rfl
  rw [if_neg h22, if_neg h22]
  by_cases h18 : q.getD i 0 = 18
  · rw [if_pos h18, if_pos h18]; rfl
  rw [if_neg h18, if_neg h18]
  by_cases h9 : q.getD i 0 = 9
  · rw [if_pos h9, if_pos h9]; rfl
  rw [if_neg h9, if_neg h9]
  by_cases h10 : q.getD i 0 = 10
  · rw [if_pos h10, if_pos h10]; rfl
  rw [if_neg h10, if_neg h10]; rfl
theorem go_same (q : List Int) (hq : q.length ≤ 17592186043000) (bs : Int) (k : Nat) (hk : 4 * q.length + 10 < k) : ∀ (n : Nat) (s : Stk.RSt), n ≤ q.length → explicit_Levels.go k q (mat q) bs n (toE s) = (naskhref22_Levels.go k q bs n s).map toE
  | 0, s, _ => rfl
  | n + 1, s, hn => by
    rw [explicit_Levels.go, naskhref22_Levels.go, step_same q hq bs k _ hk (by omega)]
    cases naskhref22_Levels.step k q bs (q.length - (n + 1)) s with
    | none => rfl
    | some s2 => exact go_same q hq bs k hk n s2 (by omega)
theorem f_same (q : List Int) (lv : Int) (hq : q.length ≤ 17592186043000) (k : Nat) (hk : 4 * q.length + 10 < k) : naskhref22_Levels.f k q lv = explicit_Levels.f k q lv := by
  unfold explicit_Levels.f naskhref22_Levels.f
  rw [matches_f q hq k (by omega), Option.bind_some, if_pos hq, if_pos hq]
  have := go_same q hq (mn (mx lv 0) 1) k hk q.length (naskhref22_Levels.s0 (mn (mx lv 0) 1)) (Nat.le_refl _)
  rw [show explicit_Levels.s0 (mn (mx lv 0) 1) = toE (naskhref22_Levels.s0 (mn (mx lv 0) 1)) from rfl, this]
  cases naskhref22_Levels.go k q (mn (mx lv 0) 1) q.length (naskhref22_Levels.s0 (mn (mx lv 0) 1)) <;> rfl
theorem left_same (c : Int) : ∃ b, explicit_Left.f c = some b ∧ naskhref22_Left.f c = some b := by
  unfold explicit_Left.f naskhref22_Left.f
  by_cases h : c = 14 ∨ c = 15 ∨ c = 16 ∨ c = 17 ∨ c = 18 ∨ c = 9
  · refine ⟨true, ?_, ?_⟩
    · repeat' split
      all_goals first | rfl | omega
    · rcases h with rfl | rfl | rfl | rfl | rfl | rfl <;> decide
  · refine ⟨false, ?_, ?_⟩
    · rw [if_neg (by omega), if_neg (by omega), if_neg (by omega), if_neg (by omega), if_neg (by omega), if_neg (by omega)]
    · have e : (c == 9) = false := beq_eq_false_iff_ne.mpr (by omega)
      by_cases h1 : c ≥ 14
      · rw [if_pos h1, if_neg (by omega), e]
      · rw [if_neg h1, e]
theorem lev_loop (q L T : List Int) (hq : q.length ≤ 300) (hL : L.length ≤ 300) (hT : T.length ≤ 300) : ∀ (d k i : Nat), i + d = q.length → d + 400 < k → naskhlaw22_ExplicitLevels.l0 k L T L T q (q.length : Int) (i : Int) = some true := by
  intro d
  induction d with
  | zero =>
    intro k i hi hk
    obtain ⟨k, rfl⟩ : ∃ m, k = m + 1 := ⟨k - 1, by omega⟩
    rw [naskhlaw22_ExplicitLevels.l0, if_neg (by omega), equal_self_int_int L (by omega) k (by omega), Option.bind_some, if_pos rfl, equal_self_int_int T (by omega) k (by omega), Option.bind_some, if_pos rfl, haw k (by omega)]
    rfl
  | succ d ih =>
    intro k i hi hk
    obtain ⟨k, rfl⟩ : ∃ m, k = m + 1 := ⟨k - 1, by omega⟩
    have w1 : wrap64 ((i : Int) + 1) = ((i + 1 : Nat) : Int) := up1 (by omega) (by omega)
    have hil : i < q.length := by omega
    have hn := ih k (i + 1) (by omega) (by omega)
    obtain ⟨b, e1, e2⟩ := left_same q[i]
    rw [naskhlaw22_ExplicitLevels.l0, if_pos (by omega), if_pos (by omega), if_pos (by omega), rd_nat q i hil, w1, e1, Option.bind_some, e2, Option.bind_some, if_neg (by simp)]
    exact hn
theorem ExplicitLevels_ok : naskhlaw22_ExplicitLevels.Pure := by
  intro q lv h1 h2 h3 h4
  refine ⟨3000, ?_⟩
  unfold naskhlaw22_ExplicitLevels.f
  by_cases h : (q.length : Int) > 300
  · rw [if_pos h, haw 3000 (by omega)]; rfl
  · rw [if_neg h, f_same q lv (by omega) 3000 (by omega)]
    obtain ⟨s, hs, hG, hl, hL, hT, hb⟩ := levels_within q lv (by omega) 3000 (by omega)
    rw [hs, Option.bind_some, Option.bind_some]
    exact lev_loop q s.L s.T (by omega) (by omega) (by omega) q.length 3000 0 (by omega) (by omega)
end Go.Proofs.Ytbkdaafphcfpdaa.PureExplicitLevelsAux
namespace Go.Proofs.Ytbkdaafphcfpdaa.Pure
open Go.Proofs.Ytbkdaafphcfpdaa.PExplicitLevels
theorem ExplicitLevels : naskhlaw22_ExplicitLevels.Pure := PureExplicitLevelsAux.ExplicitLevels_ok
end Go.Proofs.Ytbkdaafphcfpdaa.Pure
