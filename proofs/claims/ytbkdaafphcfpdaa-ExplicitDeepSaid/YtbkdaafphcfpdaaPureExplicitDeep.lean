/- What isolates and what it isolates come back, however deep. No condition. -/
import Derived.Test.YtbkdaafphcfpdaaPExplicitDeepx
namespace Go.Proofs.Ytbkdaafphcfpdaa.PureExplicitDeepAux
open Go.RowKit Go.Proofs.Ytbkdaafphcfpdaa.PExplicitDeep Go.Proofs.YtbkdaafphcfpdaaW.PrintWords Go.Proofs.YtbkdaafphcfpdaaW.PrintLast

set_option linter.unusedSimpArgs false
set_option linter.unusedVariables false
theorem w64 {x : Int} (h0 : -9223372036854775808 ≤ x) (h1 : x ≤ 9223372036854775807) : wrap64 x = x := by unfold wrap64; omega
theorem rd_at (pre : List Int) (x : Int) (rest : List Int) : rd (pre ++ x :: rest) (pre.length : Int) = x := by simp [rd]
theorem rd_nat (l : List Int) (i : Nat) (h : i < l.length) : rd l (i : Int) = l[i] := by simp [rd, h]
theorem wf64 {x : Int} (h : (Lit.int .i64 x).wf = true) : -9223372036854775808 ≤ x ∧ x ≤ 9223372036854775807 := by
  simpa [Lit.wf, IntKind.min, IntKind.max, IntKind.signed, IntKind.bits] using h
theorem bsome {P : Prop} [Decidable P] {b : Bool} (h : b = true ↔ P) : some b = some (decide P) := by
  congr 1; rw [Bool.eq_iff_iff]; simpa using h
theorem u16w {x : Int} (h0 : 0 ≤ x) (h1 : x ≤ 65535) : IntKind.u16.wrap x = x := by
  simp [IntKind.wrap, IntKind.min, IntKind.max, IntKind.signed, IntKind.bits]; omega

theorem eq_loop_int_int (a b : List Int) (hl : a.length = b.length) (hm : a.length ≤ 9223372036854775806) : ∀ d k i : Nat, i + d = a.length → d < k →
    slices_Equal_int_int.l0 k a b a.length i = some (decide (a.drop i = b.drop i)) := by
  intro d
  induction d with
  | zero =>
    intro k i hi hk
    obtain ⟨k, rfl⟩ : ∃ m, k = m + 1 := ⟨k - 1, by omega⟩
    simp only [slices_Equal_int_int.l0]
    rw [if_neg (by omega), List.drop_eq_nil_of_le (by omega), List.drop_eq_nil_of_le (by omega)]
    simp
  | succ d ih =>
    intro k i hi hk
    obtain ⟨k, rfl⟩ : ∃ m, k = m + 1 := ⟨k - 1, by omega⟩
    simp only [slices_Equal_int_int.l0]
    rw [if_pos (by omega), if_pos (by omega), if_pos (by omega), if_pos (by omega), rd_nat a i (by omega), rd_nat b i (by omega),
      List.drop_eq_getElem_cons (by omega : i < a.length), List.drop_eq_getElem_cons (by omega : i < b.length)]
    by_cases h : a[i]'(by omega) = b[i]'(by omega)
    · rw [if_pos h, w64 (by omega) (by omega)]
      have := ih k (i + 1) (by omega) (by omega)
      rw [Int.natCast_add] at this
      rw [show ((1 : Nat) : Int) = 1 from rfl] at this
      rw [this]
      congr 1
      rw [decide_eq_decide, List.cons.injEq]
      simp only [h, true_and]
    · rw [if_neg h]
      congr 1
      symm
      rw [decide_eq_false_iff_not, List.cons.injEq]
      exact fun e => h e.1
theorem equal_f_int_int (a b : List Int) (hm : a.length ≤ 9223372036854775806) (k : Nat) (hk : a.length < k) : slices_Equal_int_int.f k a b = some (decide (a = b)) := by
  unfold slices_Equal_int_int.f
  by_cases hl : a.length = b.length
  · rw [if_pos (by omega), show (0 : Int) = ((0 : Nat) : Int) from rfl, eq_loop_int_int a b hl hm a.length k 0 (by omega) hk]
    simp
  · rw [if_neg (by omega)]
    have : a ≠ b := fun e => hl (by rw [e])
    simp [this]
theorem equal_self_int_int (a : List Int) (hm : a.length ≤ 9223372036854775806) (k : Nat) (hk : a.length < k) : slices_Equal_int_int.f k a a = some true := by
  rw [equal_f_int_int a a hm k hk]; simp

/-! ### The classes: what opens, which side -/
def opn (c : Int) : Prop := c = 19 ∨ c = 20 ∨ c = 21
instance (c : Int) : Decidable (opn c) := by unfold opn; infer_instance
theorem opens_f (c : Int) (k : Nat) (hk : 4 ≤ k) : para_opens.f k c = some (decide (opn c)) := by
  obtain ⟨k, rfl⟩ : ∃ m, k = m + 4 := ⟨k - 4, by omega⟩
  have a1 : wrap64 (0 + 1) = 1 := w64 (by omega) (by omega)
  have a2 : wrap64 (1 + 1) = 2 := w64 (by omega) (by omega)
  have a3 : wrap64 (2 + 1) = 3 := w64 (by omega) (by omega)
  unfold para_opens.f slices_Contains_int_int.f slices_Index_int_int.f
  have e : slices_Index_int_int.l0 (k + 4) [19, 20, 21] c (([19, 20, 21] : List Int).length : Int) 0 = some (if c = 19 then 0 else if c = 20 then 1 else if c = 21 then 2 else -1) := by
    simp only [slices_Index_int_int.l0, List.length_cons, List.length_nil]
    rw [if_pos (by omega), if_pos (by omega), if_pos (by omega), show rd [19, 20, 21] 0 = 19 from rfl]
    by_cases h1 : c = 19
    · rw [if_pos h1, if_pos h1]
    · rw [if_neg h1, if_neg h1, a1, if_pos (by omega), if_pos (by omega), if_pos (by omega), show rd [19, 20, 21] 1 = 20 from rfl]
      by_cases h2 : c = 20
      · rw [if_pos h2, if_pos h2]
      · rw [if_neg h2, if_neg h2, a2, if_pos (by omega), if_pos (by omega), if_pos (by omega), show rd [19, 20, 21] 2 = 21 from rfl]
        by_cases h3 : c = 21
        · rw [if_pos h3, if_pos h3]
        · rw [if_neg h3, if_neg h3, a3, if_neg (by omega)]
  rw [e]
  simp only [Option.bind_some]
  congr 1
  rw [decide_eq_decide]
  unfold opn
  repeat' split
  all_goals omega
/-- Which side a class is of. -/
def sid (c : Int) : Int × Bool := if c = 0 then (0, true) else if c = 1 then (1, true) else if c = 2 then (1, true) else (0, false)
theorem side_f (c : Int) : para_side.f c = some (sid c) := by
  unfold para_side.f sid
  repeat' split
  all_goals rfl
/-- The first strong class outside of what is isolated. -/
def fsl : List Int → Int → Int
  | [], _ => -1
  | c :: r, d => if opn c then fsl r (d + 1) else if c = 22 then (if (sid c).2 = true ∧ mx (d - 1) 0 = 0 then (sid c).1 else fsl r (mx (d - 1) 0)) else (if (sid c).2 = true ∧ d = 0 then (sid c).1 else fsl r d)
theorem up1 {d : Int} (h0 : 0 ≤ d) (h1 : d ≤ 17592186043000) : wrap64 (d + 1) = d + 1 := w64 (by omega) (by omega)
theorem dn1 {d : Int} (h0 : 0 ≤ d) (h1 : d ≤ 17592186043000) : wrap64 (d - 1) = d - 1 := w64 (by omega) (by omega)
theorem mx_bd {d b : Int} (h0 : 0 ≤ d) (h1 : d ≤ b) : 0 ≤ mx (d - 1) 0 ∧ mx (d - 1) 0 ≤ b := by unfold mx; split <;> omega
theorem first_l0 (q : List Int) (hi : Nat) (hh : hi ≤ q.length) (hq : q.length ≤ 17592186043000) : ∀ (n k i : Nat) (d : Int), hi - i = n → n + 5 < k → 0 ≤ d → d ≤ (i : Int) →
    para_First.l0 k q (hi : Int) d (i : Int) = some (fsl ((q.take hi).drop i) d) := by
  intro n
  induction n with
  | zero =>
    intro k i d hn hk h0 h1
    obtain ⟨k, rfl⟩ : ∃ m, k = m + 1 := ⟨k - 1, by omega⟩
    rw [para_First.l0, if_neg (by omega), List.drop_eq_nil_of_le (by rw [List.length_take]; omega)]
    rfl
  | succ n ih =>
    intro k i d hn hk h0 h1
    obtain ⟨k, rfl⟩ : ∃ m, k = m + 1 := ⟨k - 1, by omega⟩
    have hlen : i < (q.take hi).length := by rw [List.length_take]; omega
    have hil : i < q.length := by omega
    have hcons : (q.take hi).drop i = q[i] :: (q.take hi).drop (i + 1) := by rw [List.drop_eq_getElem_cons hlen, List.getElem_take]
    have hdi : d ≤ 17592186043000 := by omega
    have hdi2 : (i : Int) ≤ 17592186043000 := by omega
    have hdi3 : d ≤ ((i + 1 : Nat) : Int) := by omega
    have hdi4 : d + 1 ≤ ((i + 1 : Nat) : Int) := by omega
    have hdi5 : 0 ≤ d + 1 := by omega
    have g1 : (i : Int) < (hi : Int) := by omega
    have g2 : (0 : Int) ≤ (i : Int) := by omega
    have g3 : (i : Int) < (q.length : Int) := by omega
    have gk : 4 ≤ k := by omega
    have gd : ¬ d + 1 = 0 := by omega
    have hmx := mx_bd (b := ((i + 1 : Nat) : Int)) h0 hdi3
    have hnext := fun d' h1 h2 => ih k (i + 1) d' (by omega) (by omega) h1 h2
    have w1 : wrap64 ((i : Int) + 1) = ((i + 1 : Nat) : Int) := (up1 g2 hdi2).trans (by omega)
    have w2 := up1 h0 hdi
    have w3 := dn1 h0 hdi
    have hr : rd q (i : Int) = q[i] := rd_nat q i hil
    rw [hcons]
    generalize (q.take hi).drop (i + 1) = rest at hnext ⊢
    generalize q[i] = c at hr ⊢
    have hun : para_First.l0 (k + 1) q (hi : Int) d (i : Int) = if opn c then (if (sid c).2 = true then (if d + 1 = 0 then some (sid c).1 else para_First.l0 k q (hi : Int) (d + 1) ((i + 1 : Nat) : Int)) else para_First.l0 k q (hi : Int) (d + 1) ((i + 1 : Nat) : Int)) else if c = 22 then (if (sid c).2 = true then (if mx (d - 1) 0 = 0 then some (sid c).1 else para_First.l0 k q (hi : Int) (mx (d - 1) 0) ((i + 1 : Nat) : Int)) else para_First.l0 k q (hi : Int) (mx (d - 1) 0) ((i + 1 : Nat) : Int)) else (if (sid c).2 = true then (if d = 0 then some (sid c).1 else para_First.l0 k q (hi : Int) d ((i + 1 : Nat) : Int)) else para_First.l0 k q (hi : Int) d ((i + 1 : Nat) : Int)) := by
      rw [para_First.l0, if_pos g1, if_pos g2, if_pos g3, hr, opens_f c k gk, Option.bind_some, side_f, Option.bind_some, w1, w2, w3]
      simp only [decide_eq_true_eq, Option.bind_some]
    rw [hun]
    have hfs : fsl (c :: rest) d = if opn c then fsl rest (d + 1) else if c = 22 then (if (sid c).2 = true ∧ mx (d - 1) 0 = 0 then (sid c).1 else fsl rest (mx (d - 1) 0)) else (if (sid c).2 = true ∧ d = 0 then (sid c).1 else fsl rest d) := rfl
    rw [hfs]
    clear hun hfs
    by_cases ho : opn c
    · have hs : (sid c).2 = false := by
        unfold opn at ho
        unfold sid
        rw [if_neg (by omega), if_neg (by omega), if_neg (by omega)]
      rw [if_pos ho, hs, if_neg (by simp), if_pos ho]
      exact hnext (d + 1) hdi5 hdi4
    · rw [if_neg ho, if_neg ho]
      by_cases h22 : c = 22
      · rw [if_pos h22, if_pos h22]
        by_cases hs : (sid c).2 = true
        · rw [if_pos hs]
          by_cases hz : mx (d - 1) 0 = 0
          · rw [if_pos hz, if_pos ⟨hs, hz⟩]
          · rw [if_neg hz, if_neg (fun h => hz h.2)]
            exact hnext _ hmx.1 hmx.2
        · rw [if_neg hs, if_neg (fun h => hs h.1)]
          exact hnext _ hmx.1 hmx.2
      · rw [if_neg h22, if_neg h22]
        by_cases hs : (sid c).2 = true
        · rw [if_pos hs]
          by_cases hz : d = 0
          · rw [if_pos hz, if_pos ⟨hs, hz⟩]
          · rw [if_neg hz, if_neg (fun h => hz h.2)]
            exact hnext d h0 hdi3
        · rw [if_neg hs, if_neg (fun h => hs h.1)]
          exact hnext d h0 hdi3
theorem first_f (q : List Int) (a b : Int) (hq : q.length ≤ 17592186043000) (k : Nat) (hk : q.length + 5 < k) : para_First.f k q a b = some (fsl ((q.take (mn b (q.length : Int)).toNat).drop (mx a 0).toNat) 0) := by
  unfold para_First.f
  have hl : 0 ≤ mx a 0 := by unfold mx; split <;> omega
  have hh : mn b (q.length : Int) ≤ (q.length : Int) := by unfold mn; split <;> omega
  obtain ⟨lo, elo⟩ : ∃ lo : Nat, mx a 0 = (lo : Int) := ⟨(mx a 0).toNat, by omega⟩
  rw [elo]
  by_cases hlt : (lo : Int) < mn b (q.length : Int)
  · obtain ⟨hi, ehi⟩ : ∃ hi : Nat, mn b (q.length : Int) = (hi : Int) := ⟨(mn b (q.length : Int)).toNat, by omega⟩
    rw [ehi] at hh ⊢
    rw [Int.toNat_natCast, Int.toNat_natCast]
    exact first_l0 q hi (by omega) hq (hi - lo) k lo 0 rfl (by omega) (by omega) (by omega)
  · obtain ⟨k, rfl⟩ : ∃ m, k = m + 1 := ⟨k - 1, by omega⟩
    rw [para_First.l0, if_neg hlt, Int.toNat_natCast, List.drop_eq_nil_of_le (by rw [List.length_take]; omega)]
    rfl
/-- Which places go together: the places that are open are kept in a list. -/
def mt (n : Nat) : List Int → Nat → List Int → List Int → List Int
  | [], _, out, _ => out
  | c :: r, i, out, op => if opn c then mt n r (i + 1) (out.set i (n : Int)) (op ++ [(i : Int)])
      else if c = 22 then (if op.length = 0 then mt n r (i + 1) out op else mt n r (i + 1) ((out.set (op.getD (op.length - 1) 0).toNat (i : Int)).set i (op.getD (op.length - 1) 0)) (op.take (op.length - 1)))
      else mt n r (i + 1) out op
theorem mt_len (n : Nat) : ∀ (r : List Int) (i : Nat) (out op : List Int), (mt n r i out op).length = out.length
  | [], _, _, _ => rfl
  | c :: r, i, out, op => by
    unfold mt
    repeat' split
    all_goals rw [mt_len n r]
    all_goals simp
theorem matches_l0 (q : List Int) (hq : q.length ≤ 17592186043000) : ∀ (r : List Int) (k i : Nat) (out op : List Int), q.drop i = r → i + r.length = q.length → r.length + 5 < k → out.length = q.length → op.length ≤ i → (∀ x ∈ op, 0 ≤ x ∧ x < (i : Int)) →
    para_Matches.l0 k q out op q (q.length : Int) (i : Int) = some (mt q.length r i out op)
  | [], k, i, out, op, hr, hi, hk, ho, hop, hb => by
    obtain ⟨k, rfl⟩ : ∃ m, k = m + 1 := ⟨k - 1, by omega⟩
    rw [List.length_nil] at hi
    rw [para_Matches.l0, if_neg (by omega)]
    rfl
  | c :: r, k, i, out, op, hr, hi, hk, ho, hop, hb => by
    obtain ⟨k, rfl⟩ : ∃ m, k = m + 1 := ⟨k - 1, by omega⟩
    rw [List.length_cons] at hi hk
    have hil : i < q.length := by omega
    have hd := List.drop_eq_getElem_cons hil
    rw [hr] at hd
    obtain ⟨hc, hr2⟩ := List.cons.inj hd
    have hrd : rd q (i : Int) = c := by rw [rd_nat q i hil]; exact hc.symm
    have w1 : wrap64 ((i : Int) + 1) = ((i + 1 : Nat) : Int) := by rw [w64 (by omega) (by omega)]; omega
    have hnext := fun out' op' h1 h2 h3 => matches_l0 q hq r k (i + 1) out' op' hr2.symm (by omega) (by omega) h1 h2 h3
    rw [para_Matches.l0, if_pos (by omega), if_pos (by omega), if_pos (by omega), hrd, opens_f c k (by omega), Option.bind_some, w1, mt]
    by_cases hopn : opn c
    · rw [if_pos (by simpa using hopn), if_pos hopn, if_pos (by omega), if_pos (by omega), Int.toNat_natCast]
      refine hnext _ _ (by simp [ho]) (by simp; omega) (fun x hx => ?_)
      rcases List.mem_append.1 hx with h1 | h1
      · have := hb x h1; omega
      · rw [List.mem_singleton] at h1; omega
    · rw [if_neg (by simpa using hopn), if_neg hopn]
      by_cases h22 : c = 22
      · rw [if_pos h22, if_pos h22]
        by_cases hz : op.length = 0
        · rw [if_neg (by omega), if_pos hz]
          exact hnext _ _ ho (by omega) (fun x hx => by have := hb x hx; omega)
        · have w2 : wrap64 ((op.length : Int) - 1) = ((op.length - 1 : Nat) : Int) := by rw [w64 (by omega) (by omega)]; omega
          have hlt : op.length - 1 < op.length := by omega
          have hrl : rd op ((op.length - 1 : Nat) : Int) = op.getD (op.length - 1) 0 := by simp [rd]
          have hm : op.getD (op.length - 1) 0 ∈ op := by rw [List.getD_eq_getElem?_getD, List.getElem?_eq_getElem hlt]; exact List.getElem_mem hlt
          have hbl := hb _ hm
          rw [if_pos (by omega), if_neg hz, w2, if_pos (by omega), if_pos (by omega), if_pos (by omega), hrl, if_pos (by omega), if_pos (by omega), if_pos (by omega), Int.toNat_natCast, Int.toNat_natCast]
          exact hnext _ _ (by simp [ho]) (by rw [List.length_take]; omega) (fun x hx => by have := hb x (List.mem_of_mem_take hx); omega)
      · rw [if_neg h22, if_neg h22]
        exact hnext _ _ ho (by omega) (fun x hx => by have := hb x hx; omega)
/-- What goes together, of a whole paragraph. -/
def mat (q : List Int) : List Int := mt q.length q 0 (List.replicate q.length (-1)) []
theorem matches_f (q : List Int) (hq : q.length ≤ 17592186043000) (k : Nat) (hk : q.length + 5 < k) : para_Matches.f k q = some (mat q) := by
  unfold para_Matches.f slices_Repeat_int_int.f mat
  rw [if_pos (show ([-1] : List Int).length = 1 from rfl), if_pos (by omega), if_pos (by omega), Option.bind_some, Int.toNat_natCast]
  exact matches_l0 q hq q k 0 _ [] (by simp) (by simp) hk (by simp) (by simp) (by simp)
theorem mat_len (q : List Int) : (mat q).length = q.length := by unfold mat; rw [mt_len]; simp

/-! ### explicit.Levels: what it comes to -/
abbrev Ex := explicit_Levels.Ex
/-- A place's step, without rounds. -/
theorem go_some (q : List Int) (bs : Int) (hq : q.length ≤ 17592186043000) (k : Nat) (hk : q.length + 5 < k) (Inv : Nat → Ex → Prop)
    (hstep : ∀ (i : Nat) (s : Ex), i < q.length → Inv i s → ∃ s', explicit_Levels.step k q (mat q) bs i s = some s' ∧ Inv (i + 1) s') : ∀ (n : Nat) (s : Ex), n ≤ q.length → Inv (q.length - n) s → ∃ s', explicit_Levels.go k q (mat q) bs n s = some s' ∧ Inv q.length s'
  | 0, s, hn, h => ⟨s, rfl, h⟩
  | n + 1, s, hn, h => by
    obtain ⟨s', h1, h2⟩ := hstep (q.length - (n + 1)) s (by omega) h
    rw [show q.length - (n + 1) + 1 = q.length - n by omega] at h2
    obtain ⟨s2, h3, h4⟩ := go_some q bs hq k hk Inv hstep n s' (by omega) h2
    exact ⟨s2, by rw [explicit_Levels.go, h1]; exact h3, h4⟩
theorem levels_f (q : List Int) (lv : Int) (hq : q.length ≤ 17592186043000) (k : Nat) (hk : q.length + 5 < k) (Inv : Nat → Ex → Prop) (h0 : Inv 0 (explicit_Levels.s0 (mn (mx lv 0) 1)))
    (hstep : ∀ (i : Nat) (s : Ex), i < q.length → Inv i s → ∃ s', explicit_Levels.step k q (mat q) (mn (mx lv 0) 1) i s = some s' ∧ Inv (i + 1) s') : ∃ s, explicit_Levels.f k q lv = some (s.L, s.T) ∧ Inv q.length s := by
  unfold explicit_Levels.f
  rw [matches_f q hq k hk, Option.bind_some, if_pos hq]
  obtain ⟨s, h1, h2⟩ := go_some q (mn (mx lv 0) 1) (by omega) k hk Inv hstep q.length _ (Nat.le_refl _) (by rw [Nat.sub_self]; exact h0)
  exact ⟨s, by rw [h1]; rfl, h2⟩

theorem awake_levels : explicit_Levels.f 20 [17, 0, 18, 0] 0 = some ([0, 1, 1, 0], [9, 1, 9, 0]) := by decide +kernel
theorem awake_up : ∀ j : Nat, explicit_Levels.f (20 + j) [17, 0, 18, 0] 0 = some ([0, 1, 1, 0], [9, 1, 9, 0])
  | 0 => awake_levels
  | j + 1 => explicit_Levels.mono _ _ _ _ (awake_up j)
theorem haw (k : Nat) (hk : 20 ≤ k) : naskhlaw22_awake.f k = some true := by
  obtain ⟨j, rfl⟩ : ∃ j, k = 20 + j := ⟨k - 20, by omega⟩
  unfold naskhlaw22_awake.f
  rw [awake_up j, Option.bind_some]
  dsimp only
  rw [equal_self_int_int [0, 1, 1, 0] (by decide) (20 + j) (by simp only [List.length_cons, List.length_nil]; omega), Option.bind_some, if_pos rfl, equal_self_int_int [9, 1, 9, 0] (by decide) (20 + j) (by simp only [List.length_cons, List.length_nil]; omega), Option.bind_some, if_pos rfl]
  rfl

theorem pop_snoc {l : List Stk.Ent} (h : 0 < l.length) (x : Stk.Ent) : Stk.popE (l ++ [x]) = l := by
  unfold Stk.popE
  rw [if_pos (by simp; omega)]
  simp
/-- An isolate and its end leave all as it was. -/
theorem back_isol {a c : Int} {l : List Stk.Ent} (hG : Stk.Good l) (ha : 0 ≤ a) (ha2 : a ≤ 1000) (hc : 0 ≤ c) (hc2 : c ≤ 1000) (r : Bool) : Stk.eiA (Stk.isoA a 0 l r) = a ∧ Stk.eiB (Stk.isoA a 0 l r) 0 (Stk.isoC a 0 c l r) = 0 ∧ Stk.eiC (Stk.isoA a 0 l r) (Stk.isoC a 0 c l r) = c ∧ Stk.eiL (Stk.isoA a 0 l r) (Stk.isoC a 0 c l r) (Stk.isoL a 0 l r) = l := by
  have wa : wrap64 (a + 1) = a + 1 := w64 (by omega) (by omega)
  have wc : wrap64 (c + 1) = c + 1 := w64 (by omega) (by omega)
  have wa' : wrap64 (a + 1 - 1) = a := (w64 (by omega) (by omega)).trans (by omega)
  have wc' : wrap64 (c + 1 - 1) = c := (w64 (by omega) (by omega)).trans (by omega)
  unfold Stk.isoA Stk.isoC Stk.isoL
  cases hok : Stk.okB a 0 l r with
  | true =>
    have hz : a = 0 := by
      unfold Stk.okB at hok
      simp at hok
      omega
    simp only [if_true, eq_self, wc]
    refine ⟨by unfold Stk.eiA; rw [if_neg (by omega)], by unfold Stk.eiB; rw [if_neg (by omega), if_pos (by omega)], by unfold Stk.eiC; rw [if_neg (by omega), if_pos (by omega), wc'], ?_⟩
    unfold Stk.eiL
    rw [if_neg (by omega), if_pos (by omega)]
    have hd : ∀ n, Stk.dropI (n + 1) (l ++ [⟨Stk.nextL r (Stk.topE l).lv, 13, true⟩]) = l ++ [⟨Stk.nextL r (Stk.topE l).lv, 13, true⟩] := fun n => by rw [Stk.dropI, if_pos (by rw [Stk.topE_snoc])]
    rw [List.length_append, List.length_singleton, hd]
    exact pop_snoc hG.1 _
  | false =>
    simp only [Bool.false_eq_true, if_false, wa]
    exact ⟨by unfold Stk.eiA; rw [if_pos (by omega), wa'], by unfold Stk.eiB; rw [if_pos (by omega)], by unfold Stk.eiC; rw [if_pos (by omega)], by unfold Stk.eiL; rw [if_pos (by omega)]⟩
/-- The stack after so many isolates. -/
def St (q : List Int) : Nat → Int × Int × List Stk.Ent
  | 0 => (0, 0, [Stk.newE 0])
  | i + 1 => (Stk.isoA (St q i).1 0 (St q i).2.2 (q.getD i 0 == 20), Stk.isoC (St q i).1 0 (St q i).2.1 (St q i).2.2 (q.getD i 0 == 20), Stk.isoL (St q i).1 0 (St q i).2.2 (q.getD i 0 == 20))
theorem St_ok (q : List Int) : ∀ i : Nat, i ≤ 600 → 0 ≤ (St q i).1 ∧ (St q i).1 ≤ i ∧ 0 ≤ (St q i).2.1 ∧ (St q i).2.1 ≤ i ∧ Stk.Good (St q i).2.2
  | 0, _ => ⟨Int.le_refl _, Int.le_refl _, Int.le_refl _, Int.le_refl _, Stk.Good.new _⟩
  | i + 1, hi => by
    obtain ⟨h1, h2, h3, h4, h5⟩ := St_ok q i (by omega)
    rw [St]
    dsimp only
    generalize (St q i).1 = a at *
    generalize (St q i).2.1 = c at *
    generalize (St q i).2.2 = l at *
    have wa : wrap64 (a + 1) = a + 1 := w64 (by omega) (by omega)
    have wc : wrap64 (c + 1) = c + 1 := w64 (by omega) (by omega)
    refine ⟨?_, ?_, ?_, ?_, (Stk.Went.isol h5 _).1⟩
    · unfold Stk.isoA; split <;> omega
    · unfold Stk.isoA; split <;> omega
    · unfold Stk.isoC; split <;> omega
    · unfold Stk.isoC; split <;> omega
/-- The level of a place. -/
def lvl (q : List Int) (many j : Nat) : Int := if j < many then (Stk.topE (St q j).2.2).lv else if j < 2 * many then (Stk.topE (St q (2 * many - 1 - j)).2.2).lv else (Stk.topE (St q 0).2.2).lv
def Deep (q : List Int) (many i : Nat) (s : Ex) : Prop := s.b = 0 ∧ (s.a, s.c, s.l) = St q (if i ≤ many then i else 2 * many - i) ∧ s.L = (List.range i).map (lvl q many) ∧ s.T.length = i
theorem deep_step (q : List Int) (many : Nat) (hm : many ≤ 255) (hq : q.length = 2 * many + 1) (h1 : ∀ j, j < many → q.getD j 0 = 19 ∨ q.getD j 0 = 20) (h2 : ∀ j, many ≤ j → j < 2 * many → q.getD j 0 = 22) (h3 : q.getD (2 * many) 0 = 0) (k : Nat) (i : Nat) (s : Ex) (hi : i < q.length) (h : Deep q many i s) : ∃ s', explicit_Levels.step k q (mat q) 0 i s = some s' ∧ Deep q many (i + 1) s' := by
  obtain ⟨hb, hS, hL, hT⟩ := h
  obtain ⟨a, b, c, l, L, T⟩ := s
  dsimp only at hb hS hL hT
  subst hb
  rcases Nat.lt_or_ge i many with hlt | hge
  · rw [if_pos (by omega)] at hS
    have e1 : (St q i).1 = a := by rw [← hS]
    have e2 : (St q i).2.1 = c := by rw [← hS]
    have e3 : (St q i).2.2 = l := by rw [← hS]
    have hlv : lvl q many i = (Stk.topE l).lv := by unfold lvl; rw [if_pos hlt, e3]
    have hsn : St q (i + 1) = (Stk.isoA a 0 l (q.getD i 0 == 20), Stk.isoC a 0 c l (q.getD i 0 == 20), Stk.isoL a 0 l (q.getD i 0 == 20)) := by rw [St, e1, e2, e3]
    rcases h1 i hlt with hc | hc
    · rw [hc] at hsn
      refine ⟨⟨Stk.isoA a 0 l false, 0, Stk.isoC a 0 c l false, Stk.isoL a 0 l false, L ++ [(Stk.topE l).lv], T ++ [Stk.over (Stk.topE l).ov 19]⟩, ?_, rfl, ?_, ?_, ?_⟩
      · unfold explicit_Levels.step
        rw [hc]
        simp only [reduceCtorEq, if_pos, if_true, show ((19 : Int) = 16) = False by decide, show ((19 : Int) = 14) = False by decide, show ((19 : Int) = 17) = False by decide, show ((19 : Int) = 15) = False by decide, show ((19 : Int) = 20) = False by decide, if_false]
      · rw [if_pos (by omega), hsn]; rfl
      · rw [List.range_succ, List.map_append, ← hL, List.map_singleton, hlv]
      · simp [hT]
    · rw [hc] at hsn
      refine ⟨⟨Stk.isoA a 0 l true, 0, Stk.isoC a 0 c l true, Stk.isoL a 0 l true, L ++ [(Stk.topE l).lv], T ++ [Stk.over (Stk.topE l).ov 20]⟩, ?_, rfl, ?_, ?_, ?_⟩
      · unfold explicit_Levels.step
        rw [hc]
        simp only [reduceCtorEq, if_pos, if_true, show ((20 : Int) = 16) = False by decide, show ((20 : Int) = 14) = False by decide, show ((20 : Int) = 17) = False by decide, show ((20 : Int) = 15) = False by decide, if_false]
      · rw [if_pos (by omega), hsn]; rfl
      · rw [List.range_succ, List.map_append, ← hL, List.map_singleton, hlv]
      · simp [hT]
  · rcases Nat.lt_or_ge i (2 * many) with hlt | hge2
    · have hc := h2 i hge hlt
      have hS' : (a, c, l) = St q (2 * many - 1 - i + 1) := by
        rw [hS]
        congr 1
        split <;> omega
      obtain ⟨g1, g2, g3, g4, g5⟩ := St_ok q (2 * many - 1 - i) (by omega)
      have hbk := back_isol g5 g1 (by omega) g3 (by omega) (q.getD (2 * many - 1 - i) 0 == 20)
      rw [St] at hS'
      have e1 : a = _ := congrArg (·.1) hS'
      have e2 : c = _ := congrArg (·.2.1) hS'
      have e3 : l = _ := congrArg (·.2.2) hS'
      dsimp only at e1 e2 e3
      rw [← e1, ← e2, ← e3] at hbk
      obtain ⟨b1, b2, b3, b4⟩ := hbk
      have hlv : lvl q many i = (Stk.topE (St q (2 * many - 1 - i)).2.2).lv := by unfold lvl; rw [if_neg (by omega), if_pos hlt]
      refine ⟨⟨Stk.eiA a, Stk.eiB a 0 c, Stk.eiC a c, Stk.eiL a c l, L ++ [(Stk.topE (Stk.eiL a c l)).lv], T ++ [Stk.over (Stk.topE (Stk.eiL a c l)).ov 22]⟩, ?_, b2, ?_, ?_, ?_⟩
      · unfold explicit_Levels.step
        rw [hc]
        simp only [reduceCtorEq, if_pos, if_true, show ((22 : Int) = 16) = False by decide, show ((22 : Int) = 14) = False by decide, show ((22 : Int) = 17) = False by decide, show ((22 : Int) = 15) = False by decide, show ((22 : Int) = 20) = False by decide, show ((22 : Int) = 19) = False by decide, show ((22 : Int) = 21) = False by decide, if_false]
      · dsimp only
        rw [b1, b3, b4]
        rw [show (if i + 1 ≤ many then i + 1 else 2 * many - (i + 1)) = 2 * many - 1 - i by split <;> omega]
      · dsimp only
        rw [List.range_succ, List.map_append, ← hL, List.map_singleton, hlv, b4]
      · simp [hT]
    · obtain rfl : i = 2 * many := by omega
      have hS' : (a, c, l) = St q 0 := by
        rw [hS]
        congr 1
        split <;> omega
      have e3 : l = (St q 0).2.2 := congrArg (·.2.2) hS'
      have hlv : lvl q many (2 * many) = (Stk.topE l).lv := by unfold lvl; rw [if_neg (by omega), if_neg (by omega), e3]
      refine ⟨⟨a, 0, c, l, L ++ [(Stk.topE l).lv], T ++ [Stk.over (Stk.topE l).ov 0]⟩, ?_, rfl, ?_, ?_, ?_⟩
      · unfold explicit_Levels.step
        rw [h3]
        rfl
      · rw [show (if 2 * many + 1 ≤ many then 2 * many + 1 else 2 * many - (2 * many + 1)) = 0 by split <;> omega]
        exact hS'
      · dsimp only
        rw [List.range_succ, List.map_append, ← hL, List.map_singleton, hlv]
      · simp [hT]
theorem levels_deep (q : List Int) (many : Nat) (hm : many ≤ 255) (hq : q.length = 2 * many + 1) (h1 : ∀ j, j < many → q.getD j 0 = 19 ∨ q.getD j 0 = 20) (h2 : ∀ j, many ≤ j → j < 2 * many → q.getD j 0 = 22) (h3 : q.getD (2 * many) 0 = 0) (k : Nat) (hk : q.length + 5 < k) : ∃ T, explicit_Levels.f k q 0 = some ((List.range (2 * many + 1)).map (lvl q many), T) := by
  have hz : mn (mx 0 0) 1 = 0 := by decide
  obtain ⟨s, e, h⟩ := levels_f q 0 (by omega) k hk (Deep q many) ⟨rfl, by rw [if_pos (by omega), hz]; rfl, rfl, rfl⟩ (fun i s hi h => by rw [hz]; exact deep_step q many hm hq h1 h2 h3 k i s hi h)
  refine ⟨s.T, ?_⟩
  rw [e, h.2.2.1, hq]
theorem deep_l0 (ks : List Bool) (many : Nat) (hm : many ≤ 255) : ∀ (d k i : Nat) (P : List Int), i + d = many → P.length = i → (∀ j, j < i → P.getD j 0 = 19 ∨ P.getD j 0 = 20) → ∃ P' : List Int, P'.length = many ∧ (∀ j, j < many → P'.getD j 0 = 19 ∨ P'.getD j 0 = 20) ∧ naskhlaw22_ExplicitDeep.l0 (k + d + 1) ks P (many : Int) (many : Int) (i : Int) = naskhlaw22_ExplicitDeep.l1 k P' (many : Int) (many : Int) 0 := by
  intro d
  induction d with
  | zero =>
    intro k i P hi hP hj
    refine ⟨P, by omega, fun j h => hj j (by omega), ?_⟩
    rw [naskhlaw22_ExplicitDeep.l0, if_neg (by omega)]
  | succ d ih =>
    intro k i P hi hP hj
    have hnext : ∀ x : Int, x = 19 ∨ x = 20 → ∃ P' : List Int, P'.length = many ∧ (∀ j, j < many → P'.getD j 0 = 19 ∨ P'.getD j 0 = 20) ∧ naskhlaw22_ExplicitDeep.l0 (k + d + 1) ks (P ++ [x]) (many : Int) (many : Int) ((i + 1 : Nat) : Int) = naskhlaw22_ExplicitDeep.l1 k P' (many : Int) (many : Int) 0 := fun x hx => ih k (i + 1) (P ++ [x]) (by omega) (by simp [hP]) (fun j h => by
      rcases Nat.lt_or_ge j i with h1 | h1
      · rw [List.getD_eq_getElem?_getD, List.getElem?_append_left (by omega), ← List.getD_eq_getElem?_getD]
        exact hj j h1
      · obtain rfl : j = P.length := by omega
        simpa using hx)
    have w1 : wrap64 ((i : Int) + 1) = ((i + 1 : Nat) : Int) := up1 (by omega) (by omega)
    have hPl : P.length < 17592186044416 := by omega
    have hin : (i : Int) < (many : Int) := by omega
    have hun : ∃ x : Int, (x = 19 ∨ x = 20) ∧ naskhlaw22_ExplicitDeep.l0 (k + (d + 1) + 1) ks P (many : Int) (many : Int) (i : Int) = naskhlaw22_ExplicitDeep.l0 (k + d + 1) ks (P ++ [x]) (many : Int) (many : Int) ((i + 1 : Nat) : Int) := by
      rw [show k + (d + 1) + 1 = (k + d + 1) + 1 by omega, naskhlaw22_ExplicitDeep.l0, if_pos hin, w1]
      by_cases hk : (ks.length : Int) > 0
      · have m0 : 0 ≤ Int.tmod (i : Int) (ks.length : Int) := Int.tmod_nonneg _ (by omega)
        have m1 : Int.tmod (i : Int) (ks.length : Int) < (ks.length : Int) := Int.tmod_lt_of_pos _ hk
        rw [if_pos hk, if_neg (by omega), if_pos m0, if_pos m1, if_pos hPl, if_pos hPl]
        by_cases hr : rdOf false ks (Int.tmod (i : Int) (ks.length : Int)) = true
        · rw [if_pos hr]; exact ⟨20, .inr rfl, rfl⟩
        · rw [if_neg hr]; exact ⟨19, .inl rfl, rfl⟩
      · rw [if_neg hk, if_pos hPl]; exact ⟨19, .inl rfl, rfl⟩
    obtain ⟨x, hx, e⟩ := hun
    obtain ⟨P', e1, e2, e3⟩ := hnext x hx
    exact ⟨P', e1, e2, e.trans e3⟩
theorem deep_l1 (many : Nat) (hm : many ≤ 255) (P : List Int) (hP : P.length = many) : ∀ (d k i : Nat), i + d = many → naskhlaw22_ExplicitDeep.l1 (k + d + 1) (P ++ List.replicate i 22) (many : Int) (many : Int) (i : Int) = naskhlaw22_ExplicitDeep.l1 (k + 1) (P ++ List.replicate many 22) (many : Int) (many : Int) (many : Int) := by
  intro d
  induction d with
  | zero =>
    intro k i hi
    obtain rfl : i = many := by omega
    rfl
  | succ d ih =>
    intro k i hi
    have w1 : wrap64 ((i : Int) + 1) = ((i + 1 : Nat) : Int) := up1 (by omega) (by omega)
    have hPl : (P ++ List.replicate i (22 : Int)).length < 17592186044416 := by simp; omega
    rw [show k + (d + 1) + 1 = (k + d + 1) + 1 by omega, naskhlaw22_ExplicitDeep.l1, if_pos (by omega), if_pos hPl, w1, List.append_assoc, ← List.replicate_succ']
    exact ih k (i + 1) (by omega)
theorem deep_l2 (many : Nat) (hm : many ≤ 255) (L : List Int) (hL : L.length = 2 * many + 1) (hs : ∀ i, i < many → L.getD i 0 = L.getD (2 * many - 1 - i) 0) : ∀ (d k i : Nat), i + d = many → 25 + d < k → naskhlaw22_ExplicitDeep.l2 k (many : Int) L (many : Int) (i : Int) = some true := by
  intro d
  induction d with
  | zero =>
    intro k i hi hk
    obtain ⟨k, rfl⟩ : ∃ m, k = m + 1 := ⟨k - 1, by omega⟩
    rw [naskhlaw22_ExplicitDeep.l2, if_neg (by omega), haw k (by omega)]
    rfl
  | succ d ih =>
    intro k i hi hk
    obtain ⟨k, rfl⟩ : ∃ m, k = m + 1 := ⟨k - 1, by omega⟩
    have w1 : wrap64 ((i : Int) + 1) = ((i + 1 : Nat) : Int) := up1 (by omega) (by omega)
    have w2 : wrap64 (2 * (many : Int)) = 2 * (many : Int) := w64 (by omega) (by omega)
    have w3 : wrap64 (2 * (many : Int) - 1) = 2 * (many : Int) - 1 := w64 (by omega) (by omega)
    have w4 : wrap64 (2 * (many : Int) - 1 - (i : Int)) = ((2 * many - 1 - i : Nat) : Int) := (w64 (by omega) (by omega)).trans (by omega)
    have hb : 2 * many - 1 - i < L.length := by omega
    have hn := ih k (i + 1) (by omega) (by omega)
    have hr : rd L (i : Int) = rd L ((2 * many - 1 - i : Nat) : Int) := by
      have := hs i (by omega)
      unfold rd
      rw [Int.toNat_natCast, Int.toNat_natCast]
      exact this
    rw [naskhlaw22_ExplicitDeep.l2, w2, w3, w4, if_pos (by omega), if_pos (by omega), if_pos (by omega), if_pos (by omega), if_pos (by omega), if_pos hr, w1]
    exact hn
theorem ExplicitDeep_ok : naskhlaw22_ExplicitDeep.Pure := by
  intro n ks hn hks
  have hn2 : 0 ≤ n ∧ n ≤ 255 := by simpa [Lit.wf, IntKind.min, IntKind.max, IntKind.signed, IntKind.bits] using hn
  obtain ⟨many, rfl⟩ : ∃ m : Nat, n = (m : Int) := ⟨n.toNat, by omega⟩
  have hm : many ≤ 255 := by omega
  refine ⟨(1998 + 1 + many + 1) + many + 1, ?_⟩
  unfold naskhlaw22_ExplicitDeep.f
  rw [w64 (by omega) (by omega)]
  obtain ⟨P, hP, hPc, e⟩ := deep_l0 ks many hm many (1998 + 1 + many + 1) 0 [] (by omega) rfl (fun j h => absurd h (Nat.not_lt_zero _))
  rw [show (((0 : Nat) : Int)) = 0 from rfl] at e
  rw [e]
  have e1 := deep_l1 many hm P hP many (1998 + 1) 0 (by omega)
  rw [List.replicate_zero, List.append_nil, show (((0 : Nat) : Int)) = 0 from rfl] at e1
  rw [e1]
  clear e e1
  generalize hQ : P ++ List.replicate many (22 : Int) = Q
  have hQl : Q.length = 2 * many := by rw [← hQ]; simp; omega
  have hql : (Q ++ [(0 : Int)]).length = 2 * many + 1 := by simp [hQl]
  have hQ0 : ∀ j, j < 2 * many → (Q ++ [(0 : Int)]).getD j 0 = Q.getD j 0 := fun j hj => by
    rw [List.getD_eq_getElem?_getD, List.getElem?_append_left (by omega), ← List.getD_eq_getElem?_getD]
  have c1 : ∀ j, j < many → (Q ++ [(0 : Int)]).getD j 0 = 19 ∨ (Q ++ [(0 : Int)]).getD j 0 = 20 := fun j hj => by
    rw [hQ0 j (by omega), ← hQ, List.getD_eq_getElem?_getD, List.getElem?_append_left (by omega), ← List.getD_eq_getElem?_getD]
    exact hPc j hj
  have c2 : ∀ j, many ≤ j → j < 2 * many → (Q ++ [(0 : Int)]).getD j 0 = 22 := fun j h1 h2 => by
    rw [hQ0 j h2, ← hQ, List.getD_eq_getElem?_getD, List.getElem?_append_right (by omega), List.getElem?_replicate, if_pos (by omega)]
    rfl
  have c3 : (Q ++ [(0 : Int)]).getD (2 * many) 0 = 0 := by
    rw [List.getD_eq_getElem?_getD, List.getElem?_append_right (by omega), hQl, Nat.sub_self]
    rfl
  obtain ⟨T, hT⟩ := levels_deep (Q ++ [0]) many hm hql c1 c2 c3 1999 (by omega)
  rw [show 1998 + 1 + 1 = 1999 + 1 from rfl, naskhlaw22_ExplicitDeep.l1, if_neg (by omega), if_pos (by omega), Option.bind_some, hT, Option.bind_some]
  dsimp only
  generalize hLL : (List.range (2 * many + 1)).map (lvl (Q ++ [0]) many) = L
  have hLl : L.length = 2 * many + 1 := by rw [← hLL]; simp
  have hLg : ∀ j, j < 2 * many + 1 → L.getD j 0 = lvl (Q ++ [0]) many j := fun j hj => by
    rw [← hLL, List.getD_eq_getElem?_getD, List.getElem?_map, List.getElem?_range hj]
    rfl
  have w2 : wrap64 (((Q ++ [(0 : Int)]).length : Int) - 1) = ((2 * many : Nat) : Int) := (w64 (by omega) (by omega)).trans (by omega)
  have hr : rd L ((2 * many : Nat) : Int) = 0 := by
    unfold rd
    rw [Int.toNat_natCast, hLg _ (by omega)]
    unfold lvl
    rw [if_neg (by omega), if_neg (by omega)]
    show (Stk.topE [Stk.newE 0]).lv = 0
    decide
  rw [w2, hr, if_pos (by omega), if_pos (by omega), if_pos (by omega), naskhlaw22_ExplicitDeep.j2, if_neg (by decide)]
  refine deep_l2 many hm L hLl (fun i hi => ?_) many 1998 0 (by omega) (by omega)
  rw [hLg i (by omega), hLg _ (by omega)]
  unfold lvl
  rw [if_pos hi, if_neg (by omega), if_pos (by omega), show 2 * many - 1 - (2 * many - 1 - i) = i by omega]
end Go.Proofs.Ytbkdaafphcfpdaa.PureExplicitDeepAux
namespace Go.Proofs.Ytbkdaafphcfpdaa.Pure
open Go.Proofs.Ytbkdaafphcfpdaa.PExplicitDeep
theorem ExplicitDeep : naskhlaw22_ExplicitDeep.Pure := PureExplicitDeepAux.ExplicitDeep_ok
end Go.Proofs.Ytbkdaafphcfpdaa.Pure
