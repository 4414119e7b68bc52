/- Without what embeds, overrides or isolates all have the paragraph's level, and their classes. No condition. -/
import Derived.Test.YtbkdaafphcfpdaaPExplicitPlainx
namespace Go.Proofs.Ytbkdaafphcfpdaa.PureExplicitPlainAux
open Go.RowKit Go.Proofs.Ytbkdaafphcfpdaa.PExplicitPlain Go.Proofs.YtbkdaafphcfpdaaW.PrintWords Go.Proofs.YtbkdaafphcfpdaaW.PrintLast

set_option linter.unusedSimpArgs false
set_option linter.unusedVariables false
theorem w64 {x : Int} (h0 : -9223372036854775808 ≤ x) (h1 : x ≤ 9223372036854775807) : wrap64 x = x := by unfold wrap64; omega
theorem rd_at (pre : List Int) (x : Int) (rest : List Int) : rd (pre ++ x :: rest) (pre.length : Int) = x := by simp [rd]
theorem rd_nat (l : List Int) (i : Nat) (h : i < l.length) : rd l (i : Int) = l[i] := by simp [rd, h]
theorem wf64 {x : Int} (h : (Lit.int .i64 x).wf = true) : -9223372036854775808 ≤ x ∧ x ≤ 9223372036854775807 := by
  simpa [Lit.wf, IntKind.min, IntKind.max, IntKind.signed, IntKind.bits] using h
theorem bsome {P : Prop} [Decidable P] {b : Bool} (h : b = true ↔ P) : some b = some (decide P) := by
  congr 1; rw [Bool.eq_iff_iff]; simpa using h
theorem u16w {x : Int} (h0 : 0 ≤ x) (h1 : x ≤ 65535) : IntKind.u16.wrap x = x := by
  simp [IntKind.wrap, IntKind.min, IntKind.max, IntKind.signed, IntKind.bits]; omega

theorem eq_loop_int_int (a b : List Int) (hl : a.length = b.length) (hm : a.length ≤ 9223372036854775806) : ∀ d k i : Nat, i + d = a.length → d < k →
    slices_Equal_int_int.l0 k a b a.length i = some (decide (a.drop i = b.drop i)) := by
  intro d
  induction d with
  | zero =>
    intro k i hi hk
    obtain ⟨k, rfl⟩ : ∃ m, k = m + 1 := ⟨k - 1, by omega⟩
    simp only [slices_Equal_int_int.l0]
    rw [if_neg (by omega), List.drop_eq_nil_of_le (by omega), List.drop_eq_nil_of_le (by omega)]
    simp
  | succ d ih =>
    intro k i hi hk
    obtain ⟨k, rfl⟩ : ∃ m, k = m + 1 := ⟨k - 1, by omega⟩
    simp only [slices_Equal_int_int.l0]
    rw [if_pos (by omega), if_pos (by omega), if_pos (by omega), if_pos (by omega), rd_nat a i (by omega), rd_nat b i (by omega),
      List.drop_eq_getElem_cons (by omega : i < a.length), List.drop_eq_getElem_cons (by omega : i < b.length)]
    by_cases h : a[i]'(by omega) = b[i]'(by omega)
    · rw [if_pos h, w64 (by omega) (by omega)]
      have := ih k (i + 1) (by omega) (by omega)
      rw [Int.natCast_add] at this
      rw [show ((1 : Nat) : Int) = 1 from rfl] at this
      rw [this]
      congr 1
      rw [decide_eq_decide, List.cons.injEq]
      simp only [h, true_and]
    · rw [if_neg h]
      congr 1
      symm
      rw [decide_eq_false_iff_not, List.cons.injEq]
      exact fun e => h e.1
theorem equal_f_int_int (a b : List Int) (hm : a.length ≤ 9223372036854775806) (k : Nat) (hk : a.length < k) : slices_Equal_int_int.f k a b = some (decide (a = b)) := by
  unfold slices_Equal_int_int.f
  by_cases hl : a.length = b.length
  · rw [if_pos (by omega), show (0 : Int) = ((0 : Nat) : Int) from rfl, eq_loop_int_int a b hl hm a.length k 0 (by omega) hk]
    simp
  · rw [if_neg (by omega)]
    have : a ≠ b := fun e => hl (by rw [e])
    simp [this]
theorem equal_self_int_int (a : List Int) (hm : a.length ≤ 9223372036854775806) (k : Nat) (hk : a.length < k) : slices_Equal_int_int.f k a a = some true := by
  rw [equal_f_int_int a a hm k hk]; simp

/-! ### The classes: what opens, which side -/
def opn (c : Int) : Prop := c = 19 ∨ c = 20 ∨ c = 21
instance (c : Int) : Decidable (opn c) := by unfold opn; infer_instance
theorem opens_f (c : Int) (k : Nat) (hk : 4 ≤ k) : para_opens.f k c = some (decide (opn c)) := by
  obtain ⟨k, rfl⟩ : ∃ m, k = m + 4 := ⟨k - 4, by omega⟩
  have a1 : wrap64 (0 + 1) = 1 := w64 (by omega) (by omega)
  have a2 : wrap64 (1 + 1) = 2 := w64 (by omega) (by omega)
  have a3 : wrap64 (2 + 1) = 3 := w64 (by omega) (by omega)
  unfold para_opens.f slices_Contains_int_int.f slices_Index_int_int.f
  have e : slices_Index_int_int.l0 (k + 4) [19, 20, 21] c (([19, 20, 21] : List Int).length : Int) 0 = some (if c = 19 then 0 else if c = 20 then 1 else if c = 21 then 2 else -1) := by
    simp only [slices_Index_int_int.l0, List.length_cons, List.length_nil]
    rw [if_pos (by omega), if_pos (by omega), if_pos (by omega), show rd [19, 20, 21] 0 = 19 from rfl]
    by_cases h1 : c = 19
    · rw [if_pos h1, if_pos h1]
    · rw [if_neg h1, if_neg h1, a1, if_pos (by omega), if_pos (by omega), if_pos (by omega), show rd [19, 20, 21] 1 = 20 from rfl]
      by_cases h2 : c = 20
      · rw [if_pos h2, if_pos h2]
      · rw [if_neg h2, if_neg h2, a2, if_pos (by omega), if_pos (by omega), if_pos (by omega), show rd [19, 20, 21] 2 = 21 from rfl]
        by_cases h3 : c = 21
        · rw [if_pos h3, if_pos h3]
        · rw [if_neg h3, if_neg h3, a3, if_neg (by omega)]
  rw [e]
  simp only [Option.bind_some]
  congr 1
  rw [decide_eq_decide]
  unfold opn
  repeat' split
  all_goals omega
/-- Which side a class is of. -/
def sid (c : Int) : Int × Bool := if c = 0 then (0, true) else if c = 1 then (1, true) else if c = 2 then (1, true) else (0, false)
theorem side_f (c : Int) : para_side.f c = some (sid c) := by
  unfold para_side.f sid
  repeat' split
  all_goals rfl
/-- The first strong class outside of what is isolated. -/
def fsl : List Int → Int → Int
  | [], _ => -1
  | c :: r, d => if opn c then fsl r (d + 1) else if c = 22 then (if (sid c).2 = true ∧ mx (d - 1) 0 = 0 then (sid c).1 else fsl r (mx (d - 1) 0)) else (if (sid c).2 = true ∧ d = 0 then (sid c).1 else fsl r d)
theorem up1 {d : Int} (h0 : 0 ≤ d) (h1 : d ≤ 17592186043000) : wrap64 (d + 1) = d + 1 := w64 (by omega) (by omega)
theorem dn1 {d : Int} (h0 : 0 ≤ d) (h1 : d ≤ 17592186043000) : wrap64 (d - 1) = d - 1 := w64 (by omega) (by omega)
theorem mx_bd {d b : Int} (h0 : 0 ≤ d) (h1 : d ≤ b) : 0 ≤ mx (d - 1) 0 ∧ mx (d - 1) 0 ≤ b := by unfold mx; split <;> omega
theorem first_l0 (q : List Int) (hi : Nat) (hh : hi ≤ q.length) (hq : q.length ≤ 17592186043000) : ∀ (n k i : Nat) (d : Int), hi - i = n → n + 5 < k → 0 ≤ d → d ≤ (i : Int) →
    para_First.l0 k q (hi : Int) d (i : Int) = some (fsl ((q.take hi).drop i) d) := by
  intro n
  induction n with
  | zero =>
    intro k i d hn hk h0 h1
    obtain ⟨k, rfl⟩ : ∃ m, k = m + 1 := ⟨k - 1, by omega⟩
    rw [para_First.l0, if_neg (by omega), List.drop_eq_nil_of_le (by rw [List.length_take]; omega)]
    rfl
  | succ n ih =>
    intro k i d hn hk h0 h1
    obtain ⟨k, rfl⟩ : ∃ m, k = m + 1 := ⟨k - 1, by omega⟩
    have hlen : i < (q.take hi).length := by rw [List.length_take]; omega
    have hil : i < q.length := by omega
    have hcons : (q.take hi).drop i = q[i] :: (q.take hi).drop (i + 1) := by rw [List.drop_eq_getElem_cons hlen, List.getElem_take]
    have hdi : d ≤ 17592186043000 := by omega
    have hdi2 : (i : Int) ≤ 17592186043000 := by omega
    have hdi3 : d ≤ ((i + 1 : Nat) : Int) := by omega
    have hdi4 : d + 1 ≤ ((i + 1 : Nat) : Int) := by omega
    have hdi5 : 0 ≤ d + 1 := by omega
    have g1 : (i : Int) < (hi : Int) := by omega
    have g2 : (0 : Int) ≤ (i : Int) := by omega
    have g3 : (i : Int) < (q.length : Int) := by omega
    have gk : 4 ≤ k := by omega
    have gd : ¬ d + 1 = 0 := by omega
    have hmx := mx_bd (b := ((i + 1 : Nat) : Int)) h0 hdi3
    have hnext := fun d' h1 h2 => ih k (i + 1) d' (by omega) (by omega) h1 h2
    have w1 : wrap64 ((i : Int) + 1) = ((i + 1 : Nat) : Int) := (up1 g2 hdi2).trans (by omega)
    have w2 := up1 h0 hdi
    have w3 := dn1 h0 hdi
    have hr : rd q (i : Int) = q[i] := rd_nat q i hil
    rw [hcons]
    generalize (q.take hi).drop (i + 1) = rest at hnext ⊢
    generalize q[i] = c at hr ⊢
    have hun : para_First.l0 (k + 1) q (hi : Int) d (i : Int) = if opn c then (if (sid c).2 = true then (if d + 1 = 0 then some (sid c).1 else para_First.l0 k q (hi : Int) (d + 1) ((i + 1 : Nat) : Int)) else para_First.l0 k q (hi : Int) (d + 1) ((i + 1 : Nat) : Int)) else if c = 22 then (if (sid c).2 = true then (if mx (d - 1) 0 = 0 then some (sid c).1 else para_First.l0 k q (hi : Int) (mx (d - 1) 0) ((i + 1 : Nat) : Int)) else para_First.l0 k q (hi : Int) (mx (d - 1) 0) ((i + 1 : Nat) : Int)) else (if (sid c).2 = true then (if d = 0 then some (sid c).1 else para_First.l0 k q (hi : Int) d ((i + 1 : Nat) : Int)) else para_First.l0 k q (hi : Int) d ((i + 1 : Nat) : Int)) := by
      rw [para_First.l0, if_pos g1, if_pos g2, if_pos g3, hr, opens_f c k gk, Option.bind_some, side_f, Option.bind_some, w1, w2, w3]
      simp only [decide_eq_true_eq, Option.bind_some]
    rw [hun]
    have hfs : fsl (c :: rest) d = if opn c then fsl rest (d + 1) else if c = 22 then (if (sid c).2 = true ∧ mx (d - 1) 0 = 0 then (sid c).1 else fsl rest (mx (d - 1) 0)) else (if (sid c).2 = true ∧ d = 0 then (sid c).1 else fsl rest d) := rfl
    rw [hfs]
    clear hun hfs
    by_cases ho : opn c
    · have hs : (sid c).2 = false := by
        unfold opn at ho
        unfold sid
        rw [if_neg (by omega), if_neg (by omega), if_neg (by omega)]
      rw [if_pos ho, hs, if_neg (by simp), if_pos ho]
      exact hnext (d + 1) hdi5 hdi4
    · rw [if_neg ho, if_neg ho]
      by_cases h22 : c = 22
      · rw [if_pos h22, if_pos h22]
        by_cases hs : (sid c).2 = true
        · rw [if_pos hs]
          by_cases hz : mx (d - 1) 0 = 0
          · rw [if_pos hz, if_pos ⟨hs, hz⟩]
          · rw [if_neg hz, if_neg (fun h => hz h.2)]
            exact hnext _ hmx.1 hmx.2
        · rw [if_neg hs, if_neg (fun h => hs h.1)]
          exact hnext _ hmx.1 hmx.2
      · rw [if_neg h22, if_neg h22]
        by_cases hs : (sid c).2 = true
        · rw [if_pos hs]
          by_cases hz : d = 0
          · rw [if_pos hz, if_pos ⟨hs, hz⟩]
          · rw [if_neg hz, if_neg (fun h => hz h.2)]
            exact hnext d h0 hdi3
        · rw [if_neg hs, if_neg (fun h => hs h.1)]
          exact hnext d h0 hdi3
theorem first_f (q : List Int) (a b : Int) (hq : q.length ≤ 17592186043000) (k : Nat) (hk : q.length + 5 < k) : para_First.f k q a b = some (fsl ((q.take (mn b (q.length : Int)).toNat).drop (mx a 0).toNat) 0) := by
  unfold para_First.f
  have hl : 0 ≤ mx a 0 := by unfold mx; split <;> omega
  have hh : mn b (q.length : Int) ≤ (q.length : Int) := by unfold mn; split <;> omega
  obtain ⟨lo, elo⟩ : ∃ lo : Nat, mx a 0 = (lo : Int) := ⟨(mx a 0).toNat, by omega⟩
  rw [elo]
  by_cases hlt : (lo : Int) < mn b (q.length : Int)
  · obtain ⟨hi, ehi⟩ : ∃ hi : Nat, mn b (q.length : Int) = (hi : Int) := ⟨(mn b (q.length : Int)).toNat, by omega⟩
    rw [ehi] at hh ⊢
    rw [Int.toNat_natCast, Int.toNat_natCast]
    exact first_l0 q hi (by omega) hq (hi - lo) k lo 0 rfl (by omega) (by omega) (by omega)
  · obtain ⟨k, rfl⟩ : ∃ m, k = m + 1 := ⟨k - 1, by omega⟩
    rw [para_First.l0, if_neg hlt, Int.toNat_natCast, List.drop_eq_nil_of_le (by rw [List.length_take]; omega)]
    rfl
/-- Which places go together: the places that are open are kept in a list. -/
def mt (n : Nat) : List Int → Nat → List Int → List Int → List Int
  | [], _, out, _ => out
  | c :: r, i, out, op => if opn c then mt n r (i + 1) (out.set i (n : Int)) (op ++ [(i : Int)])
      else if c = 22 then (if op.length = 0 then mt n r (i + 1) out op else mt n r (i + 1) ((out.set (op.getD (op.length - 1) 0).toNat (i : Int)).set i (op.getD (op.length - 1) 0)) (op.take (op.length - 1)))
      else mt n r (i + 1) out op
theorem mt_len (n : Nat) : ∀ (r : List Int) (i : Nat) (out op : List Int), (mt n r i out op).length = out.length
  | [], _, _, _ => rfl
  | c :: r, i, out, op => by
    unfold mt
    repeat' split
    all_goals rw [mt_len n r]
    all_goals simp
theorem matches_l0 (q : List Int) (hq : q.length ≤ 17592186043000) : ∀ (r : List Int) (k i : Nat) (out op : List Int), q.drop i = r → i + r.length = q.length → r.length + 5 < k → out.length = q.length → op.length ≤ i → (∀ x ∈ op, 0 ≤ x ∧ x < (i : Int)) →
    para_Matches.l0 k q out op q (q.length : Int) (i : Int) = some (mt q.length r i out op)
  | [], k, i, out, op, hr, hi, hk, ho, hop, hb => by
    obtain ⟨k, rfl⟩ : ∃ m, k = m + 1 := ⟨k - 1, by omega⟩
    rw [List.length_nil] at hi
    rw [para_Matches.l0, if_neg (by omega)]
    rfl
  | c :: r, k, i, out, op, hr, hi, hk, ho, hop, hb => by
    obtain ⟨k, rfl⟩ : ∃ m, k = m + 1 := ⟨k - 1, by omega⟩
    rw [List.length_cons] at hi hk
    have hil : i < q.length := by omega
    have hd := List.drop_eq_getElem_cons hil
    rw [hr] at hd
    obtain ⟨hc, hr2⟩ := List.cons.inj hd
    have hrd : rd q (i : Int) = c := by rw [rd_nat q i hil]; exact hc.symm
    have w1 : wrap64 ((i : Int) + 1) = ((i + 1 : Nat) : Int) := by rw [w64 (by omega) (by omega)]; omega
    have hnext := fun out' op' h1 h2 h3 => matches_l0 q hq r k (i + 1) out' op' hr2.symm (by omega) (by omega) h1 h2 h3
    rw [para_Matches.l0, if_pos (by omega), if_pos (by omega), if_pos (by omega), hrd, opens_f c k (by omega), Option.bind_some, w1, mt]
    by_cases hopn : opn c
    · rw [if_pos (by simpa using hopn), if_pos hopn, if_pos (by omega), if_pos (by omega), Int.toNat_natCast]
      refine hnext _ _ (by simp [ho]) (by simp; omega) (fun x hx => ?_)
      rcases List.mem_append.1 hx with h1 | h1
      · have := hb x h1; omega
      · rw [List.mem_singleton] at h1; omega
    · rw [if_neg (by simpa using hopn), if_neg hopn]
      by_cases h22 : c = 22
      · rw [if_pos h22, if_pos h22]
        by_cases hz : op.length = 0
        · rw [if_neg (by omega), if_pos hz]
          exact hnext _ _ ho (by omega) (fun x hx => by have := hb x hx; omega)
        · have w2 : wrap64 ((op.length : Int) - 1) = ((op.length - 1 : Nat) : Int) := by rw [w64 (by omega) (by omega)]; omega
          have hlt : op.length - 1 < op.length := by omega
          have hrl : rd op ((op.length - 1 : Nat) : Int) = op.getD (op.length - 1) 0 := by simp [rd]
          have hm : op.getD (op.length - 1) 0 ∈ op := by rw [List.getD_eq_getElem?_getD, List.getElem?_eq_getElem hlt]; exact List.getElem_mem hlt
          have hbl := hb _ hm
          rw [if_pos (by omega), if_neg hz, w2, if_pos (by omega), if_pos (by omega), if_pos (by omega), hrl, if_pos (by omega), if_pos (by omega), if_pos (by omega), Int.toNat_natCast, Int.toNat_natCast]
          exact hnext _ _ (by simp [ho]) (by rw [List.length_take]; omega) (fun x hx => by have := hb x (List.mem_of_mem_take hx); omega)
      · rw [if_neg h22, if_neg h22]
        exact hnext _ _ ho (by omega) (fun x hx => by have := hb x hx; omega)
/-- What goes together, of a whole paragraph. -/
def mat (q : List Int) : List Int := mt q.length q 0 (List.replicate q.length (-1)) []
theorem matches_f (q : List Int) (hq : q.length ≤ 17592186043000) (k : Nat) (hk : q.length + 5 < k) : para_Matches.f k q = some (mat q) := by
  unfold para_Matches.f slices_Repeat_int_int.f mat
  rw [if_pos (show ([-1] : List Int).length = 1 from rfl), if_pos (by omega), if_pos (by omega), Option.bind_some, Int.toNat_natCast]
  exact matches_l0 q hq q k 0 _ [] (by simp) (by simp) hk (by simp) (by simp) (by simp)
theorem mat_len (q : List Int) : (mat q).length = q.length := by unfold mat; rw [mt_len]; simp

/-! ### explicit.Levels: what it comes to -/
abbrev Ex := explicit_Levels.Ex
/-- A place's step, without rounds. -/
theorem go_some (q : List Int) (bs : Int) (hq : q.length ≤ 17592186043000) (k : Nat) (hk : q.length + 5 < k) (Inv : Nat → Ex → Prop)
    (hstep : ∀ (i : Nat) (s : Ex), i < q.length → Inv i s → ∃ s', explicit_Levels.step k q (mat q) bs i s = some s' ∧ Inv (i + 1) s') : ∀ (n : Nat) (s : Ex), n ≤ q.length → Inv (q.length - n) s → ∃ s', explicit_Levels.go k q (mat q) bs n s = some s' ∧ Inv q.length s'
  | 0, s, hn, h => ⟨s, rfl, h⟩
  | n + 1, s, hn, h => by
    obtain ⟨s', h1, h2⟩ := hstep (q.length - (n + 1)) s (by omega) h
    rw [show q.length - (n + 1) + 1 = q.length - n by omega] at h2
    obtain ⟨s2, h3, h4⟩ := go_some q bs hq k hk Inv hstep n s' (by omega) h2
    exact ⟨s2, by rw [explicit_Levels.go, h1]; exact h3, h4⟩
theorem levels_f (q : List Int) (lv : Int) (hq : q.length ≤ 17592186043000) (k : Nat) (hk : q.length + 5 < k) (Inv : Nat → Ex → Prop) (h0 : Inv 0 (explicit_Levels.s0 (mn (mx lv 0) 1)))
    (hstep : ∀ (i : Nat) (s : Ex), i < q.length → Inv i s → ∃ s', explicit_Levels.step k q (mat q) (mn (mx lv 0) 1) i s = some s' ∧ Inv (i + 1) s') : ∃ s, explicit_Levels.f k q lv = some (s.L, s.T) ∧ Inv q.length s := by
  unfold explicit_Levels.f
  rw [matches_f q hq k hk, Option.bind_some, if_pos hq]
  obtain ⟨s, h1, h2⟩ := go_some q (mn (mx lv 0) 1) (by omega) k hk Inv hstep q.length _ (Nat.le_refl _) (by rw [Nat.sub_self]; exact h0)
  exact ⟨s, by rw [h1]; rfl, h2⟩
theorem base_bd (lv : Int) : 0 ≤ mn (mx lv 0) 1 ∧ mn (mx lv 0) 1 ≤ 1 := by
  unfold mn mx
  repeat' split
  all_goals omega

theorem awake_levels : explicit_Levels.f 20 [17, 0, 18, 0] 0 = some ([0, 1, 1, 0], [9, 1, 9, 0]) := by decide +kernel
theorem awake_up : ∀ j : Nat, explicit_Levels.f (20 + j) [17, 0, 18, 0] 0 = some ([0, 1, 1, 0], [9, 1, 9, 0])
  | 0 => awake_levels
  | j + 1 => explicit_Levels.mono _ _ _ _ (awake_up j)
theorem haw (k : Nat) (hk : 20 ≤ k) : naskhlaw22_awake.f k = some true := by
  obtain ⟨j, rfl⟩ : ∃ j, k = 20 + j := ⟨k - 20, by omega⟩
  unfold naskhlaw22_awake.f
  rw [awake_up j, Option.bind_some]
  dsimp only
  rw [equal_self_int_int [0, 1, 1, 0] (by decide) (20 + j) (by simp only [List.length_cons, List.length_nil]; omega), Option.bind_some, if_pos rfl, equal_self_int_int [9, 1, 9, 0] (by decide) (20 + j) (by simp only [List.length_cons, List.length_nil]; omega), Option.bind_some, if_pos rfl]
  rfl

/-- A class that is neither left out nor opens. -/
def ord (c : Int) : Prop := ¬ (c = 14 ∨ c = 15 ∨ c = 16 ∨ c = 17 ∨ c = 18 ∨ c = 9 ∨ c = 19 ∨ c = 20 ∨ c = 21)
theorem left_f (c : Int) : ∃ b, explicit_Left.f c = some b ∧ (b = true ∨ (b = false ∧ ¬ (c = 14 ∨ c = 15 ∨ c = 16 ∨ c = 17 ∨ c = 18 ∨ c = 9))) := by
  unfold explicit_Left.f
  repeat' split
  all_goals first | exact ⟨true, rfl, .inl rfl⟩ | exact ⟨false, rfl, .inr ⟨rfl, by omega⟩⟩
theorem opens2_f (c : Int) : ∃ b, naskhref20_Opens.f c = some b ∧ (b = true ∨ (b = false ∧ ¬ (c = 19 ∨ c = 20 ∨ c = 21))) := by
  unfold naskhref20_Opens.f
  by_cases h1 : c = 19
  · rw [if_pos h1]; exact ⟨true, rfl, .inl rfl⟩
  · rw [if_neg h1]
    by_cases h2 : c = 20
    · rw [if_pos h2]; exact ⟨true, rfl, .inl rfl⟩
    · rw [if_neg h2]
      by_cases h3 : c = 21
      · rw [beq_iff_eq.mpr h3]; exact ⟨true, rfl, .inl rfl⟩
      · rw [beq_eq_false_iff_ne.mpr h3]; exact ⟨false, rfl, .inr ⟨rfl, by omega⟩⟩
def Plain (q : List Int) (bs : Int) (i : Nat) (s : Ex) : Prop := s = ⟨0, 0, 0, [Stk.newE bs], List.replicate i bs, q.take i⟩
theorem plain_step (q : List Int) (bs : Int) (hb : 0 ≤ bs ∧ bs ≤ 1) (hq : ∀ c ∈ q, ord c) (k : Nat) (i : Nat) (s : Ex) (hi : i < q.length) (h : Plain q bs i s) : ∃ s', explicit_Levels.step k q (mat q) bs i s = some s' ∧ Plain q bs (i + 1) s' := by
  unfold Plain at h
  subst h
  have hc := hq _ (List.getElem_mem hi)
  have hg : q.getD i 0 = q[i] := by rw [List.getD_eq_getElem?_getD, List.getElem?_eq_getElem hi, Option.getD_some]
  have ht : q.take (i + 1) = q.take i ++ [q[i]] := (List.take_append_getElem hi).symm
  have hr : List.replicate (i + 1) bs = List.replicate i bs ++ [bs] := List.replicate_succ'
  have hn : Stk.newE bs = ⟨bs, 13, false⟩ := by unfold Stk.newE; rw [if_neg (by omega), if_neg (by omega)]
  have htop : Stk.topE [Stk.newE bs] = ⟨bs, 13, false⟩ := by rw [hn]; rfl
  refine ⟨⟨0, 0, 0, [Stk.newE bs], List.replicate (i + 1) bs, q.take (i + 1)⟩, ?_, rfl⟩
  unfold explicit_Levels.step
  rw [hg, ht, hr]
  generalize q[i] = c at hc
  unfold ord at hc
  dsimp only
  have ei : Stk.eiL 0 0 [Stk.newE bs] = [Stk.newE bs] := by unfold Stk.eiL; rw [if_neg (by omega), if_neg (by omega)]
  have ea : Stk.eiA 0 = 0 := by unfold Stk.eiA; rw [if_neg (by omega)]
  have eb : Stk.eiB 0 0 0 = 0 := by unfold Stk.eiB; rw [if_neg (by omega), if_neg (by omega)]
  have ec : Stk.eiC 0 0 = 0 := by unfold Stk.eiC; rw [if_neg (by omega), if_neg (by omega)]
  have eo : ∀ y : Int, Stk.over 13 y = y := fun y => by unfold Stk.over; rw [if_pos rfl]
  rw [ei, ea, eb, ec, htop]
  dsimp only
  rw [eo, eo, eo, eo, eo]
  rw [if_neg (by omega), if_neg (by omega), if_neg (by omega), if_neg (by omega), if_neg (by omega), if_neg (by omega), if_neg (by omega)]
  by_cases h22 : c = 22
  · rw [if_pos h22, h22]
  · rw [if_neg h22, if_neg (by omega), if_neg (by omega)]
    by_cases h10 : c = 10
    · rw [if_pos h10, h10]
    · rw [if_neg h10]
theorem levels_plain (q : List Int) (lv : Int) (hl : q.length ≤ 17592186043000) (hq : ∀ c ∈ q, ord c) (k : Nat) (hk : q.length + 5 < k) : explicit_Levels.f k q lv = some (List.replicate q.length (mn (mx lv 0) 1), q) := by
  obtain ⟨s, e, h⟩ := levels_f q lv hl k hk (Plain q (mn (mx lv 0) 1)) (by unfold Plain; rfl) (fun i s hi h => plain_step q _ (base_bd lv) hq k i s hi h)
  rw [e, h]
  dsimp only
  rw [List.take_length]
theorem plain_loop (lv : Int) (q : List Int) (hq : q.length ≤ 500) : ∀ (d k i : Nat) (P : List Int), i + d = q.length → d + 1000 < k → P.length ≤ i → (∀ c ∈ P, ord c) → naskhlaw22_ExplicitPlain.l0 k lv P q (q.length : Int) (i : Int) = some true := by
  intro d
  induction d with
  | zero =>
    intro k i P hi hk hP hc
    obtain ⟨k, rfl⟩ : ∃ m, k = m + 1 := ⟨k - 1, by omega⟩
    have hany : (List.replicate P.length (mn (mx lv 0) 1)).any (fun x => x != mn (mx lv 0) 1) = false := by
      rw [List.any_eq_false]
      intro x hx
      rw [List.eq_of_mem_replicate hx]
      simp
    rw [naskhlaw22_ExplicitPlain.l0, if_neg (by omega), levels_plain P lv (by omega) hc k (by omega), Option.bind_some]
    dsimp only
    rw [equal_self_int_int P (by omega) k (by omega), Option.bind_some, if_pos rfl, if_pos (by rw [List.length_replicate])]
    unfold slices_ContainsFunc_int_int.f
    rw [if_pos (by rw [List.length_replicate]; omega), hany, Option.bind_some, if_neg (by decide), haw k (by omega)]
    rfl
  | succ d ih =>
    intro k i P hi hk hP hc
    obtain ⟨k, rfl⟩ : ∃ m, k = m + 1 := ⟨k - 1, by omega⟩
    have w1 : wrap64 ((i : Int) + 1) = ((i + 1 : Nat) : Int) := up1 (by omega) (by omega)
    have hPl : P.length < 17592186044416 := by omega
    have hil : i < q.length := by omega
    rw [naskhlaw22_ExplicitPlain.l0, if_pos (by omega), if_pos (by omega), if_pos (by omega), rd_nat q i hil, w1]
    obtain ⟨b, e1, h1⟩ := left_f q[i]
    rw [e1, Option.bind_some]
    rcases h1 with h1 | ⟨h1, h1c⟩
    · rw [if_pos h1]
      exact ih k (i + 1) P (by omega) (by omega) (by omega) hc
    · rw [h1, if_neg (by decide)]
      obtain ⟨b2, e2, h2⟩ := opens2_f q[i]
      rw [e2, Option.bind_some]
      rcases h2 with h2 | ⟨h2, h2c⟩
      · rw [if_pos h2]
        exact ih k (i + 1) P (by omega) (by omega) (by omega) hc
      · rw [h2, if_neg (by decide), if_pos hPl]
        refine ih k (i + 1) _ (by omega) (by omega) (by simp; omega) (fun c h => ?_)
        rcases List.mem_append.1 h with h3 | h3
        · exact hc c h3
        · rw [List.mem_singleton] at h3
          subst h3
          unfold ord
          omega
theorem ExplicitPlain_ok : naskhlaw22_ExplicitPlain.Pure := by
  intro q lv h1 h2 h3 h4
  refine ⟨2000, ?_⟩
  unfold naskhlaw22_ExplicitPlain.f
  by_cases h : (q.length : Int) > 500
  · rw [if_pos h, haw 2000 (by omega)]; rfl
  · rw [if_neg h]
    exact plain_loop lv q (by omega) q.length 2000 0 [] (by omega) (by omega) (Nat.le_refl _) (fun c h => by cases h)
end Go.Proofs.Ytbkdaafphcfpdaa.PureExplicitPlainAux
namespace Go.Proofs.Ytbkdaafphcfpdaa.Pure
open Go.Proofs.Ytbkdaafphcfpdaa.PExplicitPlain
theorem ExplicitPlain : naskhlaw22_ExplicitPlain.Pure := PureExplicitPlainAux.ExplicitPlain_ok
end Go.Proofs.Ytbkdaafphcfpdaa.Pure
