import Derived.Test.YtbkdaafphcfpdaaPSeqOncex0
import Derived.Test.YtbkdaafphcfpdaaPSeqOncex2
import Derived.Test.YtbkdaafphcfpdaaPSeqOncex4
namespace Go.Proofs.Ytbkdaafphcfpdaa.PSeqOnce
open Go.RowKit Go.Proofs.YtbkdaafphcfpdaaM Go.Proofs.YtbkdaafphcfpdaaW.PrintWords Go.Proofs.YtbkdaafphcfpdaaW.PrintLast Go.Proofs.YtbkdaafphcfpdaaW.PrintMore
attribute [local go_sem] max2_int min2_int max_two min_two max_three min_three max_four min_four   -- for this text's walks alone
set_option linter.unusedVariables false
set_option linter.unusedSimpArgs false
section
open Go.Proofs.Ytbkdaafphcfpdaa.Stk
structure explicit_Levels.Ex where
  a : Int
  b : Int
  c : Int
  l : List Ent
  L : List Int
  T : List Int
def explicit_Levels.step (k : Nat) (q M : List Int) (bs : Int) (i : Nat) (s : explicit_Levels.Ex) : Option explicit_Levels.Ex :=
  if q.getD i 0 = 16 then some ⟨s.a, embB s.a s.b s.l true, s.c, embL s.a s.b s.l true 13, s.L ++ [(topE s.l).lv], s.T ++ [9]⟩
  else if q.getD i 0 = 14 then some ⟨s.a, embB s.a s.b s.l false, s.c, embL s.a s.b s.l false 13, s.L ++ [(topE s.l).lv], s.T ++ [9]⟩
  else if q.getD i 0 = 17 then some ⟨s.a, embB s.a s.b s.l true, s.c, embL s.a s.b s.l true 1, s.L ++ [(topE s.l).lv], s.T ++ [9]⟩
  else if q.getD i 0 = 15 then some ⟨s.a, embB s.a s.b s.l false, s.c, embL s.a s.b s.l false 0, s.L ++ [(topE s.l).lv], s.T ++ [9]⟩
  else if q.getD i 0 = 20 then some ⟨isoA s.a s.b s.l true, s.b, isoC s.a s.b s.c s.l true, isoL s.a s.b s.l true, s.L ++ [(topE s.l).lv], s.T ++ [over (topE s.l).ov 20]⟩
  else if q.getD i 0 = 19 then some ⟨isoA s.a s.b s.l false, s.b, isoC s.a s.b s.c s.l false, isoL s.a s.b s.l false, s.L ++ [(topE s.l).lv], s.T ++ [over (topE s.l).ov 19]⟩
  else if q.getD i 0 = 21 then (if i < M.length then (para_First.f k q ((i : Int) + 1) (M.getD i 0)).bind fun r => some ⟨isoA s.a s.b s.l (r == 1), s.b, isoC s.a s.b s.c s.l (r == 1), isoL s.a s.b s.l (r == 1), s.L ++ [(topE s.l).lv], s.T ++ [over (topE s.l).ov 21]⟩ else none)
  else if q.getD i 0 = 22 then some ⟨eiA s.a, eiB s.a s.b s.c, eiC s.a s.c, eiL s.a s.c s.l, s.L ++ [(topE (eiL s.a s.c s.l)).lv], s.T ++ [over (topE (eiL s.a s.c s.l)).ov 22]⟩
  else if q.getD i 0 = 18 then some ⟨s.a, eeB s.a s.b, s.c, eeL s.a s.b s.l, s.L ++ [(topE s.l).lv], s.T ++ [9]⟩
  else if q.getD i 0 = 9 then some ⟨s.a, s.b, s.c, s.l, s.L ++ [(topE s.l).lv], s.T ++ [9]⟩
  else if q.getD i 0 = 10 then some ⟨s.a, s.b, s.c, s.l, s.L ++ [bs], s.T ++ [10]⟩
  else some ⟨s.a, s.b, s.c, s.l, s.L ++ [(topE s.l).lv], s.T ++ [over (topE s.l).ov (q.getD i 0)]⟩
def explicit_Levels.go (k : Nat) (q M : List Int) (bs : Int) : Nat → explicit_Levels.Ex → Option explicit_Levels.Ex
  | 0, s => some s
  | n + 1, s => (explicit_Levels.step k q M bs (q.length - (n + 1)) s).bind (explicit_Levels.go k q M bs n)
def explicit_Levels.s0 (bs : Int) : explicit_Levels.Ex := ⟨0, 0, 0, [newE bs], [], []⟩
def explicit_Levels.f (k : Nat) (l0 : List Int) (a1 : Int) : Option (List Int × List Int) := (para_Matches.f k l0).bind fun M => if l0.length ≤ 17592186043000 then ((explicit_Levels.go k l0 M (mn (mx a1 0) 1) l0.length (explicit_Levels.s0 (mn (mx a1 0) 1))).bind fun s => some (s.L, s.T)) else none
theorem explicit_Levels.step_mono (k : Nat) (q M : List Int) (bs : Int) (i : Nat) (s : explicit_Levels.Ex) : LeO (explicit_Levels.step k q M bs i s) (explicit_Levels.step (k + 1) q M bs i s) := by
  unfold explicit_Levels.step
  repeat' first
    | (with_reducible exact LeO.refl _)
    | (with_reducible exact LeO.none _)
    | (with_reducible exact para_First.mono _ _ _ _)
    | (with_reducible refine LeO.ite ?_ ?_)
    | (with_reducible refine LeO.bind ?_ (fun _ => ?_))
theorem explicit_Levels.go_mono (k : Nat) (q M : List Int) (bs : Int) : ∀ (n : Nat) (s : explicit_Levels.Ex), LeO (explicit_Levels.go k q M bs n s) (explicit_Levels.go (k + 1) q M bs n s)
  | 0, _ => LeO.refl _
  | n + 1, s => by unfold explicit_Levels.go; exact LeO.bind (explicit_Levels.step_mono k q M bs _ s) (fun _ => explicit_Levels.go_mono k q M bs n _)
theorem explicit_Levels.mono : ∀ a0 a1 k, LeO (explicit_Levels.f k a0 a1) (explicit_Levels.f (k + 1) a0 a1) := by
  intro a0 a1 k
  unfold explicit_Levels.f
  exact LeO.bind (para_Matches.mono _ _) (fun _ => LeO.ite (LeO.bind (explicit_Levels.go_mono _ _ _ _ _ _) (fun _ => LeO.refl _)) (LeO.refl _))
theorem explicit_Levels.stepc {w : World} {base gw g cc : Nat} {Ac : Option Addr} {vm v vl vt : Value} {bs : Int} {q M : List Int} {s s' : explicit_Levels.Ex} (k : Nat) (h : WkC w base gw g Ac q.length cc vm bs v s.a s.b s.c s.l vl vt vl vt s.L s.T M) (hL : s.L.length ≤ 17592186044000 ∧ s.T.length ≤ 17592186044000) (hG : Stk.Good s.l) (hC : Kd.C (Kd.int .i64) w Ac q.length q) (hcc : q.length ≤ cc) (hn : s.L.length < q.length) (hs : explicit_Levels.step k q M bs s.L.length s = some s') :
    Calls Try.prog 46 #[.pointer (some ⟨gw, 0, none⟩), .int .i64 (s.L.length : Int)] w (WkR base gw g Ac q.length cc vm bs s'.a s'.b s'.c s'.l s'.L s'.T M w) := by
  have hcell := at_I hC s.L.length hn
  unfold explicit_Levels.step at hs
  by_cases h16 : q.getD s.L.length 0 = 16
  · rw [if_pos h16] at hs
    obtain rfl := Option.some.inj hs
    rw [h16] at hcell
    exact w_step_e16 h hL hG hcell hn
  · rw [if_neg h16] at hs
    by_cases h14 : q.getD s.L.length 0 = 14
    · rw [if_pos h14] at hs
      obtain rfl := Option.some.inj hs
      rw [h14] at hcell
      exact w_step_e14 h hL hG hcell hn
    · rw [if_neg h14] at hs
      by_cases h17 : q.getD s.L.length 0 = 17
      · rw [if_pos h17] at hs
        obtain rfl := Option.some.inj hs
        rw [h17] at hcell
        exact w_step_e17 h hL hG hcell hn
      · rw [if_neg h17] at hs
        by_cases h15 : q.getD s.L.length 0 = 15
        · rw [if_pos h15] at hs
          obtain rfl := Option.some.inj hs
          rw [h15] at hcell
          exact w_step_e15 h hL hG hcell hn
        · rw [if_neg h15] at hs
          by_cases h20 : q.getD s.L.length 0 = 20
          · rw [if_pos h20] at hs
            obtain rfl := Option.some.inj hs
            rw [h20] at hcell
            exact w_step_i20 h hL hG hcell hn
          · rw [if_neg h20] at hs
            by_cases h19 : q.getD s.L.length 0 = 19
            · rw [if_pos h19] at hs
              obtain rfl := Option.some.inj hs
              rw [h19] at hcell
              exact w_step_i19 h hL hG hcell hn
            · rw [if_neg h19] at hs
              by_cases h21 : q.getD s.L.length 0 = 21
              · rw [if_pos h21] at hs
                by_cases hM : s.L.length < M.length
                · rw [if_pos hM] at hs
                  obtain ⟨r, hr, hs⟩ := Option.bind_eq_some_iff.mp hs
                  obtain rfl := Option.some.inj hs
                  rw [h21] at hcell
                  exact (w_step_i21 h hL hG hcell hn hM (by omega) r (fun W hb => para_First.calls k Ac cc q _ _ r W (Kd.C_below hC hb) hcc hr)).mono fun e w' z => z
                · rw [if_neg hM] at hs; cases hs
              · rw [if_neg h21] at hs
                by_cases h22 : q.getD s.L.length 0 = 22
                · rw [if_pos h22] at hs
                  obtain rfl := Option.some.inj hs
                  rw [h22] at hcell
                  exact w_step_pdi h hL hG hcell hn
                · rw [if_neg h22] at hs
                  by_cases h18 : q.getD s.L.length 0 = 18
                  · rw [if_pos h18] at hs
                    obtain rfl := Option.some.inj hs
                    rw [h18] at hcell
                    exact w_step_pdf h hL hG hcell hn
                  · rw [if_neg h18] at hs
                    by_cases h9 : q.getD s.L.length 0 = 9
                    · rw [if_pos h9] at hs
                      obtain rfl := Option.some.inj hs
                      rw [h9] at hcell
                      exact w_step_bn h hL hG hcell hn
                    · rw [if_neg h9] at hs
                      by_cases h10 : q.getD s.L.length 0 = 10
                      · rw [if_pos h10] at hs
                        obtain rfl := Option.some.inj hs
                        rw [h10] at hcell
                        exact w_step_b h hL hG hcell hn
                      · rw [if_neg h10] at hs
                        obtain rfl := Option.some.inj hs
                        exact w_step_other ⟨h16, h14, h17, h15, h20, h19, h21, h22, h18, h9, h10⟩ h hL hG hcell hn
theorem explicit_Levels.step_good {k : Nat} {q M : List Int} {bs : Int} {i : Nat} {s s' : explicit_Levels.Ex} (hG : Stk.Good s.l) (hs : explicit_Levels.step k q M bs i s = some s') : Stk.Good s'.l ∧ s'.L.length = s.L.length + 1 ∧ s'.T.length = s.T.length + 1 := by
  unfold explicit_Levels.step at hs
  by_cases h16 : q.getD i 0 = 16
  · rw [if_pos h16] at hs
    obtain rfl := Option.some.inj hs
    exact ⟨(Went.emb hG _ _).1, List.length_append, List.length_append⟩
  · rw [if_neg h16] at hs
    by_cases h14 : q.getD i 0 = 14
    · rw [if_pos h14] at hs
      obtain rfl := Option.some.inj hs
      exact ⟨(Went.emb hG _ _).1, List.length_append, List.length_append⟩
    · rw [if_neg h14] at hs
      by_cases h17 : q.getD i 0 = 17
      · rw [if_pos h17] at hs
        obtain rfl := Option.some.inj hs
        exact ⟨(Went.emb hG _ _).1, List.length_append, List.length_append⟩
      · rw [if_neg h17] at hs
        by_cases h15 : q.getD i 0 = 15
        · rw [if_pos h15] at hs
          obtain rfl := Option.some.inj hs
          exact ⟨(Went.emb hG _ _).1, List.length_append, List.length_append⟩
        · rw [if_neg h15] at hs
          by_cases h20 : q.getD i 0 = 20
          · rw [if_pos h20] at hs
            obtain rfl := Option.some.inj hs
            exact ⟨(Went.isol hG _).1, List.length_append, List.length_append⟩
          · rw [if_neg h20] at hs
            by_cases h19 : q.getD i 0 = 19
            · rw [if_pos h19] at hs
              obtain rfl := Option.some.inj hs
              exact ⟨(Went.isol hG _).1, List.length_append, List.length_append⟩
            · rw [if_neg h19] at hs
              by_cases h21 : q.getD i 0 = 21
              · rw [if_pos h21] at hs
                by_cases hM : i < M.length
                · rw [if_pos hM] at hs
                  obtain ⟨r, hr, hs⟩ := Option.bind_eq_some_iff.mp hs
                  obtain rfl := Option.some.inj hs
                  exact ⟨(Went.isol hG _).1, List.length_append, List.length_append⟩
                · rw [if_neg hM] at hs; cases hs
              · rw [if_neg h21] at hs
                by_cases h22 : q.getD i 0 = 22
                · rw [if_pos h22] at hs
                  obtain rfl := Option.some.inj hs
                  exact ⟨(Went.ei hG).1, List.length_append, List.length_append⟩
                · rw [if_neg h22] at hs
                  by_cases h18 : q.getD i 0 = 18
                  · rw [if_pos h18] at hs
                    obtain rfl := Option.some.inj hs
                    exact ⟨(Went.ee hG).1, List.length_append, List.length_append⟩
                  · rw [if_neg h18] at hs
                    by_cases h9 : q.getD i 0 = 9
                    · rw [if_pos h9] at hs
                      obtain rfl := Option.some.inj hs
                      exact ⟨hG, List.length_append, List.length_append⟩
                    · rw [if_neg h9] at hs
                      by_cases h10 : q.getD i 0 = 10
                      · rw [if_pos h10] at hs
                        obtain rfl := Option.some.inj hs
                        exact ⟨hG, List.length_append, List.length_append⟩
                      · rw [if_neg h10] at hs
                        obtain rfl := Option.some.inj hs
                        exact ⟨hG, List.length_append, List.length_append⟩
theorem wk_start {w : World} {base gw g : Nat} {Ac : Option Addr} {nc cc : Nat} {bs : Int} {v vm : Value} {a b c : Int} {l : List Ent} {M : List Int} (hX : w.heap[gw]? = some (.cells #[.pointer (some ⟨g, 0, none⟩), .slice Ac nc cc, .slice none 0 0, .int .i64 bs, .slice none 0 0, .slice none 0 0] 67 (0, 0))) (hS : StkP w base g v a b c l) (hR : Kd.R (Kd.int .i64) 3 w base (fun _ => True) vm M) (hg : base ≤ gw) :
    WkC (w.setCell ⟨gw, 2, none⟩ vm) base gw g Ac nc cc vm bs v a b c l (.slice none 0 0) (.slice none 0 0) (.slice none 0 0) (.slice none 0 0) [] [] M := by
  have h : WkC w base gw g Ac nc cc (.slice none 0 0) bs v a b c l (.slice none 0 0) (.slice none 0 0) (.slice none 0 0) (.slice none 0 0) [] [] [] := ⟨hX, hS, Kd.R_nil _ _ _ _ _, Kd.R_nil _ _ _ _ _, Kd.R_nil _ _ _ _ _, hg⟩
  have hne : g ≠ gw := blk_ne hS.1 hX (by decide)
  refine ⟨blk_put hX 2 vm rfl, ⟨blk_far hS.1 (p := ⟨gw, 2, none⟩) hne _, ?_, hS.2.2⟩, Kd.R_nil _ _ _ _ _, Kd.R_nil _ _ _ _ _, ?_, hg⟩
  · refine Kd.R_mono (Kd.R_move (Kd.R_bound hS.2.1) (fun k hk => ?_)) (fun _ hk => hk.1)
    obtain ⟨_, _, _, q, hq, cs, hc⟩ := hk
    have e3 : q = 82 := by simpa [kE, Kd.iso, Kd.pair, Kd.int, Kd.bool, Kd.scalar] using hq
    subst e3
    exact Below.heap_setCell w ⟨gw, 2, none⟩ _ k (blk_ne hc hX (by decide))
  · refine Kd.R_mono (Kd.R_move (Kd.R_bound hR) (fun k hk => ?_)) (fun _ hk => ⟨by simp [Value.ownBlock], by simp [Value.ownBlock]⟩)
    obtain ⟨_, _, _, q, hq, cs, hc⟩ := hk
    have e3 := kI_E q hq
    subst e3
    exact Below.heap_setCell w ⟨gw, 2, none⟩ _ k (blk_ne hc hX (by decide))
set_option maxHeartbeats 16000000 in
set_option maxRecDepth 100000 in
theorem explicit_Levels.low (k : Nat) (A0 : Option Addr) (c0 : Nat) (l0 : List Int) (a1 : Int) (M : List Int) (sF : explicit_Levels.Ex) (w : World) (hr0 : Kd.C (Kd.int .i64) w A0 l0.length l0) (hc0 : l0.length ≤ c0) (hM : para_Matches.f k l0 = some M) (hsz : l0.length ≤ 17592186043000) (hgo : explicit_Levels.go k l0 M 0 l0.length (explicit_Levels.s0 0) = some sF) (h1 : a1 < 0) :
    Calls Try.prog 21 #[.slice A0 l0.length c0, .int .i64 a1] w fun e w' => ∃ v0_ v1_ : Value, e = .returned (.tuple #[v0_, v1_]) ∧ Kd.R (Kd.int .i64) 3 w' w.heap.size (fun k_ => some k_ ≠ (v1_ : Value).ownBlock) v0_ sF.L ∧ Kd.R (Kd.int .i64) 3 w' w.heap.size (fun k_ => some k_ ≠ (v0_ : Value).ownBlock) v1_ sF.T ∧ Below w.heap.size w w' := by
    have HM := Aside0.mk hM
    have HGO := Aside0.mk hgo
    have HSZ := Aside0.mk hsz
    have HC := Aside0.mk hr0
    have HCC := Aside0.mk hc0
    have hk := Try.underlying67
    clear hM hgo hsz hr0 hc0
    go_enter Try.func21, Try.ntmps21
    go_wp2_with (first | (go_at_call 44; (with_reducible refine (p_new 0 w).mono ?_); rintro e w1 ⟨g, v, rfl, hS, hg, hb⟩; have HS1 := Aside0.mk hS; have HB1 := Aside0.mk hb; clear hS hg hb) | ((with_reducible refine gate_dst (N := 17) rfl ?_); refine box_event ?hg (N := 17) ?hd (cs := #[.pointer (some ⟨g, 0, none⟩), .slice A0 l0.length c0, .slice none 0 0, .int .i64 0, .slice none 0 0, .slice none 0 0]) (t := 67) ?hr ?_; (case hd => rfl); (case hg => rfl); (case hr => first | (go_simp; done) | (go_simp; rfl)); intro gw hg w2 hbox hb; have BX := Aside0.mk hbox; have HB2 := Aside0.mk (below_step HB1.out hb); have HS2 := Aside0.mk (show StkP w2 w.heap.size g v 0 0 0 [newE 0] from stk_below HS1.out hb); have HGW := Aside0.mk (show w.heap.size ≤ gw by have := HB1.out.size; omega); clear hg hbox hb) | (go_at_call 45; (with_reducible refine (para_Matches.calls k A0 c0 l0 M _ (Kd.C_below HC.out HB2.out) HCC.out HM.out).mono ?_); rintro e w3 ⟨vm, rfl, hR, hb⟩; have HR3 := Aside0.mk hR; have BX3 := Aside0.mk (blk_below BX.out hb); have HS3 := Aside0.mk (show StkP w3 w.heap.size g v 0 0 0 [newE 0] from stk_below HS2.out hb); have HB3 := Aside0.mk (below_step HB2.out hb); have HLT3 := Aside0.mk (show gw < w2.heap.size ∧ w.heap.size ≤ w2.heap.size from ⟨blk_lt BX.out, HB2.out.size⟩); clear hR hb; obtain ⟨Am, cm, em⟩ := Kd.R_slice HR3.out; generalize hnm : M.length = nm at em; clear hnm; subst em; have hc2 := (blk_cell BX3.out 2).trans rfl; have hf2 := blk_frozen BX3.out 2) | ((with_reducible refine gate_store (t := 22) (p := 22) rfl ?_); refine store_event (t := 22) (p := 22) (v := .tmp 20) (w1 := w3.setCell ⟨gw, 2, none⟩ (.slice Am nm cm)) ?hg ?ho ?hn ?hr ?_; (case ho => rfl); (case hg => rfl); (case hn => rfl); (case hr => first | (go_simp; done) | (go_simp; rfl)); intro w4 hw; have HW4 := Aside0.mk (show WkC w4 w.heap.size gw g A0 l0.length c0 (.slice Am nm cm) 0 v 0 0 0 [newE 0] (.slice none 0 0) (.slice none 0 0) (.slice none 0 0) (.slice none 0 0) [] [] M by rw [hw]; exact wk_start BX3.out HS3.out (Kd.R_lower HR3.out HLT3.out.2) HGW.out); have HB4 := Aside0.mk (show Below w.heap.size w w4 by rw [hw]; exact below_set HB3.out HGW.out); clear hw hc2 hf2 BX3 HS3 HR3 HB3 HS2 HB2 BX HS1 HB1))
    go_loopg [25] l0.length (fun kq v25 w' => ∃ (i : Nat) (s : explicit_Levels.Ex) (v vl vt : Value), v25 = .int .i64 (i : Int) ∧ Aside0 (i ≤ l0.length ∧ l0.length - i = kq ∧ s.L.length = i ∧ s.T.length = i) ∧ Aside0 (WkC w' w.heap.size gw g A0 l0.length c0 (.slice Am nm cm) 0 v s.a s.b s.c s.l vl vt vl vt s.L s.T M) ∧ Aside0 (Stk.Good s.l) ∧ Aside0 (Below w.heap.size w w') ∧ Aside0 (explicit_Levels.go k l0 M 0 (l0.length - i) s = some sF))
    case atStart => exact ⟨0, explicit_Levels.s0 0, v, _, _, rfl, ⟨Nat.zero_le _, rfl, rfl, rfl⟩, HW4, ⟨Stk.Good.new _⟩, HB4, HGO⟩
    case round =>
      clear HW4 HB4 HGO
      obtain ⟨i, s, v, vl, vt, rfl, HI, HW, HGD, HB, HGO⟩ := hrel
      by_cases hlt : i < l0.length
      · have b0 : decide ((i : Int) < (l0.length : Int)) = true := decide_eq_true (by omega)
        have b1 : decide (i < l0.length) = true := decide_eq_true hlt
        have hw := (show wrap64 ((i : Int) + 1) = ((i + 1 : Nat) : Int) by have := HSZ.out; unfold wrap64; omega)
        obtain ⟨n, hn⟩ : ∃ n, l0.length - i = n + 1 := ⟨l0.length - i - 1, by omega⟩
        have hgo := HGO.out
        rw [hn, explicit_Levels.go, show l0.length - (n + 1) = i by omega] at hgo
        obtain ⟨s', hs', hgo'⟩ := Option.bind_eq_some_iff.mp hgo
        rw [show n = l0.length - (i + 1) by omega] at hgo'
        obtain ⟨hg', hL', hT'⟩ := explicit_Levels.step_good HGD.out hs'
        have hli := HI.out.2.2.1
        have hti := HI.out.2.2.2
        have HST := Aside0.mk (by
          have h1 := explicit_Levels.stepc k HW.out (by have := HSZ.out; omega) HGD.out (Kd.C_below HC.out HB.out) HCC.out (by omega) (by rw [hli]; exact hs')
          rw [hli] at h1
          exact h1 : Calls Try.prog 46 #[.pointer (some ⟨gw, 0, none⟩), .int .i64 (i : Int)] wr (WkR w.heap.size gw g A0 l0.length c0 (.slice Am nm cm) 0 s'.a s'.b s'.c s'.l s'.L s'.T M wr))
        have HG' := Aside0.mk hg'
        have HLT' := Aside0.mk (show i < l0.length ∧ s'.L.length = i + 1 ∧ s'.T.length = i + 1 from ⟨hlt, by omega, by omega⟩)
        have HGO' := Aside0.mk hgo'
        clear hlt hn hgo hs' hgo' hg' hL' hT' hli hti HGO
        go_wp2_with (first | (go_at_call 46; (with_reducible refine (HST.out).mono ?_); rintro e w5 ⟨v5, vl5, vt5, rfl, hk5, hb5⟩; have HK5 := Aside0.mk hk5; have HB5 := Aside0.mk (HB.out.trans hb5); clear hk5 hb5))
        go_roundg (l0.length - (i + 1))
        case measure => have := HI.out; have := HLT'.out; omega
        case rel => exact ⟨i + 1, s', v5, vl5, vt5, by first | rfl | go_num | rw [hw], ⟨by have := HLT'.out; omega, rfl, HLT'.out.2.1, HLT'.out.2.2⟩, HK5, HG', HB5, HGO'⟩
      · have b0 : decide ((i : Int) < (l0.length : Int)) = false := decide_eq_false (by omega)
        have b1 : decide (i < l0.length) = false := decide_eq_false hlt
        have hgo := HGO.out
        rw [show l0.length - i = 0 by omega, explicit_Levels.go] at hgo
        have HE := Aside0.mk (Option.some.inj hgo)
        clear hlt hgo HGO
        go_wp2
        have HWD := Aside0.mk (wk_below HW.out (below_drew (Below.refl _ _)))
        have HBD := Aside0.mk (below_drew1 HB.out)
        clear HW HB
        have HW := HWD
        have HB := HBD
        clear HWD HBD
        refine start_ (n := 10) (S := fun w' => w'.cell? ⟨gw, 4, none⟩ = some vl ∧ w'.cell? ⟨gw, 5, none⟩ = some vt) (ds := []) #[false, false, false, false, false, false, false, false, false, false] (by kernel_rfl) rfl rfl ⟨(blk_cell HW.out.1 4).trans rfl, (blk_cell HW.out.1 5).trans rfl⟩ (fun hHeld => ?_)
        refine pure_ (i := 0) (N := some 32) (v := ?_) (a' := ?_) #[true, false, false, false, false, false, false, false, false, false] rfl rfl (by kernel_rfl) (fun _ _ _ h => h) (Or.inl ⟨by rfl, ?_⟩) ?_ ?_
        rotate_left
        · intro w'
          go_simp
          with_reducible rfl
        rotate_left
        · simp only [Act.put, List.setIfInBounds_toArray, List.set_cons_zero, List.set_cons_succ, i64_w, i32_w]
          rfl
        refine pure_ (i := 1) (N := some 33) (v := ?_) (a' := ?_) #[true, true, false, false, false, false, false, false, false, false] rfl rfl (by kernel_rfl) (fun _ _ _ h => h) (Or.inl ⟨by rfl, ?_⟩) ?_ ?_
        rotate_left
        · intro w'
          go_simp
          with_reducible rfl
        rotate_left
        · simp only [Act.put, List.setIfInBounds_toArray, List.set_cons_zero, List.set_cons_succ, i64_w, i32_w]
          rfl
        refine pure_ (i := 2) (N := some 34) (v := ?_) (a' := ?_) #[true, true, true, false, false, false, false, false, false, false] rfl rfl (by kernel_rfl) (fun _ _ _ h => h) (Or.inl ⟨by rfl, ?_⟩) ?_ ?_
        rotate_left
        · intro w'
          go_simp
          with_reducible rfl
        rotate_left
        · simp only [Act.put, List.setIfInBounds_toArray, List.set_cons_zero, List.set_cons_succ, i64_w, i32_w]
          rfl
        refine take_ (i := 3) (N := some 35) (v := ?_) (a' := ?_) #[true, true, true, true, false, false, false, false, false, false] rfl rfl (by kernel_rfl) (fun _ _ _ h => h) (Or.inl ⟨by rfl, ?_⟩) hHeld ?_ ?_
        rotate_left
        · rintro w' ⟨s0, s1⟩
          go_simp
          with_reducible rfl
        rotate_left
        · simp only [Act.put, List.setIfInBounds_toArray, List.set_cons_zero, List.set_cons_succ, i64_w, i32_w]
          rfl
        refine pure_ (i := 4) (N := some 36) (v := ?_) (a' := ?_) #[true, true, true, true, true, false, false, false, false, false] rfl rfl (by kernel_rfl) (fun _ _ _ h => h) (Or.inl ⟨by rfl, ?_⟩) ?_ ?_
        rotate_left
        · intro w'
          go_simp
          with_reducible rfl
        rotate_left
        · simp only [Act.put, List.setIfInBounds_toArray, List.set_cons_zero, List.set_cons_succ, i64_w, i32_w]
          rfl
        refine pure_ (i := 5) (N := some 37) (v := ?_) (a' := ?_) #[true, true, true, true, true, true, false, false, false, false] rfl rfl (by kernel_rfl) (fun _ _ _ h => h) (Or.inl ⟨by rfl, ?_⟩) ?_ ?_
        rotate_left
        · intro w'
          go_simp
          with_reducible rfl
        rotate_left
        · simp only [Act.put, List.setIfInBounds_toArray, List.set_cons_zero, List.set_cons_succ, i64_w, i32_w]
          rfl
        refine pure_ (i := 6) (N := some 38) (v := ?_) (a' := ?_) #[true, true, true, true, true, true, true, false, false, false] rfl rfl (by kernel_rfl) (fun _ _ _ h => h) (Or.inl ⟨by rfl, ?_⟩) ?_ ?_
        rotate_left
        · intro w'
          go_simp
          with_reducible rfl
        rotate_left
        · simp only [Act.put, List.setIfInBounds_toArray, List.set_cons_zero, List.set_cons_succ, i64_w, i32_w]
          rfl
        refine take_ (i := 7) (N := some 39) (v := ?_) (a' := ?_) #[true, true, true, true, true, true, true, true, false, false] rfl rfl (by kernel_rfl) (fun _ _ _ h => h) (Or.inl ⟨by rfl, ?_⟩) hHeld ?_ ?_
        rotate_left
        · rintro w' ⟨s0, s1⟩
          go_simp
          with_reducible rfl
        rotate_left
        · simp only [Act.put, List.setIfInBounds_toArray, List.set_cons_zero, List.set_cons_succ, i64_w, i32_w]
          rfl
        refine pure_ (i := 8) (N := some 4) (v := ?_) (a' := ?_) #[true, true, true, true, true, true, true, true, true, false] rfl rfl (by kernel_rfl) (fun _ _ _ h => h) (Or.inl ⟨by rfl, ?_⟩) ?_ ?_
        rotate_left
        · intro w'
          go_simp
          with_reducible rfl
        rotate_left
        · simp only [Act.put, List.setIfInBounds_toArray, List.set_cons_zero, List.set_cons_succ, i64_w, i32_w]
          rfl
        refine pure_ (i := 9) (N := some 5) (v := ?_) (a' := ?_) #[true, true, true, true, true, true, true, true, true, true] rfl rfl (by kernel_rfl) (fun _ _ _ h => h) (Or.inl ⟨by rfl, ?_⟩) ?_ ?_
        rotate_left
        · intro w'
          go_simp
          with_reducible rfl
        rotate_left
        · simp only [Act.put, List.setIfInBounds_toArray, List.set_cons_zero, List.set_cons_succ, i64_w, i32_w]
          rfl
        refine done_ (by kernel_rfl) ?_
        go_wp2
        go_ret2
        rw [← HE.out]
        exact ⟨_, _, by first | rfl | simp [*], Kd.R_mono HW.out.2.2.1 (fun _ hk => hk.1), Kd.R_mono HW.out.2.2.2.1 (fun _ hk => hk.1), HB.out⟩
set_option maxHeartbeats 16000000 in
set_option maxRecDepth 100000 in
theorem explicit_Levels.high (k : Nat) (A0 : Option Addr) (c0 : Nat) (l0 : List Int) (a1 : Int) (M : List Int) (sF : explicit_Levels.Ex) (w : World) (hr0 : Kd.C (Kd.int .i64) w A0 l0.length l0) (hc0 : l0.length ≤ c0) (hM : para_Matches.f k l0 = some M) (hsz : l0.length ≤ 17592186043000) (hgo : explicit_Levels.go k l0 M 1 l0.length (explicit_Levels.s0 1) = some sF) (h1 : 1 < a1) :
    Calls Try.prog 21 #[.slice A0 l0.length c0, .int .i64 a1] w fun e w' => ∃ v0_ v1_ : Value, e = .returned (.tuple #[v0_, v1_]) ∧ Kd.R (Kd.int .i64) 3 w' w.heap.size (fun k_ => some k_ ≠ (v1_ : Value).ownBlock) v0_ sF.L ∧ Kd.R (Kd.int .i64) 3 w' w.heap.size (fun k_ => some k_ ≠ (v0_ : Value).ownBlock) v1_ sF.T ∧ Below w.heap.size w w' := by
    have h2 : ¬ a1 < 0 := by omega
    have HM := Aside0.mk hM
    have HGO := Aside0.mk hgo
    have HSZ := Aside0.mk hsz
    have HC := Aside0.mk hr0
    have HCC := Aside0.mk hc0
    have hk := Try.underlying67
    clear hM hgo hsz hr0 hc0
    go_enter Try.func21, Try.ntmps21
    go_wp2_with (first | (go_at_call 44; (with_reducible refine (p_new 1 w).mono ?_); rintro e w1 ⟨g, v, rfl, hS, hg, hb⟩; have HS1 := Aside0.mk hS; have HB1 := Aside0.mk hb; clear hS hg hb) | ((with_reducible refine gate_dst (N := 17) rfl ?_); refine box_event ?hg (N := 17) ?hd (cs := #[.pointer (some ⟨g, 0, none⟩), .slice A0 l0.length c0, .slice none 0 0, .int .i64 1, .slice none 0 0, .slice none 0 0]) (t := 67) ?hr ?_; (case hd => rfl); (case hg => rfl); (case hr => first | (go_simp; done) | (go_simp; rfl)); intro gw hg w2 hbox hb; have BX := Aside0.mk hbox; have HB2 := Aside0.mk (below_step HB1.out hb); have HS2 := Aside0.mk (show StkP w2 w.heap.size g v 0 0 0 [newE 1] from stk_below HS1.out hb); have HGW := Aside0.mk (show w.heap.size ≤ gw by have := HB1.out.size; omega); clear hg hbox hb) | (go_at_call 45; (with_reducible refine (para_Matches.calls k A0 c0 l0 M _ (Kd.C_below HC.out HB2.out) HCC.out HM.out).mono ?_); rintro e w3 ⟨vm, rfl, hR, hb⟩; have HR3 := Aside0.mk hR; have BX3 := Aside0.mk (blk_below BX.out hb); have HS3 := Aside0.mk (show StkP w3 w.heap.size g v 0 0 0 [newE 1] from stk_below HS2.out hb); have HB3 := Aside0.mk (below_step HB2.out hb); have HLT3 := Aside0.mk (show gw < w2.heap.size ∧ w.heap.size ≤ w2.heap.size from ⟨blk_lt BX.out, HB2.out.size⟩); clear hR hb; obtain ⟨Am, cm, em⟩ := Kd.R_slice HR3.out; generalize hnm : M.length = nm at em; clear hnm; subst em; have hc2 := (blk_cell BX3.out 2).trans rfl; have hf2 := blk_frozen BX3.out 2) | ((with_reducible refine gate_store (t := 22) (p := 22) rfl ?_); refine store_event (t := 22) (p := 22) (v := .tmp 20) (w1 := w3.setCell ⟨gw, 2, none⟩ (.slice Am nm cm)) ?hg ?ho ?hn ?hr ?_; (case ho => rfl); (case hg => rfl); (case hn => rfl); (case hr => first | (go_simp; done) | (go_simp; rfl)); intro w4 hw; have HW4 := Aside0.mk (show WkC w4 w.heap.size gw g A0 l0.length c0 (.slice Am nm cm) 1 v 0 0 0 [newE 1] (.slice none 0 0) (.slice none 0 0) (.slice none 0 0) (.slice none 0 0) [] [] M by rw [hw]; exact wk_start BX3.out HS3.out (Kd.R_lower HR3.out HLT3.out.2) HGW.out); have HB4 := Aside0.mk (show Below w.heap.size w w4 by rw [hw]; exact below_set HB3.out HGW.out); clear hw hc2 hf2 BX3 HS3 HR3 HB3 HS2 HB2 BX HS1 HB1))
    go_loopg [25] l0.length (fun kq v25 w' => ∃ (i : Nat) (s : explicit_Levels.Ex) (v vl vt : Value), v25 = .int .i64 (i : Int) ∧ Aside0 (i ≤ l0.length ∧ l0.length - i = kq ∧ s.L.length = i ∧ s.T.length = i) ∧ Aside0 (WkC w' w.heap.size gw g A0 l0.length c0 (.slice Am nm cm) 1 v s.a s.b s.c s.l vl vt vl vt s.L s.T M) ∧ Aside0 (Stk.Good s.l) ∧ Aside0 (Below w.heap.size w w') ∧ Aside0 (explicit_Levels.go k l0 M 1 (l0.length - i) s = some sF))
    case atStart => exact ⟨0, explicit_Levels.s0 1, v, _, _, rfl, ⟨Nat.zero_le _, rfl, rfl, rfl⟩, HW4, ⟨Stk.Good.new _⟩, HB4, HGO⟩
    case round =>
      clear HW4 HB4 HGO
      obtain ⟨i, s, v, vl, vt, rfl, HI, HW, HGD, HB, HGO⟩ := hrel
      by_cases hlt : i < l0.length
      · have b0 : decide ((i : Int) < (l0.length : Int)) = true := decide_eq_true (by omega)
        have b1 : decide (i < l0.length) = true := decide_eq_true hlt
        have hw := (show wrap64 ((i : Int) + 1) = ((i + 1 : Nat) : Int) by have := HSZ.out; unfold wrap64; omega)
        obtain ⟨n, hn⟩ : ∃ n, l0.length - i = n + 1 := ⟨l0.length - i - 1, by omega⟩
        have hgo := HGO.out
        rw [hn, explicit_Levels.go, show l0.length - (n + 1) = i by omega] at hgo
        obtain ⟨s', hs', hgo'⟩ := Option.bind_eq_some_iff.mp hgo
        rw [show n = l0.length - (i + 1) by omega] at hgo'
        obtain ⟨hg', hL', hT'⟩ := explicit_Levels.step_good HGD.out hs'
        have hli := HI.out.2.2.1
        have hti := HI.out.2.2.2
        have HST := Aside0.mk (by
          have h1 := explicit_Levels.stepc k HW.out (by have := HSZ.out; omega) HGD.out (Kd.C_below HC.out HB.out) HCC.out (by omega) (by rw [hli]; exact hs')
          rw [hli] at h1
          exact h1 : Calls Try.prog 46 #[.pointer (some ⟨gw, 0, none⟩), .int .i64 (i : Int)] wr (WkR w.heap.size gw g A0 l0.length c0 (.slice Am nm cm) 1 s'.a s'.b s'.c s'.l s'.L s'.T M wr))
        have HG' := Aside0.mk hg'
        have HLT' := Aside0.mk (show i < l0.length ∧ s'.L.length = i + 1 ∧ s'.T.length = i + 1 from ⟨hlt, by omega, by omega⟩)
        have HGO' := Aside0.mk hgo'
        clear hlt hn hgo hs' hgo' hg' hL' hT' hli hti HGO
        go_wp2_with (first | (go_at_call 46; (with_reducible refine (HST.out).mono ?_); rintro e w5 ⟨v5, vl5, vt5, rfl, hk5, hb5⟩; have HK5 := Aside0.mk hk5; have HB5 := Aside0.mk (HB.out.trans hb5); clear hk5 hb5))
        go_roundg (l0.length - (i + 1))
        case measure => have := HI.out; have := HLT'.out; omega
        case rel => exact ⟨i + 1, s', v5, vl5, vt5, by first | rfl | go_num | rw [hw], ⟨by have := HLT'.out; omega, rfl, HLT'.out.2.1, HLT'.out.2.2⟩, HK5, HG', HB5, HGO'⟩
      · have b0 : decide ((i : Int) < (l0.length : Int)) = false := decide_eq_false (by omega)
        have b1 : decide (i < l0.length) = false := decide_eq_false hlt
        have hgo := HGO.out
        rw [show l0.length - i = 0 by omega, explicit_Levels.go] at hgo
        have HE := Aside0.mk (Option.some.inj hgo)
        clear hlt hgo HGO
        go_wp2
        have HWD := Aside0.mk (wk_below HW.out (below_drew (Below.refl _ _)))
        have HBD := Aside0.mk (below_drew1 HB.out)
        clear HW HB
        have HW := HWD
        have HB := HBD
        clear HWD HBD
        refine start_ (n := 10) (S := fun w' => w'.cell? ⟨gw, 4, none⟩ = some vl ∧ w'.cell? ⟨gw, 5, none⟩ = some vt) (ds := []) #[false, false, false, false, false, false, false, false, false, false] (by kernel_rfl) rfl rfl ⟨(blk_cell HW.out.1 4).trans rfl, (blk_cell HW.out.1 5).trans rfl⟩ (fun hHeld => ?_)
        refine pure_ (i := 0) (N := some 32) (v := ?_) (a' := ?_) #[true, false, false, false, false, false, false, false, false, false] rfl rfl (by kernel_rfl) (fun _ _ _ h => h) (Or.inl ⟨by rfl, ?_⟩) ?_ ?_
        rotate_left
        · intro w'
          go_simp
          with_reducible rfl
        rotate_left
        · simp only [Act.put, List.setIfInBounds_toArray, List.set_cons_zero, List.set_cons_succ, i64_w, i32_w]
          rfl
        refine pure_ (i := 1) (N := some 33) (v := ?_) (a' := ?_) #[true, true, false, false, false, false, false, false, false, false] rfl rfl (by kernel_rfl) (fun _ _ _ h => h) (Or.inl ⟨by rfl, ?_⟩) ?_ ?_
        rotate_left
        · intro w'
          go_simp
          with_reducible rfl
        rotate_left
        · simp only [Act.put, List.setIfInBounds_toArray, List.set_cons_zero, List.set_cons_succ, i64_w, i32_w]
          rfl
        refine pure_ (i := 2) (N := some 34) (v := ?_) (a' := ?_) #[true, true, true, false, false, false, false, false, false, false] rfl rfl (by kernel_rfl) (fun _ _ _ h => h) (Or.inl ⟨by rfl, ?_⟩) ?_ ?_
        rotate_left
        · intro w'
          go_simp
          with_reducible rfl
        rotate_left
        · simp only [Act.put, List.setIfInBounds_toArray, List.set_cons_zero, List.set_cons_succ, i64_w, i32_w]
          rfl
        refine take_ (i := 3) (N := some 35) (v := ?_) (a' := ?_) #[true, true, true, true, false, false, false, false, false, false] rfl rfl (by kernel_rfl) (fun _ _ _ h => h) (Or.inl ⟨by rfl, ?_⟩) hHeld ?_ ?_
        rotate_left
        · rintro w' ⟨s0, s1⟩
          go_simp
          with_reducible rfl
        rotate_left
        · simp only [Act.put, List.setIfInBounds_toArray, List.set_cons_zero, List.set_cons_succ, i64_w, i32_w]
          rfl
        refine pure_ (i := 4) (N := some 36) (v := ?_) (a' := ?_) #[true, true, true, true, true, false, false, false, false, false] rfl rfl (by kernel_rfl) (fun _ _ _ h => h) (Or.inl ⟨by rfl, ?_⟩) ?_ ?_
        rotate_left
        · intro w'
          go_simp
          with_reducible rfl
        rotate_left
        · simp only [Act.put, List.setIfInBounds_toArray, List.set_cons_zero, List.set_cons_succ, i64_w, i32_w]
          rfl
        refine pure_ (i := 5) (N := some 37) (v := ?_) (a' := ?_) #[true, true, true, true, true, true, false, false, false, false] rfl rfl (by kernel_rfl) (fun _ _ _ h => h) (Or.inl ⟨by rfl, ?_⟩) ?_ ?_
        rotate_left
        · intro w'
          go_simp
          with_reducible rfl
        rotate_left
        · simp only [Act.put, List.setIfInBounds_toArray, List.set_cons_zero, List.set_cons_succ, i64_w, i32_w]
          rfl
        refine pure_ (i := 6) (N := some 38) (v := ?_) (a' := ?_) #[true, true, true, true, true, true, true, false, false, false] rfl rfl (by kernel_rfl) (fun _ _ _ h => h) (Or.inl ⟨by rfl, ?_⟩) ?_ ?_
        rotate_left
        · intro w'
          go_simp
          with_reducible rfl
        rotate_left
        · simp only [Act.put, List.setIfInBounds_toArray, List.set_cons_zero, List.set_cons_succ, i64_w, i32_w]
          rfl
        refine take_ (i := 7) (N := some 39) (v := ?_) (a' := ?_) #[true, true, true, true, true, true, true, true, false, false] rfl rfl (by kernel_rfl) (fun _ _ _ h => h) (Or.inl ⟨by rfl, ?_⟩) hHeld ?_ ?_
        rotate_left
        · rintro w' ⟨s0, s1⟩
          go_simp
          with_reducible rfl
        rotate_left
        · simp only [Act.put, List.setIfInBounds_toArray, List.set_cons_zero, List.set_cons_succ, i64_w, i32_w]
          rfl
        refine pure_ (i := 8) (N := some 4) (v := ?_) (a' := ?_) #[true, true, true, true, true, true, true, true, true, false] rfl rfl (by kernel_rfl) (fun _ _ _ h => h) (Or.inl ⟨by rfl, ?_⟩) ?_ ?_
        rotate_left
        · intro w'
          go_simp
          with_reducible rfl
        rotate_left
        · simp only [Act.put, List.setIfInBounds_toArray, List.set_cons_zero, List.set_cons_succ, i64_w, i32_w]
          rfl
        refine pure_ (i := 9) (N := some 5) (v := ?_) (a' := ?_) #[true, true, true, true, true, true, true, true, true, true] rfl rfl (by kernel_rfl) (fun _ _ _ h => h) (Or.inl ⟨by rfl, ?_⟩) ?_ ?_
        rotate_left
        · intro w'
          go_simp
          with_reducible rfl
        rotate_left
        · simp only [Act.put, List.setIfInBounds_toArray, List.set_cons_zero, List.set_cons_succ, i64_w, i32_w]
          rfl
        refine done_ (by kernel_rfl) ?_
        go_wp2
        go_ret2
        rw [← HE.out]
        exact ⟨_, _, by first | rfl | simp [*], Kd.R_mono HW.out.2.2.1 (fun _ hk => hk.1), Kd.R_mono HW.out.2.2.2.1 (fun _ hk => hk.1), HB.out⟩
set_option maxHeartbeats 16000000 in
set_option maxRecDepth 100000 in
theorem explicit_Levels.zero (k : Nat) (A0 : Option Addr) (c0 : Nat) (l0 : List Int) (a1 : Int) (M : List Int) (sF : explicit_Levels.Ex) (w : World) (hr0 : Kd.C (Kd.int .i64) w A0 l0.length l0) (hc0 : l0.length ≤ c0) (hM : para_Matches.f k l0 = some M) (hsz : l0.length ≤ 17592186043000) (hgo : explicit_Levels.go k l0 M 0 l0.length (explicit_Levels.s0 0) = some sF) (h1 : a1 = 0) :
    Calls Try.prog 21 #[.slice A0 l0.length c0, .int .i64 a1] w fun e w' => ∃ v0_ v1_ : Value, e = .returned (.tuple #[v0_, v1_]) ∧ Kd.R (Kd.int .i64) 3 w' w.heap.size (fun k_ => some k_ ≠ (v1_ : Value).ownBlock) v0_ sF.L ∧ Kd.R (Kd.int .i64) 3 w' w.heap.size (fun k_ => some k_ ≠ (v0_ : Value).ownBlock) v1_ sF.T ∧ Below w.heap.size w w' := by
    subst h1
    have HM := Aside0.mk hM
    have HGO := Aside0.mk hgo
    have HSZ := Aside0.mk hsz
    have HC := Aside0.mk hr0
    have HCC := Aside0.mk hc0
    have hk := Try.underlying67
    clear hM hgo hsz hr0 hc0
    go_enter Try.func21, Try.ntmps21
    go_wp2_with (first | (go_at_call 44; (with_reducible refine (p_new 0 w).mono ?_); rintro e w1 ⟨g, v, rfl, hS, hg, hb⟩; have HS1 := Aside0.mk hS; have HB1 := Aside0.mk hb; clear hS hg hb) | ((with_reducible refine gate_dst (N := 17) rfl ?_); refine box_event ?hg (N := 17) ?hd (cs := #[.pointer (some ⟨g, 0, none⟩), .slice A0 l0.length c0, .slice none 0 0, .int .i64 0, .slice none 0 0, .slice none 0 0]) (t := 67) ?hr ?_; (case hd => rfl); (case hg => rfl); (case hr => first | (go_simp; done) | (go_simp; rfl)); intro gw hg w2 hbox hb; have BX := Aside0.mk hbox; have HB2 := Aside0.mk (below_step HB1.out hb); have HS2 := Aside0.mk (show StkP w2 w.heap.size g v 0 0 0 [newE 0] from stk_below HS1.out hb); have HGW := Aside0.mk (show w.heap.size ≤ gw by have := HB1.out.size; omega); clear hg hbox hb) | (go_at_call 45; (with_reducible refine (para_Matches.calls k A0 c0 l0 M _ (Kd.C_below HC.out HB2.out) HCC.out HM.out).mono ?_); rintro e w3 ⟨vm, rfl, hR, hb⟩; have HR3 := Aside0.mk hR; have BX3 := Aside0.mk (blk_below BX.out hb); have HS3 := Aside0.mk (show StkP w3 w.heap.size g v 0 0 0 [newE 0] from stk_below HS2.out hb); have HB3 := Aside0.mk (below_step HB2.out hb); have HLT3 := Aside0.mk (show gw < w2.heap.size ∧ w.heap.size ≤ w2.heap.size from ⟨blk_lt BX.out, HB2.out.size⟩); clear hR hb; obtain ⟨Am, cm, em⟩ := Kd.R_slice HR3.out; generalize hnm : M.length = nm at em; clear hnm; subst em; have hc2 := (blk_cell BX3.out 2).trans rfl; have hf2 := blk_frozen BX3.out 2) | ((with_reducible refine gate_store (t := 22) (p := 22) rfl ?_); refine store_event (t := 22) (p := 22) (v := .tmp 20) (w1 := w3.setCell ⟨gw, 2, none⟩ (.slice Am nm cm)) ?hg ?ho ?hn ?hr ?_; (case ho => rfl); (case hg => rfl); (case hn => rfl); (case hr => first | (go_simp; done) | (go_simp; rfl)); intro w4 hw; have HW4 := Aside0.mk (show WkC w4 w.heap.size gw g A0 l0.length c0 (.slice Am nm cm) 0 v 0 0 0 [newE 0] (.slice none 0 0) (.slice none 0 0) (.slice none 0 0) (.slice none 0 0) [] [] M by rw [hw]; exact wk_start BX3.out HS3.out (Kd.R_lower HR3.out HLT3.out.2) HGW.out); have HB4 := Aside0.mk (show Below w.heap.size w w4 by rw [hw]; exact below_set HB3.out HGW.out); clear hw hc2 hf2 BX3 HS3 HR3 HB3 HS2 HB2 BX HS1 HB1))
    go_loopg [25] l0.length (fun kq v25 w' => ∃ (i : Nat) (s : explicit_Levels.Ex) (v vl vt : Value), v25 = .int .i64 (i : Int) ∧ Aside0 (i ≤ l0.length ∧ l0.length - i = kq ∧ s.L.length = i ∧ s.T.length = i) ∧ Aside0 (WkC w' w.heap.size gw g A0 l0.length c0 (.slice Am nm cm) 0 v s.a s.b s.c s.l vl vt vl vt s.L s.T M) ∧ Aside0 (Stk.Good s.l) ∧ Aside0 (Below w.heap.size w w') ∧ Aside0 (explicit_Levels.go k l0 M 0 (l0.length - i) s = some sF))
    case atStart => exact ⟨0, explicit_Levels.s0 0, v, _, _, rfl, ⟨Nat.zero_le _, rfl, rfl, rfl⟩, HW4, ⟨Stk.Good.new _⟩, HB4, HGO⟩
    case round =>
      clear HW4 HB4 HGO
      obtain ⟨i, s, v, vl, vt, rfl, HI, HW, HGD, HB, HGO⟩ := hrel
      by_cases hlt : i < l0.length
      · have b0 : decide ((i : Int) < (l0.length : Int)) = true := decide_eq_true (by omega)
        have b1 : decide (i < l0.length) = true := decide_eq_true hlt
        have hw := (show wrap64 ((i : Int) + 1) = ((i + 1 : Nat) : Int) by have := HSZ.out; unfold wrap64; omega)
        obtain ⟨n, hn⟩ : ∃ n, l0.length - i = n + 1 := ⟨l0.length - i - 1, by omega⟩
        have hgo := HGO.out
        rw [hn, explicit_Levels.go, show l0.length - (n + 1) = i by omega] at hgo
        obtain ⟨s', hs', hgo'⟩ := Option.bind_eq_some_iff.mp hgo
        rw [show n = l0.length - (i + 1) by omega] at hgo'
        obtain ⟨hg', hL', hT'⟩ := explicit_Levels.step_good HGD.out hs'
        have hli := HI.out.2.2.1
        have hti := HI.out.2.2.2
        have HST := Aside0.mk (by
          have h1 := explicit_Levels.stepc k HW.out (by have := HSZ.out; omega) HGD.out (Kd.C_below HC.out HB.out) HCC.out (by omega) (by rw [hli]; exact hs')
          rw [hli] at h1
          exact h1 : Calls Try.prog 46 #[.pointer (some ⟨gw, 0, none⟩), .int .i64 (i : Int)] wr (WkR w.heap.size gw g A0 l0.length c0 (.slice Am nm cm) 0 s'.a s'.b s'.c s'.l s'.L s'.T M wr))
        have HG' := Aside0.mk hg'
        have HLT' := Aside0.mk (show i < l0.length ∧ s'.L.length = i + 1 ∧ s'.T.length = i + 1 from ⟨hlt, by omega, by omega⟩)
        have HGO' := Aside0.mk hgo'
        clear hlt hn hgo hs' hgo' hg' hL' hT' hli hti HGO
        go_wp2_with (first | (go_at_call 46; (with_reducible refine (HST.out).mono ?_); rintro e w5 ⟨v5, vl5, vt5, rfl, hk5, hb5⟩; have HK5 := Aside0.mk hk5; have HB5 := Aside0.mk (HB.out.trans hb5); clear hk5 hb5))
        go_roundg (l0.length - (i + 1))
        case measure => have := HI.out; have := HLT'.out; omega
        case rel => exact ⟨i + 1, s', v5, vl5, vt5, by first | rfl | go_num | rw [hw], ⟨by have := HLT'.out; omega, rfl, HLT'.out.2.1, HLT'.out.2.2⟩, HK5, HG', HB5, HGO'⟩
      · have b0 : decide ((i : Int) < (l0.length : Int)) = false := decide_eq_false (by omega)
        have b1 : decide (i < l0.length) = false := decide_eq_false hlt
        have hgo := HGO.out
        rw [show l0.length - i = 0 by omega, explicit_Levels.go] at hgo
        have HE := Aside0.mk (Option.some.inj hgo)
        clear hlt hgo HGO
        go_wp2
        have HWD := Aside0.mk (wk_below HW.out (below_drew (Below.refl _ _)))
        have HBD := Aside0.mk (below_drew1 HB.out)
        clear HW HB
        have HW := HWD
        have HB := HBD
        clear HWD HBD
        refine start_ (n := 10) (S := fun w' => w'.cell? ⟨gw, 4, none⟩ = some vl ∧ w'.cell? ⟨gw, 5, none⟩ = some vt) (ds := []) #[false, false, false, false, false, false, false, false, false, false] (by kernel_rfl) rfl rfl ⟨(blk_cell HW.out.1 4).trans rfl, (blk_cell HW.out.1 5).trans rfl⟩ (fun hHeld => ?_)
        refine pure_ (i := 0) (N := some 32) (v := ?_) (a' := ?_) #[true, false, false, false, false, false, false, false, false, false] rfl rfl (by kernel_rfl) (fun _ _ _ h => h) (Or.inl ⟨by rfl, ?_⟩) ?_ ?_
        rotate_left
        · intro w'
          go_simp
          with_reducible rfl
        rotate_left
        · simp only [Act.put, List.setIfInBounds_toArray, List.set_cons_zero, List.set_cons_succ, i64_w, i32_w]
          rfl
        refine pure_ (i := 1) (N := some 33) (v := ?_) (a' := ?_) #[true, true, false, false, false, false, false, false, false, false] rfl rfl (by kernel_rfl) (fun _ _ _ h => h) (Or.inl ⟨by rfl, ?_⟩) ?_ ?_
        rotate_left
        · intro w'
          go_simp
          with_reducible rfl
        rotate_left
        · simp only [Act.put, List.setIfInBounds_toArray, List.set_cons_zero, List.set_cons_succ, i64_w, i32_w]
          rfl
        refine pure_ (i := 2) (N := some 34) (v := ?_) (a' := ?_) #[true, true, true, false, false, false, false, false, false, false] rfl rfl (by kernel_rfl) (fun _ _ _ h => h) (Or.inl ⟨by rfl, ?_⟩) ?_ ?_
        rotate_left
        · intro w'
          go_simp
          with_reducible rfl
        rotate_left
        · simp only [Act.put, List.setIfInBounds_toArray, List.set_cons_zero, List.set_cons_succ, i64_w, i32_w]
          rfl
        refine take_ (i := 3) (N := some 35) (v := ?_) (a' := ?_) #[true, true, true, true, false, false, false, false, false, false] rfl rfl (by kernel_rfl) (fun _ _ _ h => h) (Or.inl ⟨by rfl, ?_⟩) hHeld ?_ ?_
        rotate_left
        · rintro w' ⟨s0, s1⟩
          go_simp
          with_reducible rfl
        rotate_left
        · simp only [Act.put, List.setIfInBounds_toArray, List.set_cons_zero, List.set_cons_succ, i64_w, i32_w]
          rfl
        refine pure_ (i := 4) (N := some 36) (v := ?_) (a' := ?_) #[true, true, true, true, true, false, false, false, false, false] rfl rfl (by kernel_rfl) (fun _ _ _ h => h) (Or.inl ⟨by rfl, ?_⟩) ?_ ?_
        rotate_left
        · intro w'
          go_simp
          with_reducible rfl
        rotate_left
        · simp only [Act.put, List.setIfInBounds_toArray, List.set_cons_zero, List.set_cons_succ, i64_w, i32_w]
          rfl
        refine pure_ (i := 5) (N := some 37) (v := ?_) (a' := ?_) #[true, true, true, true, true, true, false, false, false, false] rfl rfl (by kernel_rfl) (fun _ _ _ h => h) (Or.inl ⟨by rfl, ?_⟩) ?_ ?_
        rotate_left
        · intro w'
          go_simp
          with_reducible rfl
        rotate_left
        · simp only [Act.put, List.setIfInBounds_toArray, List.set_cons_zero, List.set_cons_succ, i64_w, i32_w]
          rfl
        refine pure_ (i := 6) (N := some 38) (v := ?_) (a' := ?_) #[true, true, true, true, true, true, true, false, false, false] rfl rfl (by kernel_rfl) (fun _ _ _ h => h) (Or.inl ⟨by rfl, ?_⟩) ?_ ?_
        rotate_left
        · intro w'
          go_simp
          with_reducible rfl
        rotate_left
        · simp only [Act.put, List.setIfInBounds_toArray, List.set_cons_zero, List.set_cons_succ, i64_w, i32_w]
          rfl
        refine take_ (i := 7) (N := some 39) (v := ?_) (a' := ?_) #[true, true, true, true, true, true, true, true, false, false] rfl rfl (by kernel_rfl) (fun _ _ _ h => h) (Or.inl ⟨by rfl, ?_⟩) hHeld ?_ ?_
        rotate_left
        · rintro w' ⟨s0, s1⟩
          go_simp
          with_reducible rfl
        rotate_left
        · simp only [Act.put, List.setIfInBounds_toArray, List.set_cons_zero, List.set_cons_succ, i64_w, i32_w]
          rfl
        refine pure_ (i := 8) (N := some 4) (v := ?_) (a' := ?_) #[true, true, true, true, true, true, true, true, true, false] rfl rfl (by kernel_rfl) (fun _ _ _ h => h) (Or.inl ⟨by rfl, ?_⟩) ?_ ?_
        rotate_left
        · intro w'
          go_simp
          with_reducible rfl
        rotate_left
        · simp only [Act.put, List.setIfInBounds_toArray, List.set_cons_zero, List.set_cons_succ, i64_w, i32_w]
          rfl
        refine pure_ (i := 9) (N := some 5) (v := ?_) (a' := ?_) #[true, true, true, true, true, true, true, true, true, true] rfl rfl (by kernel_rfl) (fun _ _ _ h => h) (Or.inl ⟨by rfl, ?_⟩) ?_ ?_
        rotate_left
        · intro w'
          go_simp
          with_reducible rfl
        rotate_left
        · simp only [Act.put, List.setIfInBounds_toArray, List.set_cons_zero, List.set_cons_succ, i64_w, i32_w]
          rfl
        refine done_ (by kernel_rfl) ?_
        go_wp2
        go_ret2
        rw [← HE.out]
        exact ⟨_, _, by first | rfl | simp [*], Kd.R_mono HW.out.2.2.1 (fun _ hk => hk.1), Kd.R_mono HW.out.2.2.2.1 (fun _ hk => hk.1), HB.out⟩
set_option maxHeartbeats 16000000 in
set_option maxRecDepth 100000 in
theorem explicit_Levels.one (k : Nat) (A0 : Option Addr) (c0 : Nat) (l0 : List Int) (a1 : Int) (M : List Int) (sF : explicit_Levels.Ex) (w : World) (hr0 : Kd.C (Kd.int .i64) w A0 l0.length l0) (hc0 : l0.length ≤ c0) (hM : para_Matches.f k l0 = some M) (hsz : l0.length ≤ 17592186043000) (hgo : explicit_Levels.go k l0 M 1 l0.length (explicit_Levels.s0 1) = some sF) (h1 : a1 = 1) :
    Calls Try.prog 21 #[.slice A0 l0.length c0, .int .i64 a1] w fun e w' => ∃ v0_ v1_ : Value, e = .returned (.tuple #[v0_, v1_]) ∧ Kd.R (Kd.int .i64) 3 w' w.heap.size (fun k_ => some k_ ≠ (v1_ : Value).ownBlock) v0_ sF.L ∧ Kd.R (Kd.int .i64) 3 w' w.heap.size (fun k_ => some k_ ≠ (v0_ : Value).ownBlock) v1_ sF.T ∧ Below w.heap.size w w' := by
    subst h1
    have HM := Aside0.mk hM
    have HGO := Aside0.mk hgo
    have HSZ := Aside0.mk hsz
    have HC := Aside0.mk hr0
    have HCC := Aside0.mk hc0
    have hk := Try.underlying67
    clear hM hgo hsz hr0 hc0
    go_enter Try.func21, Try.ntmps21
    go_wp2_with (first | (go_at_call 44; (with_reducible refine (p_new 1 w).mono ?_); rintro e w1 ⟨g, v, rfl, hS, hg, hb⟩; have HS1 := Aside0.mk hS; have HB1 := Aside0.mk hb; clear hS hg hb) | ((with_reducible refine gate_dst (N := 17) rfl ?_); refine box_event ?hg (N := 17) ?hd (cs := #[.pointer (some ⟨g, 0, none⟩), .slice A0 l0.length c0, .slice none 0 0, .int .i64 1, .slice none 0 0, .slice none 0 0]) (t := 67) ?hr ?_; (case hd => rfl); (case hg => rfl); (case hr => first | (go_simp; done) | (go_simp; rfl)); intro gw hg w2 hbox hb; have BX := Aside0.mk hbox; have HB2 := Aside0.mk (below_step HB1.out hb); have HS2 := Aside0.mk (show StkP w2 w.heap.size g v 0 0 0 [newE 1] from stk_below HS1.out hb); have HGW := Aside0.mk (show w.heap.size ≤ gw by have := HB1.out.size; omega); clear hg hbox hb) | (go_at_call 45; (with_reducible refine (para_Matches.calls k A0 c0 l0 M _ (Kd.C_below HC.out HB2.out) HCC.out HM.out).mono ?_); rintro e w3 ⟨vm, rfl, hR, hb⟩; have HR3 := Aside0.mk hR; have BX3 := Aside0.mk (blk_below BX.out hb); have HS3 := Aside0.mk (show StkP w3 w.heap.size g v 0 0 0 [newE 1] from stk_below HS2.out hb); have HB3 := Aside0.mk (below_step HB2.out hb); have HLT3 := Aside0.mk (show gw < w2.heap.size ∧ w.heap.size ≤ w2.heap.size from ⟨blk_lt BX.out, HB2.out.size⟩); clear hR hb; obtain ⟨Am, cm, em⟩ := Kd.R_slice HR3.out; generalize hnm : M.length = nm at em; clear hnm; subst em; have hc2 := (blk_cell BX3.out 2).trans rfl; have hf2 := blk_frozen BX3.out 2) | ((with_reducible refine gate_store (t := 22) (p := 22) rfl ?_); refine store_event (t := 22) (p := 22) (v := .tmp 20) (w1 := w3.setCell ⟨gw, 2, none⟩ (.slice Am nm cm)) ?hg ?ho ?hn ?hr ?_; (case ho => rfl); (case hg => rfl); (case hn => rfl); (case hr => first | (go_simp; done) | (go_simp; rfl)); intro w4 hw; have HW4 := Aside0.mk (show WkC w4 w.heap.size gw g A0 l0.length c0 (.slice Am nm cm) 1 v 0 0 0 [newE 1] (.slice none 0 0) (.slice none 0 0) (.slice none 0 0) (.slice none 0 0) [] [] M by rw [hw]; exact wk_start BX3.out HS3.out (Kd.R_lower HR3.out HLT3.out.2) HGW.out); have HB4 := Aside0.mk (show Below w.heap.size w w4 by rw [hw]; exact below_set HB3.out HGW.out); clear hw hc2 hf2 BX3 HS3 HR3 HB3 HS2 HB2 BX HS1 HB1))
    go_loopg [25] l0.length (fun kq v25 w' => ∃ (i : Nat) (s : explicit_Levels.Ex) (v vl vt : Value), v25 = .int .i64 (i : Int) ∧ Aside0 (i ≤ l0.length ∧ l0.length - i = kq ∧ s.L.length = i ∧ s.T.length = i) ∧ Aside0 (WkC w' w.heap.size gw g A0 l0.length c0 (.slice Am nm cm) 1 v s.a s.b s.c s.l vl vt vl vt s.L s.T M) ∧ Aside0 (Stk.Good s.l) ∧ Aside0 (Below w.heap.size w w') ∧ Aside0 (explicit_Levels.go k l0 M 1 (l0.length - i) s = some sF))
    case atStart => exact ⟨0, explicit_Levels.s0 1, v, _, _, rfl, ⟨Nat.zero_le _, rfl, rfl, rfl⟩, HW4, ⟨Stk.Good.new _⟩, HB4, HGO⟩
    case round =>
      clear HW4 HB4 HGO
      obtain ⟨i, s, v, vl, vt, rfl, HI, HW, HGD, HB, HGO⟩ := hrel
      by_cases hlt : i < l0.length
      · have b0 : decide ((i : Int) < (l0.length : Int)) = true := decide_eq_true (by omega)
        have b1 : decide (i < l0.length) = true := decide_eq_true hlt
        have hw := (show wrap64 ((i : Int) + 1) = ((i + 1 : Nat) : Int) by have := HSZ.out; unfold wrap64; omega)
        obtain ⟨n, hn⟩ : ∃ n, l0.length - i = n + 1 := ⟨l0.length - i - 1, by omega⟩
        have hgo := HGO.out
        rw [hn, explicit_Levels.go, show l0.length - (n + 1) = i by omega] at hgo
        obtain ⟨s', hs', hgo'⟩ := Option.bind_eq_some_iff.mp hgo
        rw [show n = l0.length - (i + 1) by omega] at hgo'
        obtain ⟨hg', hL', hT'⟩ := explicit_Levels.step_good HGD.out hs'
        have hli := HI.out.2.2.1
        have hti := HI.out.2.2.2
        have HST := Aside0.mk (by
          have h1 := explicit_Levels.stepc k HW.out (by have := HSZ.out; omega) HGD.out (Kd.C_below HC.out HB.out) HCC.out (by omega) (by rw [hli]; exact hs')
          rw [hli] at h1
          exact h1 : Calls Try.prog 46 #[.pointer (some ⟨gw, 0, none⟩), .int .i64 (i : Int)] wr (WkR w.heap.size gw g A0 l0.length c0 (.slice Am nm cm) 1 s'.a s'.b s'.c s'.l s'.L s'.T M wr))
        have HG' := Aside0.mk hg'
        have HLT' := Aside0.mk (show i < l0.length ∧ s'.L.length = i + 1 ∧ s'.T.length = i + 1 from ⟨hlt, by omega, by omega⟩)
        have HGO' := Aside0.mk hgo'
        clear hlt hn hgo hs' hgo' hg' hL' hT' hli hti HGO
        go_wp2_with (first | (go_at_call 46; (with_reducible refine (HST.out).mono ?_); rintro e w5 ⟨v5, vl5, vt5, rfl, hk5, hb5⟩; have HK5 := Aside0.mk hk5; have HB5 := Aside0.mk (HB.out.trans hb5); clear hk5 hb5))
        go_roundg (l0.length - (i + 1))
        case measure => have := HI.out; have := HLT'.out; omega
        case rel => exact ⟨i + 1, s', v5, vl5, vt5, by first | rfl | go_num | rw [hw], ⟨by have := HLT'.out; omega, rfl, HLT'.out.2.1, HLT'.out.2.2⟩, HK5, HG', HB5, HGO'⟩
      · have b0 : decide ((i : Int) < (l0.length : Int)) = false := decide_eq_false (by omega)
        have b1 : decide (i < l0.length) = false := decide_eq_false hlt
        have hgo := HGO.out
        rw [show l0.length - i = 0 by omega, explicit_Levels.go] at hgo
        have HE := Aside0.mk (Option.some.inj hgo)
        clear hlt hgo HGO
        go_wp2
        have HWD := Aside0.mk (wk_below HW.out (below_drew (Below.refl _ _)))
        have HBD := Aside0.mk (below_drew1 HB.out)
        clear HW HB
        have HW := HWD
        have HB := HBD
        clear HWD HBD
        refine start_ (n := 10) (S := fun w' => w'.cell? ⟨gw, 4, none⟩ = some vl ∧ w'.cell? ⟨gw, 5, none⟩ = some vt) (ds := []) #[false, false, false, false, false, false, false, false, false, false] (by kernel_rfl) rfl rfl ⟨(blk_cell HW.out.1 4).trans rfl, (blk_cell HW.out.1 5).trans rfl⟩ (fun hHeld => ?_)
        refine pure_ (i := 0) (N := some 32) (v := ?_) (a' := ?_) #[true, false, false, false, false, false, false, false, false, false] rfl rfl (by kernel_rfl) (fun _ _ _ h => h) (Or.inl ⟨by rfl, ?_⟩) ?_ ?_
        rotate_left
        · intro w'
          go_simp
          with_reducible rfl
        rotate_left
        · simp only [Act.put, List.setIfInBounds_toArray, List.set_cons_zero, List.set_cons_succ, i64_w, i32_w]
          rfl
        refine pure_ (i := 1) (N := some 33) (v := ?_) (a' := ?_) #[true, true, false, false, false, false, false, false, false, false] rfl rfl (by kernel_rfl) (fun _ _ _ h => h) (Or.inl ⟨by rfl, ?_⟩) ?_ ?_
        rotate_left
        · intro w'
          go_simp
          with_reducible rfl
        rotate_left
        · simp only [Act.put, List.setIfInBounds_toArray, List.set_cons_zero, List.set_cons_succ, i64_w, i32_w]
          rfl
        refine pure_ (i := 2) (N := some 34) (v := ?_) (a' := ?_) #[true, true, true, false, false, false, false, false, false, false] rfl rfl (by kernel_rfl) (fun _ _ _ h => h) (Or.inl ⟨by rfl, ?_⟩) ?_ ?_
        rotate_left
        · intro w'
          go_simp
          with_reducible rfl
        rotate_left
        · simp only [Act.put, List.setIfInBounds_toArray, List.set_cons_zero, List.set_cons_succ, i64_w, i32_w]
          rfl
        refine take_ (i := 3) (N := some 35) (v := ?_) (a' := ?_) #[true, true, true, true, false, false, false, false, false, false] rfl rfl (by kernel_rfl) (fun _ _ _ h => h) (Or.inl ⟨by rfl, ?_⟩) hHeld ?_ ?_
        rotate_left
        · rintro w' ⟨s0, s1⟩
          go_simp
          with_reducible rfl
        rotate_left
        · simp only [Act.put, List.setIfInBounds_toArray, List.set_cons_zero, List.set_cons_succ, i64_w, i32_w]
          rfl
        refine pure_ (i := 4) (N := some 36) (v := ?_) (a' := ?_) #[true, true, true, true, true, false, false, false, false, false] rfl rfl (by kernel_rfl) (fun _ _ _ h => h) (Or.inl ⟨by rfl, ?_⟩) ?_ ?_
        rotate_left
        · intro w'
          go_simp
          with_reducible rfl
        rotate_left
        · simp only [Act.put, List.setIfInBounds_toArray, List.set_cons_zero, List.set_cons_succ, i64_w, i32_w]
          rfl
        refine pure_ (i := 5) (N := some 37) (v := ?_) (a' := ?_) #[true, true, true, true, true, true, false, false, false, false] rfl rfl (by kernel_rfl) (fun _ _ _ h => h) (Or.inl ⟨by rfl, ?_⟩) ?_ ?_
        rotate_left
        · intro w'
          go_simp
          with_reducible rfl
        rotate_left
        · simp only [Act.put, List.setIfInBounds_toArray, List.set_cons_zero, List.set_cons_succ, i64_w, i32_w]
          rfl
        refine pure_ (i := 6) (N := some 38) (v := ?_) (a' := ?_) #[true, true, true, true, true, true, true, false, false, false] rfl rfl (by kernel_rfl) (fun _ _ _ h => h) (Or.inl ⟨by rfl, ?_⟩) ?_ ?_
        rotate_left
        · intro w'
          go_simp
          with_reducible rfl
        rotate_left
        · simp only [Act.put, List.setIfInBounds_toArray, List.set_cons_zero, List.set_cons_succ, i64_w, i32_w]
          rfl
        refine take_ (i := 7) (N := some 39) (v := ?_) (a' := ?_) #[true, true, true, true, true, true, true, true, false, false] rfl rfl (by kernel_rfl) (fun _ _ _ h => h) (Or.inl ⟨by rfl, ?_⟩) hHeld ?_ ?_
        rotate_left
        · rintro w' ⟨s0, s1⟩
          go_simp
          with_reducible rfl
        rotate_left
        · simp only [Act.put, List.setIfInBounds_toArray, List.set_cons_zero, List.set_cons_succ, i64_w, i32_w]
          rfl
        refine pure_ (i := 8) (N := some 4) (v := ?_) (a' := ?_) #[true, true, true, true, true, true, true, true, true, false] rfl rfl (by kernel_rfl) (fun _ _ _ h => h) (Or.inl ⟨by rfl, ?_⟩) ?_ ?_
        rotate_left
        · intro w'
          go_simp
          with_reducible rfl
        rotate_left
        · simp only [Act.put, List.setIfInBounds_toArray, List.set_cons_zero, List.set_cons_succ, i64_w, i32_w]
          rfl
        refine pure_ (i := 9) (N := some 5) (v := ?_) (a' := ?_) #[true, true, true, true, true, true, true, true, true, true] rfl rfl (by kernel_rfl) (fun _ _ _ h => h) (Or.inl ⟨by rfl, ?_⟩) ?_ ?_
        rotate_left
        · intro w'
          go_simp
          with_reducible rfl
        rotate_left
        · simp only [Act.put, List.setIfInBounds_toArray, List.set_cons_zero, List.set_cons_succ, i64_w, i32_w]
          rfl
        refine done_ (by kernel_rfl) ?_
        go_wp2
        go_ret2
        rw [← HE.out]
        exact ⟨_, _, by first | rfl | simp [*], Kd.R_mono HW.out.2.2.1 (fun _ hk => hk.1), Kd.R_mono HW.out.2.2.2.1 (fun _ hk => hk.1), HB.out⟩
set_option maxHeartbeats 16000000 in
set_option maxRecDepth 100000 in
theorem explicit_Levels.calls (k : Nat) (A0 : Option Addr) (c0 : Nat) (l0 : List Int) (a1 : Int) (r1 : List Int) (r2 : List Int) (w : World) (hr0 : Kd.C (Kd.int .i64) w A0 l0.length l0) (hc0 : l0.length ≤ c0) (h : explicit_Levels.f k l0 a1 = some (r1, r2)) :
    Calls Try.prog 21 #[.slice A0 l0.length c0, .int .i64 a1] w fun e w' => ∃ v0_ v1_ : Value, e = .returned (.tuple #[v0_, v1_]) ∧ Kd.R (Kd.int .i64) 3 w' w.heap.size (fun k_ => some k_ ≠ (v1_ : Value).ownBlock) v0_ r1 ∧ Kd.R (Kd.int .i64) 3 w' w.heap.size (fun k_ => some k_ ≠ (v0_ : Value).ownBlock) v1_ r2 ∧ Below w.heap.size w w' := by
  unfold explicit_Levels.f at h
  obtain ⟨M, hM, h⟩ := Option.bind_eq_some_iff.mp h
  by_cases hsz : l0.length ≤ 17592186043000
  · rw [if_pos hsz] at h
    obtain ⟨sF, hgo, hF⟩ := Option.bind_eq_some_iff.mp h
    have hF2 := Option.some.inj hF
    simp only [Prod.mk.injEq] at hF2
    obtain ⟨rfl, rfl⟩ := hF2
    clear h hF
    have hbs : (a1 < 0 ∧ mn (mx a1 0) 1 = 0) ∨ (1 < a1 ∧ mn (mx a1 0) 1 = 1) ∨ (a1 = 0 ∧ mn (mx a1 0) 1 = 0) ∨ (a1 = 1 ∧ mn (mx a1 0) 1 = 1) := by
      unfold mn mx
      by_cases h1 : a1 < 0
      · left; exact ⟨h1, by rw [if_pos h1, if_neg (by omega)]⟩
      · by_cases h2 : 1 < a1
        · right; left; exact ⟨h2, by rw [if_neg h1, if_pos h2]⟩
        · right; right
          rcases (show a1 = 0 ∨ a1 = 1 by omega) with rfl | rfl
          · left; decide
          · right; decide
    rcases hbs with ⟨h1, h2⟩ | ⟨h1, h2⟩ | ⟨h1, h2⟩ | ⟨h1, h2⟩
    all_goals rw [h2] at hgo
    all_goals clear h2
    · exact explicit_Levels.low k A0 c0 l0 a1 M sF w hr0 hc0 hM hsz hgo h1
    · exact explicit_Levels.high k A0 c0 l0 a1 M sF w hr0 hc0 hM hsz hgo h1
    · exact explicit_Levels.zero k A0 c0 l0 a1 M sF w hr0 hc0 hM hsz hgo h1
    · exact explicit_Levels.one k A0 c0 l0 a1 M sF w hr0 hc0 hM hsz hgo h1
  · rw [if_neg hsz] at h; cases h
end
def naskhref22_Left.f (a0 : Int) : Option (Bool) := if a0 ≥ 14 then (if a0 ≤ 18 then (some true) else (some (a0 == 9))) else (some (a0 == 9))
set_option maxHeartbeats 8000000 in
set_option maxRecDepth 100000 in
theorem naskhref22_Left.calls (a0 : Int) (r : Bool) (w : World) (h : naskhref22_Left.f a0 = some r) :
    Calls Try.prog 23 #[.int .i64 a0] w fun e w' => e = .returned (.bool r) ∧ Drawn0 w w' := by
  have H : (if a0 ≥ 14 then (if a0 ≤ 18 then (some true) else (some (a0 == 9))) else (some (a0 == 9))) = some r := h
  clear h
  by_cases c2 : a0 ≥ 14
  · rw [if_pos c2] at H
    have c2b0 : decide (14 ≤ a0) = true := decide_eq_true c2
    clear c2
    by_cases c3 : a0 ≤ 18
    · rw [if_pos c3] at H
      have c3b0 : decide (a0 ≤ 18) = true := decide_eq_true c3
      clear c3
      obtain rfl := Option.some.inj H
      go_enter Try.func23, Try.ntmps23
      go_wp2
      go_ret
      exact ⟨by first | rfl | (simp; done) | (simp [*]; done), by repeat (first | exact Drawn0.refl _ | apply Drawn0.step)⟩
    · rw [if_neg c3] at H
      have c3b0 : decide (a0 ≤ 18) = false := decide_eq_false c3
      clear c3
      obtain rfl := Option.some.inj H
      go_enter Try.func23, Try.ntmps23
      go_wp2
      go_ret
      exact ⟨by first | rfl | (simp; done) | (simp [*]; done), by repeat (first | exact Drawn0.refl _ | apply Drawn0.step)⟩
  · rw [if_neg c2] at H
    have c2b0 : decide (14 ≤ a0) = false := decide_eq_false c2
    clear c2
    obtain rfl := Option.some.inj H
    go_enter Try.func23, Try.ntmps23
    go_wp2
    go_ret
    exact ⟨by first | rfl | (simp; done) | (simp [*]; done), by repeat (first | exact Drawn0.refl _ | apply Drawn0.step)⟩
end Go.Proofs.Ytbkdaafphcfpdaa.PSeqOnce
