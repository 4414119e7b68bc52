import Derived.Test.YtbkdaafphcfpdaaStkG
namespace Go.Proofs.Ytbkdaafphcfpdaa.Stk
open Go.RowKit Go.Proofs.YtbkdaafphcfpdaaW.PrintWords Go.Proofs.YtbkdaafphcfpdaaW.PrintLast Go.Proofs.YtbkdaafphcfpdaaW.PrintMore
attribute [local go_sem] max2_int min2_int max_two min_two max_three min_three max_four min_four   -- for this text's walks alone
set_option linter.unusedVariables false
set_option linter.unusedSimpArgs false
theorem p_embed {w : World} {base g : Nat} {v : Value} {a b c : Int} {l : List Ent} (h : StkP w base g v a b c l) (hG : Good l) (right : Bool) (ov : Int) : Calls Try.prog 68 #[.pointer (some ⟨g, 0, none⟩), .bool right, .int .i64 ov] w (Upd w base g v (.returned (.bool (okB a b l right))) a (embB a b l right) c (embL a b l right ov)) := by
  have ht := hG.top
  unfold embB embL
  cases hok : okB a b l right with
  | true => rw [if_pos rfl, if_pos rfl]; exact p_embed_yes h hG.1 (by have := hG.len; omega) ht.1 (by omega) right ov hok
  | false =>
    simp only [Bool.false_eq_true, if_false]
    by_cases ha : a = 0
    · rw [if_pos ha]; exact p_embed_count h hG.1 (by have := hG.len; omega) ht.1 (by omega) right ov hok ha
    · rw [if_neg ha]; exact p_embed_not h hG.1 (by have := hG.len; omega) ht.1 (by omega) right ov hok ha
theorem p_isolate {w : World} {base g : Nat} {v : Value} {a b c : Int} {l : List Ent} (h : StkP w base g v a b c l) (hG : Good l) (right : Bool) : Calls Try.prog 69 #[.pointer (some ⟨g, 0, none⟩), .bool right] w (Upd w base g v (.returned (.bool (okB a b l right))) (isoA a b l right) b (isoC a b c l right) (isoL a b l right)) := by
  have ht := hG.top
  unfold isoA isoC isoL
  cases hok : okB a b l right with
  | true => rw [if_pos rfl, if_pos rfl, if_pos rfl]; exact p_isolate_yes h hG.1 (by have := hG.len; omega) ht.1 (by omega) right hok
  | false => simp only [Bool.false_eq_true, if_false]; exact p_isolate_not h hG.1 (by have := hG.len; omega) ht.1 (by omega) right hok
theorem p_endembed {w : World} {base g : Nat} {v : Value} {a b c : Int} {l : List Ent} (h : StkP w base g v a b c l) (hG : Good l) : Calls Try.prog 64 #[.pointer (some ⟨g, 0, none⟩)] w (Upd w base g v (.returned (.tuple #[])) a (eeB a b) c (eeL a b l)) := by
  unfold eeB eeL
  by_cases ha : 0 < a
  · rw [if_pos ha, if_pos ha]; exact p_endembed_over h hG.1 (by have := hG.len; omega) ha
  · rw [if_neg ha, if_neg ha]
    by_cases hb : 0 < b
    · rw [if_pos hb, if_pos hb]; exact p_endembed_count h hG.1 (by have := hG.len; omega) ha hb
    · rw [if_neg hb, if_neg hb]
      by_cases ht : (topE l).iso = true
      · rw [if_pos ht]; exact p_endembed_stay h hG.1 (by have := hG.len; omega) ha hb ht
      · rw [if_neg ht]; exact p_endembed_pop h hG.1 (by have := hG.len; omega) ha hb (Bool.eq_false_iff.mpr ht)
theorem p_endiso {w : World} {base g : Nat} {v : Value} {a b c : Int} {l : List Ent} (h : StkP w base g v a b c l) (hG : Good l) : Calls Try.prog 61 #[.pointer (some ⟨g, 0, none⟩)] w (Upd w base g v (.returned (.tuple #[])) (eiA a) (eiB a b c) (eiC a c) (eiL a c l)) := by
  unfold eiA eiB eiC eiL
  by_cases ha : 0 < a
  · rw [if_pos ha, if_pos ha, if_pos ha, if_pos ha]; exact p_endiso_count h hG.1 (by have := hG.len; omega) ha
  · rw [if_neg ha, if_neg ha, if_neg ha, if_neg ha]
    by_cases hc : 0 < c
    · rw [if_pos hc, if_pos hc, if_pos hc]; exact p_endiso_drop h hG.1 (by have := hG.len; omega) ha hc
    · rw [if_neg hc, if_neg hc, if_neg hc]; exact p_endiso_none h hG.1 (by have := hG.len; omega) ha hc
theorem x_endembed {w : World} {base g : Nat} {v : Value} {a b c : Int} {l : List Ent} (h : StkX w base g v a b c l) (hG : Good l) : Calls Try.prog 32 #[.pointer (some ⟨g, 0, none⟩)] w (UpdX w base g v (.returned (.tuple #[])) a (eeB a b) c (eeL a b l)) := by
  unfold eeB eeL
  by_cases ha : 0 < a
  · rw [if_pos ha, if_pos ha]; exact x_endembed_over h hG.1 (by have := hG.len; omega) ha
  · rw [if_neg ha, if_neg ha]
    by_cases hb : 0 < b
    · rw [if_pos hb, if_pos hb]; exact x_endembed_count h hG.1 (by have := hG.len; omega) ha hb
    · rw [if_neg hb, if_neg hb]
      by_cases ht : (topE l).iso = true
      · rw [if_pos ht]; exact x_endembed_stay h hG.1 (by have := hG.len; omega) ha hb ht
      · rw [if_neg ht]; exact x_endembed_pop h hG.1 (by have := hG.len; omega) ha hb (Bool.eq_false_iff.mpr ht)
theorem x_endiso {w : World} {base g : Nat} {v : Value} {a b c : Int} {l : List Ent} (h : StkX w base g v a b c l) (hG : Good l) : Calls Try.prog 28 #[.pointer (some ⟨g, 0, none⟩)] w (UpdX w base g v (.returned (.tuple #[])) (eiA a) (eiB a b c) (eiC a c) (eiL a c l)) := by
  unfold eiA eiB eiC eiL
  by_cases ha : 0 < a
  · rw [if_pos ha, if_pos ha, if_pos ha, if_pos ha]; exact x_endiso_count h hG.1 (by have := hG.len; omega) ha
  · rw [if_neg ha, if_neg ha, if_neg ha, if_neg ha]
    by_cases hc : 0 < c
    · rw [if_pos hc, if_pos hc, if_pos hc]; exact x_endiso_drop h hG.1 (by have := hG.len; omega) ha hc
    · rw [if_neg hc, if_neg hc, if_neg hc]; exact x_endiso_none h hG.1 (by have := hG.len; omega) ha hc
theorem room_ok {a b : Int} (ha : 0 ≤ a) (hb : 0 ≤ b) (l : List Ent) (right : Bool) : roomB a b l right = okB a b l right := by
  unfold roomB okB
  rw [Bool.eq_iff_iff]
  simp
  omega
theorem x_embed {w : World} {base g : Nat} {v : Value} {a b c : Int} {l : List Ent} (h : StkX w base g v a b c l) (hG : Good l) (ha0 : 0 ≤ a) (hb0 : 0 ≤ b) (right : Bool) (ov : Int) : Calls Try.prog 31 #[.pointer (some ⟨g, 0, none⟩), .bool right, .int .i64 ov] w (UpdX w base g v (.returned (.bool (okB a b l right))) a (embB a b l right) c (embL a b l right ov)) := by
  have ht := hG.top
  have hr := room_ok ha0 hb0 l right
  unfold embB embL
  cases hok : okB a b l right with
  | true => rw [if_pos rfl, if_pos rfl]; exact x_embed_yes h hG.1 (by have := hG.len; omega) ht.1 (by omega) right ov (hr.trans hok)
  | false =>
    simp only [Bool.false_eq_true, if_false]
    by_cases ha : a = 0
    · rw [if_pos ha]; exact x_embed_count h hG.1 (by have := hG.len; omega) ht.1 (by omega) right ov (hr.trans hok) ha
    · rw [if_neg ha]; exact x_embed_not h hG.1 (by have := hG.len; omega) ht.1 (by omega) right ov (hr.trans hok) ha
theorem x_isolate {w : World} {base g : Nat} {v : Value} {a b c : Int} {l : List Ent} (h : StkX w base g v a b c l) (hG : Good l) (ha0 : 0 ≤ a) (hb0 : 0 ≤ b) (right : Bool) : Calls Try.prog 33 #[.pointer (some ⟨g, 0, none⟩), .bool right] w (UpdX w base g v (.returned (.bool (okB a b l right))) (isoA a b l right) b (isoC a b c l right) (isoL a b l right)) := by
  have ht := hG.top
  have hr := room_ok ha0 hb0 l right
  unfold isoA isoC isoL
  cases hok : okB a b l right with
  | true => rw [if_pos rfl, if_pos rfl, if_pos rfl]; exact x_isolate_yes h hG.1 (by have := hG.len; omega) ht.1 (by omega) right (hr.trans hok)
  | false => simp only [Bool.false_eq_true, if_false]; exact x_isolate_not h hG.1 (by have := hG.len; omega) ht.1 (by omega) right (hr.trans hok)
def pushB (l : List Ent) (x : Int) : Bool := !(decide (x ≤ (topE l).lv) || decide (125 < x))
theorem p_push {w : World} {base g : Nat} {v : Value} {a b c : Int} {l : List Ent} (h : StkP w base g v a b c l) (hG : Good l) (x0 x1 : Int) (x2 : Bool) : Calls Try.prog 82 #[.pointer (some ⟨g, 0, none⟩), .agg #[.int .i64 x0, .int .i64 x1, .bool x2]] w (Upd w base g v (.returned (.bool (pushB l x0))) a b c (if pushB l x0 = true then l ++ [⟨x0, x1, x2⟩] else l)) := by
  by_cases h1 : x0 ≤ (topE l).lv
  · have e : pushB l x0 = false := by unfold pushB; rw [decide_eq_true h1]; rfl
    rw [e]; simp only [Bool.false_eq_true, if_false]; exact p_push_low h hG.1 (by have := hG.len; omega) x0 x1 x2 h1
  · by_cases h2 : 125 < x0
    · have e : pushB l x0 = false := by unfold pushB; rw [decide_eq_true h2]; simp
      rw [e]; simp only [Bool.false_eq_true, if_false]; exact p_push_high h hG.1 (by have := hG.len; omega) x0 x1 x2 h1 h2
    · have e : pushB l x0 = true := by unfold pushB; rw [decide_eq_false h1, decide_eq_false h2]; rfl
      rw [e, if_pos rfl]; exact p_push_put h hG.1 (by have := hG.len; omega) x0 x1 x2 h1 h2
theorem x_push {w : World} {base g : Nat} {v : Value} {a b c : Int} {l : List Ent} (h : StkX w base g v a b c l) (hG : Good l) (x0 x1 : Int) (x2 : Bool) : Calls Try.prog 50 #[.pointer (some ⟨g, 0, none⟩), .agg #[.int .i64 x0, .int .i64 x1, .bool x2]] w (UpdX w base g v (.returned (.bool (pushB l x0))) a b c (if pushB l x0 = true then l ++ [⟨x0, x1, x2⟩] else l)) := by
  by_cases h1 : x0 ≤ (topE l).lv
  · have e : pushB l x0 = false := by unfold pushB; rw [decide_eq_true h1]; rfl
    rw [e]; simp only [Bool.false_eq_true, if_false]; exact x_push_low h hG.1 (by have := hG.len; omega) x0 x1 x2 h1
  · by_cases h2 : 125 < x0
    · have e : pushB l x0 = false := by unfold pushB; rw [decide_eq_true h2]; simp
      rw [e]; simp only [Bool.false_eq_true, if_false]; exact x_push_high h hG.1 (by have := hG.len; omega) x0 x1 x2 h1 h2
    · have e : pushB l x0 = true := by unfold pushB; rw [decide_eq_false h1, decide_eq_false h2]; rfl
      rw [e, if_pos rfl]; exact x_push_put h hG.1 (by have := hG.len; omega) x0 x1 x2 h1 h2
theorem Went.push {l : List Ent} (h : Good l) (x0 x1 : Int) (x2 : Bool) : Went l (if pushB l x0 = true then l ++ [⟨x0, x1, x2⟩] else l) := by
  split
  · rename_i hp
    unfold pushB at hp
    simp at hp
    exact Went.put h (by dsimp only; omega) (by dsimp only; omega)
  · exact Went.same h
end Go.Proofs.Ytbkdaafphcfpdaa.Stk
