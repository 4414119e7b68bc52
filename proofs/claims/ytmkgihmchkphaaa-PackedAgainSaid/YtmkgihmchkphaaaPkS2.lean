/- Packed: Encode, whatever it is given; Decode. -/
import Derived.Test.YtmkgihmchkphaaaPkS1
import Derived.WalkSmall
import Derived.Defers
import Derived.Recover
namespace Go.Proofs.Ytmkgihmchkphaaa.Stk
open Go.RowKit Go.Proofs.YtmkgihmchkphaaaW.PrintWords Go.Proofs.YtmkgihmchkphaaaW.PrintLast Go.Proofs.YtmkgihmchkphaaaW.PrintMore
attribute [local go_sem] max2_int min2_int max_two min_two max_three min_three max_four min_four   -- for this text's walks alone
set_option linter.unusedVariables false
set_option linter.unusedSimpArgs false
theorem takF_len : ∀ (l : List Int) (i : Nat) (n t : Int), (takF l i n t).2.2 = true → 0 ≤ (takF l i n t).2.1 ∧ (takF l i n t).2.1 ≤ ((i + l.length : Nat) : Int) ∧ (i : Int) < (takF l i n t).2.1
  | [], i, n, t, h => by simp [takF] at h
  | x :: l, i, n, t, h => by
    rw [takF_cons] at h ⊢
    split at h
    · rename_i hx
      rw [if_pos hx]
      split at h
      · rename_i hc
        rw [if_pos hc, List.length_cons]
        show 0 ≤ (i : Int) + 1 ∧ (i : Int) + 1 ≤ _ ∧ (i : Int) < (i : Int) + 1
        omega
      · simp at h
    · rename_i hx
      rw [if_neg hx]
      have h1 := takF_len l (i + 1) _ _ h
      rw [List.length_cons]
      omega
theorem takB_ok {l : List Int} {n z : Int} (h : takB l = (n, z, true)) : ∃ k : Nat, z = (k : Int) ∧ 0 < k ∧ k ≤ l.length := by
  have h1 := takF_len (l.take 5) 0 0 1 (by show (takB l).2.2 = true; rw [h])
  have h2 : (takF (l.take 5) 0 0 1).2.1 = z := by show (takB l).2.1 = z; rw [h]
  rw [h2] at h1
  have h3 : (l.take 5).length ≤ l.length := by rw [List.length_take]; omega
  exact ⟨z.toNat, by omega, by omega, by omega⟩
def uN : Value := .int .i64 0
/-- A reader at block g: what it has left. What it reads lies in what came in. -/
def RdAt (w0 w : World) (g : Nat) (bs : List Int) : Prop := (∃ (A : Option Addr) (c : Nat), w.heap[g]? = some (.cells #[.slice A bs.length c] 130 (0, 0)) ∧ Kd.C (Kd.int .u8) w0 A bs.length bs ∧ bs.length ≤ c) ∧ Below w0.heap.size w0 w ∧ w0.heap.size ≤ g
theorem rd_below {w0 w w' : World} {g : Nat} {bs : List Int} (h : RdAt w0 w g bs) (hb : Below w.heap.size w w') : RdAt w0 w' g bs := by
  obtain ⟨⟨A, c, h1, h2, h3⟩, h4, h5⟩ := h
  exact ⟨⟨A, c, blk_below h1 hb, h2, h3⟩, below_step h4 hb, h5⟩
theorem rd_next {w0 w : World} {g c k : Nat} {A A' : Option Addr} {bs : List Int} (hG : w.heap[g]? = some (.cells #[.slice A bs.length c] 130 (0, 0))) (hC : Kd.C (Kd.int .u8) w0 A bs.length bs) (hc : bs.length ≤ c) (hB : Below w0.heap.size w0 w) (hg : w0.heap.size ≤ g) (hk : k ≤ bs.length) (hA : A' = if c = k then A else A.map (·.add k)) (m : Nat) (hm : m = bs.length - k) : RdAt w0 (w.setCell ⟨g, 0, none⟩ (.slice A' m (c - k))) g (bs.drop k) := by
  subst hm
  subst hA
  have h1 := Kd.C_drop hC hk hc
  rw [show k * (Kd.int .u8).sz = k from Nat.mul_one k] at h1
  refine ⟨⟨_, c - k, ?_, h1, by rw [List.length_drop]; omega⟩, (Wrote.set w g 0 _).below hB hg, hg⟩
  rw [List.length_drop]
  exact (blk_set hG 0 _).trans rfl
theorem bodyPost_panic {P : Program} {fn : Func} {R : Ending → World → Prop} {a : Act} {w : World} {c : List PanicEntry} (hd : a.defers = []) (h : R (.panicked c) w) : bodyPost P fn R (Exit.panic c) a w := by
  first | exact ⟨hd, h⟩ | (unfold bodyPost; simp [hd]; exact h) | (unfold bodyPost; exact h)
theorem bytes_drop {l : List Int} (h : Bytes l) (k : Nat) : Bytes (l.drop k) := fun x hx => h x (List.mem_of_mem_drop hx)
set_option maxHeartbeats 8000000 in
set_option maxRecDepth 100000 in
theorem p_next_ok {w0 w : World} {g : Nat} {bs : List Int} (h : RdAt w0 w g bs) (hb : Bytes bs) {n : Int} {k : Nat} (ht : takB bs = (n, (k : Int), true)) (hk : k ≤ bs.length) :
    Calls Try.prog 96 #[.pointer (some ⟨g, 0, none⟩)] w fun e w' => e = .returned (.int .i64 n) ∧ RdAt w0 w' g (bs.drop k) ∧ Mv w w' g uN uN := by
  obtain ⟨⟨A, c, hG, hC, hc⟩, hB0, hg0⟩ := h
  have HB0 := Aside0.mk hB0
  have HG0 := Aside0.mk hg0
  have HG := Aside0.mk hG
  have HC0 := Aside0.mk hC
  have HC := Aside0.mk (Kd.C_below hC hB0)
  have HCC := Aside0.mk hc
  have HBY := Aside0.mk hb
  have HT := Aside0.mk ht
  have HK := Aside0.mk hk
  have k0 := (blk_cell hG 0).trans rfl
  have q0 := eq_true (show (0 : Int) ≤ (k : Int) by omega)
  have q1 := eq_true (show (k : Int) ≤ (bs.length : Int) by omega)
  have q2 := eq_true hk
  have q3 := eq_true (show (bs.length : Int) ≤ (c : Int) by omega)
  have q4 := eq_true hc
  clear hG hC hc hb hB0 hg0 ht hk
  by_cases hck : c = k
  · subst hck
    go_enter Try.func96, Try.ntmps96
    go_wp2_with (first | (go_at_call 25; (with_reducible refine (p_take HC.out HCC.out HBY.out).mono ?_); rw [HT.out]; rintro e w1 ⟨rfl, hb⟩; have HB1 := Aside0.mk hb; have HG1 := Aside0.mk (blk_below HG.out hb); have HC1 := Aside0.mk (Kd.C_below HC.out hb); have kk := (blk_cell HG1.out 0).trans rfl; have ff := blk_frozen HG1.out 0; clear hb))
    go_ret
    refine ⟨by first | rfl | (simp; done), ?_, (Mv.of_below HB1.out g uN).set 0 _⟩
    have h1 := rd_next (A' := A) HG1.out HC0.out HCC.out (below_step HB0.out HB1.out) HG0.out HK.out (by rw [if_pos rfl]) 0 (by have := HCC.out; omega)
    rw [Nat.sub_self] at h1
    exact h1
  · have hn1 : (c = k) = False := eq_false hck
    have hn2 : decide (c = k) = false := decide_eq_false hck
    have hn3 : (c == k) = false := by simp [hck]
    have HN := Aside0.mk hck
    clear hck
    go_enter Try.func96, Try.ntmps96
    go_wp2_with (first | (go_at_call 25; (with_reducible refine (p_take HC.out HCC.out HBY.out).mono ?_); rw [HT.out]; rintro e w1 ⟨rfl, hb⟩; have HB1 := Aside0.mk hb; have HG1 := Aside0.mk (blk_below HG.out hb); have HC1 := Aside0.mk (Kd.C_below HC.out hb); have kk := (blk_cell HG1.out 0).trans rfl; have ff := blk_frozen HG1.out 0; clear hb))
    go_ret
    exact ⟨by first | rfl | (simp; done), rd_next (A' := Option.map (fun x => x.add k) A) HG1.out HC0.out HCC.out (below_step HB0.out HB1.out) HG0.out HK.out (by rw [if_neg HN.out]) (bs.length - k) rfl, (Mv.of_below HB1.out g uN).set 0 _⟩
theorem p_next_bad {w0 w : World} {g : Nat} {bs : List Int} (h : RdAt w0 w g bs) (hb : Bytes bs) {n z : Int} (ht : takB bs = (n, z, false)) :
    Calls Try.prog 96 #[.pointer (some ⟨g, 0, none⟩)] w fun e w' => e = .panicked [{ v := .iface 127 (.agg #[]), recovered := false }] ∧ Below w.heap.size w w' := by
  obtain ⟨⟨A, c, hG, hC, hc⟩, hB0, hg0⟩ := h
  have HB0 := Aside0.mk hB0
  have HG0 := Aside0.mk hg0
  have HG := Aside0.mk hG
  have HC0 := Aside0.mk hC
  have HC := Aside0.mk (Kd.C_below hC hB0)
  have HCC := Aside0.mk hc
  have HBY := Aside0.mk hb
  have HT := Aside0.mk ht
  have k0 := (blk_cell hG 0).trans rfl
  clear hG hC hc hb hB0 hg0 ht
  go_enter Try.func96, Try.ntmps96
  go_wp2_with (first | (go_at_call 25; (with_reducible refine (p_take HC.out HCC.out HBY.out).mono ?_); rw [HT.out]; rintro e w1 ⟨rfl, hb⟩; have HB1 := Aside0.mk hb; have HG1 := Aside0.mk (blk_below HG.out hb); have HC1 := Aside0.mk (Kd.C_below HC.out hb); have kk := (blk_cell HG1.out 0).trans rfl; have ff := blk_frozen HG1.out 0; clear hb))
  exact bodyPost_panic rfl ⟨rfl, HB1.out⟩
section
variable {P : Program} {ops : Array Oper} {Q : Exit → Act → World → Prop}
/-- A call that panics. -/
theorem goesP_ {oi : Oper} {N : Option Tmp} {a : Act} {w : World} {K : Act → World → Prop} {f : FuncId} {fn : Func} {xs : Array Operand} {ts : Array TypeId} (hf : P.funcs[f]? = some fn) (hname : (fn.name == "runtime.NumGoroutine") = false) (hb : fn.body.isSome = true) (args : Array Value)
    (hw : Region.wanted oi (yielded ops a.tmps) = true) (hop : oi.op = .call { callee := .value (.func f), args := xs, argTypes := ts }) (hargs : xs.map a.eval = args)
    (h : Calls P f args w fun e w' => ∃ c, e = .panicked c ∧ Q (.panic c) a w') : if Region.wanted oi (yielded ops a.tmps) = true then Oper.wp P oi a w K Q else K (a.put N undef) w := by
  rw [if_pos hw]
  have he := enters_ hf hname hb args w
  have hrun : (execOp a.eval oi).run P w = .ok (.enter f args) w := by
    unfold execOp
    simp [hop, resolve, Deferred.ofValue, invoke, Act.eval, hargs, he]
  unfold Oper.wp
  rw [hrun, Oper.upon_enter]
  refine h.mono fun e w'' hh => ?_
  obtain ⟨v, rfl, hk⟩ := hh
  exact hk
end
theorem takF_val : ∀ (l : List Int) (i : Nat) (n t : Int), Bytes l → 0 ≤ n → 0 ≤ t → (takF l i n t).2.2 = true → 0 ≤ (takF l i n t).1 ∧ (takF l i n t).1 ≤ 2147483648
  | [], i, n, t, hb, hn, ht, h => by simp [takF] at h
  | x :: l, i, n, t, hb, hn, ht, h => by
    have hx := hb x (by simp)
    have hx1 := Int.mul_nonneg hx.1 ht
    rw [takF_cons] at h ⊢
    split at h
    · rename_i hx2
      rw [if_pos hx2]
      split at h
      · rename_i hc
        rw [if_pos hc]
        show 0 ≤ n + x * t ∧ n + x * t ≤ 2147483648
        exact ⟨by omega, hc.1⟩
      · simp at h
    · rename_i hx2
      rw [if_neg hx2]
      have h4 : 0 ≤ (x - 128) * t := Int.mul_nonneg (by omega) ht
      exact takF_val l (i + 1) _ _ (fun y hy => hb y (by simp [hy])) (by omega) (by omega) h
theorem takB_val {l : List Int} (hb : Bytes l) {n z : Int} (h : takB l = (n, z, true)) : 0 ≤ n ∧ n ≤ 2147483648 := by
  have h1 := takF_val (l.take 5) 0 0 1 (fun x hx => hb x (List.mem_of_mem_take hx)) (by decide) (by decide) (by show (takB l).2.2 = true; rw [h])
  have h2 : (takF (l.take 5) 0 0 1).1 = n := by show (takB l).1 = n; rw [h]
  rw [h2] at h1
  exact h1
/-- So many ranges, one behind the other, and what is left. -/
def rngN : Nat → Int → List Int → Option (List Rg × List Int)
  | 0, _, bs => some ([], bs)
  | k + 1, e, bs =>
    if (takB bs).2.2 = true then
      if (takB (bs.drop (takB bs).2.1.toNat)).2.2 = true then
        if (takB ((bs.drop (takB bs).2.1.toNat).drop (takB (bs.drop (takB bs).2.1.toNat)).2.1.toNat)).2.2 = true then
          (rngN k (e + (takB bs).1 + (takB (bs.drop (takB bs).2.1.toNat)).1 + 1) (((bs.drop (takB bs).2.1.toNat).drop (takB (bs.drop (takB bs).2.1.toNat)).2.1.toNat).drop (takB ((bs.drop (takB bs).2.1.toNat).drop (takB (bs.drop (takB bs).2.1.toNat)).2.1.toNat)).2.1.toNat)).map fun p => (⟨e + (takB bs).1, e + (takB bs).1 + (takB (bs.drop (takB bs).2.1.toNat)).1, (takB ((bs.drop (takB bs).2.1.toNat).drop (takB (bs.drop (takB bs).2.1.toNat)).2.1.toNat)).1⟩ :: p.1, p.2)
        else none
      else none
    else none
theorem rng_bad1 {k : Nat} {e a z : Int} {bs : List Int} (h : takB bs = (a, z, false)) : rngN (k + 1) e bs = none := by unfold rngN; rw [h]; rfl
theorem rng_bad2 {k n1 : Nat} {e a b z : Int} {bs b1 : List Int} (h : takB bs = (a, (n1 : Int), true)) (h1 : bs.drop n1 = b1) (h2 : takB b1 = (b, z, false)) : rngN (k + 1) e bs = none := by
  unfold rngN
  rw [h]
  simp only [if_true, Int.toNat_natCast]
  rw [h1, h2]
  rfl
theorem rng_bad3 {k n1 n2 : Nat} {e a b c z : Int} {bs b1 b2 : List Int} (h : takB bs = (a, (n1 : Int), true)) (h1 : bs.drop n1 = b1) (h2 : takB b1 = (b, (n2 : Int), true)) (h3 : b1.drop n2 = b2) (h4 : takB b2 = (c, z, false)) : rngN (k + 1) e bs = none := by
  unfold rngN
  rw [h]
  simp only [if_true, Int.toNat_natCast]
  rw [h1, h2]
  simp only [if_true, Int.toNat_natCast]
  rw [h3, h4]
  rfl
theorem rng_ok {k n1 n2 n3 : Nat} {e a b c : Int} {bs b1 b2 b3 : List Int} (h : takB bs = (a, (n1 : Int), true)) (h1 : bs.drop n1 = b1) (h2 : takB b1 = (b, (n2 : Int), true)) (h3 : b1.drop n2 = b2) (h4 : takB b2 = (c, (n3 : Int), true)) (h5 : b2.drop n3 = b3) : rngN (k + 1) e bs = (rngN k (e + a + b + 1) b3).map fun p => (⟨e + a, e + a + b, c⟩ :: p.1, p.2) := by
  conv => lhs; unfold rngN
  rw [h]
  simp only [if_true, Int.toNat_natCast]
  rw [h1, h2]
  simp only [if_true, Int.toNat_natCast]
  rw [h3, h4]
  simp only [if_true, Int.toNat_natCast]
  rw [h5]
theorem rd_same {w0 w w' : World} {g : Nat} {bs : List Int} (h : RdAt w0 w g bs) (he : w'.heap[g]? = w.heap[g]?) (hB : Below w0.heap.size w0 w') : RdAt w0 w' g bs := by
  obtain ⟨⟨A, c, h1, h2, h3⟩, _, h5⟩ := h
  exact ⟨⟨A, c, he.trans h1, h2, h3⟩, hB, h5⟩
theorem rd_lt {w0 w : World} {g : Nat} {bs : List Int} (h : RdAt w0 w g bs) : g < w.heap.size := by
  obtain ⟨⟨A, c, h1, _⟩, _⟩ := h
  exact blk_lt h1
theorem uN_own : ∀ k, uN.ownBlock = some k → False := fun k hk => by simp [uN, Value.ownBlock] at hk
theorem mv_base {w0 w w' : World} {g : Nat} (m : Mv w w' g uN uN) (hB : Below w0.heap.size w0 w) (hg : w0.heap.size ≤ g) : Below w0.heap.size w0 w' := hB.trans (m.below_base hB.size hg (fun k hk => (uN_own k hk).elim))
theorem mv_keep {w w' : World} {g : Nat} (m : Mv w w' g uN uN) : KeepBut w w' g none := m.1
theorem rd_wrote {w0 w w' : World} {g k : Nat} {bs : List Int} (h : RdAt w0 w g bs) (hW : Wrote w w' k) (hk : k ≠ g) (hB : w0.heap.size ≤ k) : RdAt w0 w' g bs := rd_same h (hW.2.1 g (Ne.symm hk)) (hW.below h.2.1 hB)
theorem mv_wrote {w w1 w2 : World} {g k : Nat} (m : Mv w w1 g uN uN) (hW : Wrote w1 w2 k) (hk : w.heap.size ≤ k) : Mv w w2 g uN uN :=
  ⟨⟨by rw [hW.1]; exact m.1.1, fun i hi hg hn => (hW.2.1 i (by omega)).trans (m.1.2 i hi hg hn)⟩, fun i hi => (uN_own i hi).elim, hW.2.2.1.trans m.2.2.1, hW.2.2.2.1.trans m.2.2.2.1, hW.2.2.2.2.trans m.2.2.2.2⟩
theorem r_wrote {w w' : World} {base g k : Nat} {v : Value} {xs : List Rg} (h : Kd.R kR 66 w base (fun k => k ≠ g) v xs) (hW : Wrote w w' k) (hne : some k ≠ v.ownBlock) : Kd.R kR 66 w' base (fun k => k ≠ g) v xs := Kd.R_drop (Kd.R_step (Kd.R_far1 h rfl hne) (fun i hi _ => hW.2.1 i hi.2))
def RsR (w0 w : World) (g many : Nat) (bs0 : List Int) (e : Ending) (w' : World) : Prop := Mv w w' g uN uN ∧ ((∃ out rest v, rngN many 0 bs0 = some (out, rest) ∧ e = .returned v ∧ Kd.R kR 66 w' w0.heap.size (fun k => k ≠ g) v out ∧ RdAt w0 w' g rest) ∨ (rngN many 0 bs0 = none ∧ e = .panicked [{ v := .iface 127 (.agg #[]), recovered := false }]))
theorem mv_size {w w' : World} {g : Nat} (m : Mv w w' g uN uN) : w.heap.size ≤ w'.heap.size := m.1.1
theorem own_up {w w8 : World} {v v3 : Value} (hat : v3.ownBlock = v.ownBlock ∨ ∃ b, v3.ownBlock = some b ∧ w8.heap.size ≤ b) (h : ∀ k, v.ownBlock = some k → w.heap.size ≤ k) (hs : w.heap.size ≤ w8.heap.size) : ∀ k, v3.ownBlock = some k → w.heap.size ≤ k := fun k hk => by
  rcases hat with e | ⟨b, e, hb⟩
  · exact h k (e ▸ hk)
  · rw [e] at hk; injection hk with hk; omega
theorem rd_grown {w0 w w' : World} {g : Nat} {bs : List Int} {v : Value} (h : RdAt w0 w g bs) (hg : w.grownBy w' v.ownBlock) (hv : ∀ k, v.ownBlock = some k → k ≠ g) : w'.heap[g]? = w.heap[g]? := hg.block g (rd_lt h) (fun e => hv g e.symm rfl)
set_option maxHeartbeats 8000000 in
set_option maxRecDepth 100000 in
theorem p_readrs {w0 w : World} {g : Nat} {bs0 : List Int} (h : RdAt w0 w g bs0) (hb : Bytes bs0) (many : Nat) (hm : many ≤ 4096) :
    Calls Try.prog 97 #[.pointer (some ⟨g, 0, none⟩), .int .i64 (many : Int)] w (RsR w0 w g many bs0) := by
  unfold RsR
  have HRD0 := Aside0.mk h
  have HB0 := Aside0.mk h.2.1
  have HG0 := Aside0.mk h.2.2
  have HWS := Aside0.mk h.2.1.size
  have HBYS := Aside0.mk hb
  have HMX := Aside0.mk hm
  clear h hb hm
  go_enter Try.func97, Try.ntmps97
  go_wp2
  go_loopg [5, 6, 9] (many + 1) (fun kq v5 v6 v9 w' => ∃ (i : Nat) (e : Int) (bs : List Int) (out : List Rg) (v : Value), v = v5 ∧ v6 = .int .i64 e ∧ v9 = .int .i64 (i : Int) ∧ Aside0 (i ≤ many ∧ many + 1 - i ≤ kq ∧ rngN many 0 bs0 = (rngN (many - i) e bs).map fun p => (out ++ p.1, p.2)) ∧ Aside0 (0 ≤ e ∧ e ≤ (i : Int) * 4294967297) ∧ Aside0 (Bytes bs) ∧ Aside0 (out.length = i) ∧ Aside0 (∀ k, v.ownBlock = some k → w.heap.size ≤ k) ∧ Aside0 (RdAt w0 w' g bs) ∧ Aside0 (Mv w w' g uN uN) ∧ Aside0 (Kd.R kR 66 w' w0.heap.size (fun k => k ≠ g) v out))
  case atStart => exact ⟨0, 0, bs0, [], .slice none 0 0, rfl, rfl, rfl, ⟨Nat.zero_le _, Nat.sub_le _ _, by simp⟩, ⟨Int.le_refl _, by simp⟩, HBYS, ⟨rfl⟩, ⟨fun k hk => by simp [Value.ownBlock] at hk⟩, HRD0, ⟨Mv.refl _ _ _⟩, ⟨Kd.R_nil _ _ _ _ _⟩⟩
  case round =>
    clear HRD0 HBYS
    obtain ⟨i, e, bs, out, v, rfl, rfl, rfl, HI, HEB, HBY0, HOL, HVO, HRDr, HMr, HRr⟩ := hrel
    by_cases hlt : i < many
    · have q0 := decide_eq_true (show (i : Int) < (many : Int) by omega)
      have q1 := decide_eq_true hlt
      obtain ⟨kk, hkk⟩ : ∃ kk, many - i = kk + 1 := ⟨many - i - 1, by omega⟩
      have HKK := Aside0.mk hkk
      have hmx := HMX.out
      have hil : i ≤ 4095 := by omega
      have hwi : IntKind.i64.wrap ((i : Int) + 1) = ((i + 1 : Nat) : Int) := (i64_w _).trans (by unfold wrap64; omega)
      have heb := HEB.out
      have HLT := Aside0.mk hlt
      have htot := HI.out.2.2
      rw [hkk] at htot
      have HTOT := Aside0.mk htot
      clear htot hlt hkk
      rcases ht1 : takB bs with ⟨a, z1, t1⟩
      cases t1 with
      | false =>
        have HT1 := Aside0.mk ht1
        have HNO := Aside0.mk (show rngN many 0 bs0 = none by rw [HTOT.out, rng_bad1 ht1]; rfl)
        clear ht1 heb
        go_wp2_with (first | (go_at_call 96; (with_reducible refine (p_next_bad HRDr.out HBY0.out HT1.out).mono ?_); rintro e wB ⟨rfl, hb⟩; have HMB := Aside0.mk (HMr.out.below_ hb); clear hb))
        exact bodyPost_panic rfl ⟨HMB.out, .inr ⟨HNO.out, rfl⟩⟩
      | true =>
        obtain ⟨n1, hz1, _, hn1⟩ := takB_ok ht1
        subst hz1
        have hv1 := takB_val HBY0.out ht1
        have HT1 := Aside0.mk ht1
        have HN1 := Aside0.mk hn1
        obtain ⟨b1, hb1⟩ : ∃ b1, bs.drop n1 = b1 := ⟨_, rfl⟩
        have HE1 := Aside0.mk hb1
        have HBY1 := Aside0.mk (show Bytes b1 by rw [← hb1]; exact bytes_drop HBY0.out n1)
        have hwa : IntKind.i64.wrap (e + a) = e + a := (i64_w _).trans (by unfold wrap64; omega)
        rcases ht2 : takB b1 with ⟨b, z2, t2⟩
        cases t2 with
        | false =>
          have HT2 := Aside0.mk ht2
          have HNO := Aside0.mk (show rngN many 0 bs0 = none by rw [HTOT.out, rng_bad2 ht1 hb1 ht2]; rfl)
          clear ht1 ht2 hb1 hn1 heb hv1
          go_wp2_with (first | (go_at_call 96; (with_reducible refine (p_next_ok HRDr.out HBY0.out HT1.out HN1.out).mono ?_); rw [HE1.out]; rintro e w1 ⟨rfl, hr, hm⟩; have HRD1 := Aside0.mk hr; have HM1 := Aside0.mk (HMr.out.trans hm); have HR1 := Aside0.mk (Kd.R_keep HRr.out (mv_keep hm) (fun _ hk => hk)); clear hr hm) | ((with_reducible refine gate_dst (N := 7) rfl ?_); refine wp_alloc_cells rfl 66 rfl _ zero_rng ?_; intro g7 hg w2 hb hB; have H72 := Aside0.mk hb; have HRD2 := Aside0.mk (rd_below HRD1.out hB); have HM2 := Aside0.mk (HM1.out.below_ hB); have HR2 := Aside0.mk (Kd.R_below HR1.out hB); have HG7 := Aside0.mk (show w.heap.size ≤ g7 ∧ g7 ≠ g ∧ some g7 ≠ v.ownBlock from ⟨by have := mv_size HM1.out; omega, by have := rd_lt HRD1.out; omega, fun e => by have := Kd.R_lt HR1.out _ e.symm; omega⟩); have c0 := (blk_cell H72.out 0).trans rfl; have c1_ := (blk_cell H72.out 1).trans rfl; have c2_ := (blk_cell H72.out 2).trans rfl; have f0 := blk_frozen H72.out 0; have f1 := blk_frozen H72.out 1; have f2 := blk_frozen H72.out 2; clear hg hb hB))
          have hw3 := ((Wrote.set w2 g7 0 (.int .i64 (e + a))).trans (Wrote.set _ g7 1 (.int .i64 0))).trans (Wrote.set _ g7 2 (.int .i64 0))
          have H73 := Aside0.mk (show (((w2.setCell ⟨g7, 0, none⟩ (.int .i64 (e + a))).setCell ⟨g7, 1, none⟩ (.int .i64 0)).setCell ⟨g7, 2, none⟩ (.int .i64 0)).heap[g7]? = some (.cells #[.int .i64 (e + a), .int .i64 0, .int .i64 0] 66 (0, 0)) from (blk_set (blk_set (blk_set H72.out 0 _) 1 _) 2 _).trans rfl)
          have HRD3 := Aside0.mk (rd_wrote HRD2.out hw3 HG7.out.2.1 (Nat.le_trans HWS.out HG7.out.1))
          have HM3 := Aside0.mk (mv_wrote HM2.out hw3 HG7.out.1)
          have HR3 := Aside0.mk (r_wrote HR2.out hw3 HG7.out.2.2)
          clear c0 c1_ c2_ f0 f1 f2 hw3
          generalize ((w2.setCell ⟨g7, 0, none⟩ (.int .i64 (e + a))).setCell ⟨g7, 1, none⟩ (.int .i64 0)).setCell ⟨g7, 2, none⟩ (.int .i64 0) = w3 at H73 HRD3 HM3 HR3 ⊢
          have H74 := Aside0.mk (blk_drew H73.out)
          have HRD4 := Aside0.mk (rd_below HRD3.out (below_drew (Below.refl _ _)))
          have HM4 := Aside0.mk (HM3.out.below_ (below_drew (Below.refl _ _)))
          have HR4 := Aside0.mk (Kd.R_below HR3.out (below_drew (Below.refl _ _)))
          refine start_ (n := 7) (S := fun w' => w'.cell? ⟨g7, 0, none⟩ = some (.int .i64 (e + a))) (ds := [6]) #[false, false, false, false, false, false, false] (by kernel_rfl) rfl rfl ((blk_cell H74.out 0).trans rfl) (fun hHeld => ?_)
          generalize w3.drew = w4 at H74 HRD4 HM4 HR4 hHeld ⊢
          refine pure_ (i := 0) (N := some 16) (v := ?_) (a' := ?_) #[true, false, false, false, false, false, false] rfl rfl (by kernel_rfl) (fun _ _ _ h => h) (Or.inl ⟨by rfl, ?_⟩) ?_ ?_
          rotate_left
          · intro w'
            go_simp
            with_reducible rfl
          rotate_left
          · simp only [Act.put, List.setIfInBounds_toArray, List.set_cons_zero, List.set_cons_succ, i64_w, i32_w]
            rfl
          refine take_ (i := 1) (N := some 17) (v := ?_) (a' := ?_) #[true, true, false, false, false, false, false] rfl rfl (by kernel_rfl) (fun _ _ _ h => h) (Or.inl ⟨by rfl, ?_⟩) hHeld ?_ ?_
          rotate_left
          · rintro w' s0
            go_simp
            with_reducible rfl
          rotate_left
          · simp only [Act.put, List.setIfInBounds_toArray, List.set_cons_zero, List.set_cons_succ, i64_w, i32_w]
            rfl
          refine pure_ (i := 2) (N := some 18) (v := ?_) (a' := ?_) #[true, true, true, false, false, false, false] rfl rfl (by kernel_rfl) (fun _ _ _ h => h) (Or.inl ⟨by rfl, ?_⟩) ?_ ?_
          rotate_left
          · intro w'
            go_simp
            with_reducible rfl
          rotate_left
          · simp only [Act.put, List.setIfInBounds_toArray, List.set_cons_zero, List.set_cons_succ, i64_w, i32_w]
            rfl
          refine one_ (i := 3) (N := some 19) #[true, true, true, true, false, false, false] rfl rfl (by kernel_rfl) (by decide) (fun K hK => ?_)
          refine (goesP_ Try.func96 (by kernel_rfl) rfl #[.pointer (some ⟨g, 0, none⟩)] (by rfl) rfl (by (try simp only [List.map_toArray, List.map_cons, List.map_nil]); first | done | rfl) ?_)
          (with_reducible refine (p_next_bad HRD4.out HBY1.out HT2.out).mono ?_)
          rintro e' wB ⟨rfl, hb⟩
          refine ⟨_, rfl, ?_⟩
          have HMB := Aside0.mk (HM4.out.below_ hb)
          (try simp only [Exit.inBlock, Exit.then])
          exact bodyPost_panic rfl ⟨HMB.out, .inr ⟨HNO.out, rfl⟩⟩
        | true =>
          obtain ⟨n2, hz2, _, hn2⟩ := takB_ok ht2
          subst hz2
          have hv2 := takB_val HBY1.out ht2
          have HT2 := Aside0.mk ht2
          have HN2 := Aside0.mk hn2
          obtain ⟨b2, hb2⟩ : ∃ b2, b1.drop n2 = b2 := ⟨_, rfl⟩
          have HE2 := Aside0.mk hb2
          have HBY2 := Aside0.mk (show Bytes b2 by rw [← hb2]; exact bytes_drop HBY1.out n2)
          have hwb : wrap64 (e + a + b) = e + a + b := by unfold wrap64; omega
          rcases ht3 : takB b2 with ⟨c, z3, t3⟩
          cases t3 with
          | false =>
            have HT3 := Aside0.mk ht3
            have HNO := Aside0.mk (show rngN many 0 bs0 = none by rw [HTOT.out, rng_bad3 ht1 hb1 ht2 hb2 ht3]; rfl)
            clear ht1 ht2 ht3 hb1 hb2 hn1 hn2 heb hv1 hv2
            go_wp2_with (first | (go_at_call 96; (with_reducible refine (p_next_ok HRDr.out HBY0.out HT1.out HN1.out).mono ?_); rw [HE1.out]; rintro e w1 ⟨rfl, hr, hm⟩; have HRD1 := Aside0.mk hr; have HM1 := Aside0.mk (HMr.out.trans hm); have HR1 := Aside0.mk (Kd.R_keep HRr.out (mv_keep hm) (fun _ hk => hk)); clear hr hm) | ((with_reducible refine gate_dst (N := 7) rfl ?_); refine wp_alloc_cells rfl 66 rfl _ zero_rng ?_; intro g7 hg w2 hb hB; have H72 := Aside0.mk hb; have HRD2 := Aside0.mk (rd_below HRD1.out hB); have HM2 := Aside0.mk (HM1.out.below_ hB); have HR2 := Aside0.mk (Kd.R_below HR1.out hB); have HG7 := Aside0.mk (show w.heap.size ≤ g7 ∧ g7 ≠ g ∧ some g7 ≠ v.ownBlock from ⟨by have := mv_size HM1.out; omega, by have := rd_lt HRD1.out; omega, fun e => by have := Kd.R_lt HR1.out _ e.symm; omega⟩); have c0 := (blk_cell H72.out 0).trans rfl; have c1_ := (blk_cell H72.out 1).trans rfl; have c2_ := (blk_cell H72.out 2).trans rfl; have f0 := blk_frozen H72.out 0; have f1 := blk_frozen H72.out 1; have f2 := blk_frozen H72.out 2; clear hg hb hB))
            have hw3 := ((Wrote.set w2 g7 0 (.int .i64 (e + a))).trans (Wrote.set _ g7 1 (.int .i64 0))).trans (Wrote.set _ g7 2 (.int .i64 0))
            have H73 := Aside0.mk (show (((w2.setCell ⟨g7, 0, none⟩ (.int .i64 (e + a))).setCell ⟨g7, 1, none⟩ (.int .i64 0)).setCell ⟨g7, 2, none⟩ (.int .i64 0)).heap[g7]? = some (.cells #[.int .i64 (e + a), .int .i64 0, .int .i64 0] 66 (0, 0)) from (blk_set (blk_set (blk_set H72.out 0 _) 1 _) 2 _).trans rfl)
            have HRD3 := Aside0.mk (rd_wrote HRD2.out hw3 HG7.out.2.1 (Nat.le_trans HWS.out HG7.out.1))
            have HM3 := Aside0.mk (mv_wrote HM2.out hw3 HG7.out.1)
            have HR3 := Aside0.mk (r_wrote HR2.out hw3 HG7.out.2.2)
            clear c0 c1_ c2_ f0 f1 f2 hw3
            generalize ((w2.setCell ⟨g7, 0, none⟩ (.int .i64 (e + a))).setCell ⟨g7, 1, none⟩ (.int .i64 0)).setCell ⟨g7, 2, none⟩ (.int .i64 0) = w3 at H73 HRD3 HM3 HR3 ⊢
            have H74 := Aside0.mk (blk_drew H73.out)
            have HRD4 := Aside0.mk (rd_below HRD3.out (below_drew (Below.refl _ _)))
            have HM4 := Aside0.mk (HM3.out.below_ (below_drew (Below.refl _ _)))
            have HR4 := Aside0.mk (Kd.R_below HR3.out (below_drew (Below.refl _ _)))
            refine start_ (n := 7) (S := fun w' => w'.cell? ⟨g7, 0, none⟩ = some (.int .i64 (e + a))) (ds := [6]) #[false, false, false, false, false, false, false] (by kernel_rfl) rfl rfl ((blk_cell H74.out 0).trans rfl) (fun hHeld => ?_)
            generalize w3.drew = w4 at H74 HRD4 HM4 HR4 hHeld ⊢
            refine pure_ (i := 0) (N := some 16) (v := ?_) (a' := ?_) #[true, false, false, false, false, false, false] rfl rfl (by kernel_rfl) (fun _ _ _ h => h) (Or.inl ⟨by rfl, ?_⟩) ?_ ?_
            rotate_left
            · intro w'
              go_simp
              with_reducible rfl
            rotate_left
            · simp only [Act.put, List.setIfInBounds_toArray, List.set_cons_zero, List.set_cons_succ, i64_w, i32_w]
              rfl
            refine take_ (i := 1) (N := some 17) (v := ?_) (a' := ?_) #[true, true, false, false, false, false, false] rfl rfl (by kernel_rfl) (fun _ _ _ h => h) (Or.inl ⟨by rfl, ?_⟩) hHeld ?_ ?_
            rotate_left
            · rintro w' s0
              go_simp
              with_reducible rfl
            rotate_left
            · simp only [Act.put, List.setIfInBounds_toArray, List.set_cons_zero, List.set_cons_succ, i64_w, i32_w]
              rfl
            refine pure_ (i := 2) (N := some 18) (v := ?_) (a' := ?_) #[true, true, true, false, false, false, false] rfl rfl (by kernel_rfl) (fun _ _ _ h => h) (Or.inl ⟨by rfl, ?_⟩) ?_ ?_
            rotate_left
            · intro w'
              go_simp
              with_reducible rfl
            rotate_left
            · simp only [Act.put, List.setIfInBounds_toArray, List.set_cons_zero, List.set_cons_succ, i64_w, i32_w]
              rfl
            refine one_ (i := 3) (N := some 19) #[true, true, true, true, false, false, false] rfl rfl (by kernel_rfl) (by decide) (fun K hK => ?_)
            refine (goes_ Try.func96 (by kernel_rfl) rfl #[.pointer (some ⟨g, 0, none⟩)] (by rfl) rfl rfl (by (try simp only [List.map_toArray, List.map_cons, List.map_nil]); first | done | rfl) ?_)
            (with_reducible refine (p_next_ok HRD4.out HBY1.out HT2.out HN2.out).mono ?_)
            rw [HE2.out]
            rintro e' w5 ⟨rfl, hr, hm⟩
            refine ⟨_, rfl, ?_⟩
            have HRD5 := Aside0.mk hr
            have HM5 := Aside0.mk (HM4.out.trans hm)
            have HR5 := Aside0.mk (Kd.R_keep HR4.out (mv_keep hm) (fun _ hk => hk))
            have H75 := Aside0.mk (hm.keeps H74.out HG7.out.2.1 (by simp [uN, Value.ownBlock]))
            clear hr hm
            refine hK.out _ _ ((blk_cell H75.out 0).trans rfl) (fun hHeld => ?_)
            clear hK K
            refine norm_ (a' := ?_) ?_ ?_
            rotate_left
            · show Act.put _ (some 19) _ = _
              simp only [Act.put, List.setIfInBounds_toArray, List.set_cons_zero, List.set_cons_succ, i64_w, i32_w]
              rfl
            refine pure_ (i := 4) (N := some 20) (v := .int .i64 (e + a + b)) (a' := ?_) #[true, true, true, true, true, false, false] rfl rfl (by kernel_rfl) (fun _ _ _ h => h) (Or.inl ⟨by rfl, ?_⟩) ?_ ?_
            · intro w'
              go_simp
              all_goals first | (with_reducible rfl) | exact (i64_w _).trans hwb | exact hwb
            rotate_left
            · simp only [Act.put, List.setIfInBounds_toArray, List.set_cons_zero, List.set_cons_succ, i64_w, i32_w]
              rfl
            refine pure_ (i := 5) (N := some 21) (v := ?_) (a' := ?_) #[true, true, true, true, true, true, false] rfl rfl (by kernel_rfl) (fun _ _ _ h => h) (Or.inl ⟨by rfl, ?_⟩) ?_ ?_
            rotate_left
            · intro w'
              go_simp
              with_reducible rfl
            rotate_left
            · simp only [Act.put, List.setIfInBounds_toArray, List.set_cons_zero, List.set_cons_succ, i64_w, i32_w]
              rfl
            refine last_ (i := 6) (N := none) #[true, true, true, true, true, true, true] rfl rfl (by kernel_rfl) (by decide) (fun K hK => ?_)
            have hs := (blk_cell H75.out 1).trans rfl
            have hf := blk_frozen H75.out 1
            refine skip_ (w1 := w5.setCell ⟨g7, 1, none⟩ (.int .i64 (e + a + b))) (by rfl) rfl ?_ ?_
            · first | (go_simp; done) | (go_simp; rfl)
            refine hK.out _ _ ?_
            clear hK K hs hf
            refine done_ (by kernel_rfl) ?_
            have hw6 := Wrote.set w5 g7 1 (.int .i64 (e + a + b))
            have H76 := Aside0.mk (show (w5.setCell ⟨g7, 1, none⟩ (.int .i64 (e + a + b))).heap[g7]? = some (.cells #[.int .i64 (e + a), .int .i64 (e + a + b), .int .i64 0] 66 (0, 0)) from (blk_set H75.out 1 _).trans rfl)
            have HRD6 := Aside0.mk (rd_wrote HRD5.out hw6 HG7.out.2.1 (Nat.le_trans HWS.out HG7.out.1))
            have HM6 := Aside0.mk (mv_wrote HM5.out hw6 HG7.out.1)
            have HR6 := Aside0.mk (r_wrote HR5.out hw6 HG7.out.2.2)
            clear hw6
            generalize w5.setCell ⟨g7, 1, none⟩ (.int .i64 (e + a + b)) = w6 at H76 HRD6 HM6 HR6 ⊢
            go_wp2_with (first | (go_at_call 96; (with_reducible refine (p_next_bad HRD6.out HBY2.out HT3.out).mono ?_); rintro e wB ⟨rfl, hb⟩; have HMB := Aside0.mk (HM6.out.below_ hb); clear hb))
            exact bodyPost_panic rfl ⟨HMB.out, .inr ⟨HNO.out, rfl⟩⟩
          | true =>
            obtain ⟨n3, hz3, _, hn3⟩ := takB_ok ht3
            subst hz3
            have HT3 := Aside0.mk ht3
            have HN3 := Aside0.mk hn3
            obtain ⟨b3, hb3⟩ : ∃ b3, b2.drop n3 = b3 := ⟨_, rfl⟩
            have HE3 := Aside0.mk hb3
            have HBY3 := Aside0.mk (show Bytes b3 by rw [← hb3]; exact bytes_drop HBY2.out n3)
            have hwc : IntKind.i64.wrap (e + a + b + 1) = e + a + b + 1 := (i64_w _).trans (by unfold wrap64; omega)
            have HEN := Aside0.mk (show 0 ≤ e + a + b + 1 ∧ e + a + b + 1 ≤ ((i + 1 : Nat) : Int) * 4294967297 by omega)
            have HNX := Aside0.mk (show rngN many 0 bs0 = (rngN (many - (i + 1)) (e + a + b + 1) b3).map fun p => ((out ++ [⟨e + a, e + a + b, c⟩]) ++ p.1, p.2) by
              rw [HTOT.out, rng_ok ht1 hb1 ht2 hb2 ht3 hb3, Option.map_map, show many - (i + 1) = kk by have := HKK.out; omega]
              congr 1
              funext p
              simp)
            clear ht1 ht2 ht3 hb1 hb2 hb3 hn1 hn2 hn3 heb hv1 hv2
            go_wp2_with (first | (go_at_call 96; (with_reducible refine (p_next_ok HRDr.out HBY0.out HT1.out HN1.out).mono ?_); rw [HE1.out]; rintro e w1 ⟨rfl, hr, hm⟩; have HRD1 := Aside0.mk hr; have HM1 := Aside0.mk (HMr.out.trans hm); have HR1 := Aside0.mk (Kd.R_keep HRr.out (mv_keep hm) (fun _ hk => hk)); clear hr hm) | ((with_reducible refine gate_dst (N := 7) rfl ?_); refine wp_alloc_cells rfl 66 rfl _ zero_rng ?_; intro g7 hg w2 hb hB; have H72 := Aside0.mk hb; have HRD2 := Aside0.mk (rd_below HRD1.out hB); have HM2 := Aside0.mk (HM1.out.below_ hB); have HR2 := Aside0.mk (Kd.R_below HR1.out hB); have HG7 := Aside0.mk (show w.heap.size ≤ g7 ∧ g7 ≠ g ∧ some g7 ≠ v.ownBlock from ⟨by have := mv_size HM1.out; omega, by have := rd_lt HRD1.out; omega, fun e => by have := Kd.R_lt HR1.out _ e.symm; omega⟩); have c0 := (blk_cell H72.out 0).trans rfl; have c1_ := (blk_cell H72.out 1).trans rfl; have c2_ := (blk_cell H72.out 2).trans rfl; have f0 := blk_frozen H72.out 0; have f1 := blk_frozen H72.out 1; have f2 := blk_frozen H72.out 2; clear hg hb hB))
            have hw3 := ((Wrote.set w2 g7 0 (.int .i64 (e + a))).trans (Wrote.set _ g7 1 (.int .i64 0))).trans (Wrote.set _ g7 2 (.int .i64 0))
            have H73 := Aside0.mk (show (((w2.setCell ⟨g7, 0, none⟩ (.int .i64 (e + a))).setCell ⟨g7, 1, none⟩ (.int .i64 0)).setCell ⟨g7, 2, none⟩ (.int .i64 0)).heap[g7]? = some (.cells #[.int .i64 (e + a), .int .i64 0, .int .i64 0] 66 (0, 0)) from (blk_set (blk_set (blk_set H72.out 0 _) 1 _) 2 _).trans rfl)
            have HRD3 := Aside0.mk (rd_wrote HRD2.out hw3 HG7.out.2.1 (Nat.le_trans HWS.out HG7.out.1))
            have HM3 := Aside0.mk (mv_wrote HM2.out hw3 HG7.out.1)
            have HR3 := Aside0.mk (r_wrote HR2.out hw3 HG7.out.2.2)
            clear c0 c1_ c2_ f0 f1 f2 hw3
            generalize ((w2.setCell ⟨g7, 0, none⟩ (.int .i64 (e + a))).setCell ⟨g7, 1, none⟩ (.int .i64 0)).setCell ⟨g7, 2, none⟩ (.int .i64 0) = w3 at H73 HRD3 HM3 HR3 ⊢
            have H74 := Aside0.mk (blk_drew H73.out)
            have HRD4 := Aside0.mk (rd_below HRD3.out (below_drew (Below.refl _ _)))
            have HM4 := Aside0.mk (HM3.out.below_ (below_drew (Below.refl _ _)))
            have HR4 := Aside0.mk (Kd.R_below HR3.out (below_drew (Below.refl _ _)))
            refine start_ (n := 7) (S := fun w' => w'.cell? ⟨g7, 0, none⟩ = some (.int .i64 (e + a))) (ds := [6]) #[false, false, false, false, false, false, false] (by kernel_rfl) rfl rfl ((blk_cell H74.out 0).trans rfl) (fun hHeld => ?_)
            generalize w3.drew = w4 at H74 HRD4 HM4 HR4 hHeld ⊢
            refine pure_ (i := 0) (N := some 16) (v := ?_) (a' := ?_) #[true, false, false, false, false, false, false] rfl rfl (by kernel_rfl) (fun _ _ _ h => h) (Or.inl ⟨by rfl, ?_⟩) ?_ ?_
            rotate_left
            · intro w'
              go_simp
              with_reducible rfl
            rotate_left
            · simp only [Act.put, List.setIfInBounds_toArray, List.set_cons_zero, List.set_cons_succ, i64_w, i32_w]
              rfl
            refine take_ (i := 1) (N := some 17) (v := ?_) (a' := ?_) #[true, true, false, false, false, false, false] rfl rfl (by kernel_rfl) (fun _ _ _ h => h) (Or.inl ⟨by rfl, ?_⟩) hHeld ?_ ?_
            rotate_left
            · rintro w' s0
              go_simp
              with_reducible rfl
            rotate_left
            · simp only [Act.put, List.setIfInBounds_toArray, List.set_cons_zero, List.set_cons_succ, i64_w, i32_w]
              rfl
            refine pure_ (i := 2) (N := some 18) (v := ?_) (a' := ?_) #[true, true, true, false, false, false, false] rfl rfl (by kernel_rfl) (fun _ _ _ h => h) (Or.inl ⟨by rfl, ?_⟩) ?_ ?_
            rotate_left
            · intro w'
              go_simp
              with_reducible rfl
            rotate_left
            · simp only [Act.put, List.setIfInBounds_toArray, List.set_cons_zero, List.set_cons_succ, i64_w, i32_w]
              rfl
            refine one_ (i := 3) (N := some 19) #[true, true, true, true, false, false, false] rfl rfl (by kernel_rfl) (by decide) (fun K hK => ?_)
            refine (goes_ Try.func96 (by kernel_rfl) rfl #[.pointer (some ⟨g, 0, none⟩)] (by rfl) rfl rfl (by (try simp only [List.map_toArray, List.map_cons, List.map_nil]); first | done | rfl) ?_)
            (with_reducible refine (p_next_ok HRD4.out HBY1.out HT2.out HN2.out).mono ?_)
            rw [HE2.out]
            rintro e' w5 ⟨rfl, hr, hm⟩
            refine ⟨_, rfl, ?_⟩
            have HRD5 := Aside0.mk hr
            have HM5 := Aside0.mk (HM4.out.trans hm)
            have HR5 := Aside0.mk (Kd.R_keep HR4.out (mv_keep hm) (fun _ hk => hk))
            have H75 := Aside0.mk (hm.keeps H74.out HG7.out.2.1 (by simp [uN, Value.ownBlock]))
            clear hr hm
            refine hK.out _ _ ((blk_cell H75.out 0).trans rfl) (fun hHeld => ?_)
            clear hK K
            refine norm_ (a' := ?_) ?_ ?_
            rotate_left
            · show Act.put _ (some 19) _ = _
              simp only [Act.put, List.setIfInBounds_toArray, List.set_cons_zero, List.set_cons_succ, i64_w, i32_w]
              rfl
            refine pure_ (i := 4) (N := some 20) (v := .int .i64 (e + a + b)) (a' := ?_) #[true, true, true, true, true, false, false] rfl rfl (by kernel_rfl) (fun _ _ _ h => h) (Or.inl ⟨by rfl, ?_⟩) ?_ ?_
            · intro w'
              go_simp
              all_goals first | (with_reducible rfl) | exact (i64_w _).trans hwb | exact hwb
            rotate_left
            · simp only [Act.put, List.setIfInBounds_toArray, List.set_cons_zero, List.set_cons_succ, i64_w, i32_w]
              rfl
            refine pure_ (i := 5) (N := some 21) (v := ?_) (a' := ?_) #[true, true, true, true, true, true, false] rfl rfl (by kernel_rfl) (fun _ _ _ h => h) (Or.inl ⟨by rfl, ?_⟩) ?_ ?_
            rotate_left
            · intro w'
              go_simp
              with_reducible rfl
            rotate_left
            · simp only [Act.put, List.setIfInBounds_toArray, List.set_cons_zero, List.set_cons_succ, i64_w, i32_w]
              rfl
            refine last_ (i := 6) (N := none) #[true, true, true, true, true, true, true] rfl rfl (by kernel_rfl) (by decide) (fun K hK => ?_)
            have hs := (blk_cell H75.out 1).trans rfl
            have hf := blk_frozen H75.out 1
            refine skip_ (w1 := w5.setCell ⟨g7, 1, none⟩ (.int .i64 (e + a + b))) (by rfl) rfl ?_ ?_
            · first | (go_simp; done) | (go_simp; rfl)
            refine hK.out _ _ ?_
            clear hK K hs hf
            refine done_ (by kernel_rfl) ?_
            have hw6 := Wrote.set w5 g7 1 (.int .i64 (e + a + b))
            have H76 := Aside0.mk (show (w5.setCell ⟨g7, 1, none⟩ (.int .i64 (e + a + b))).heap[g7]? = some (.cells #[.int .i64 (e + a), .int .i64 (e + a + b), .int .i64 0] 66 (0, 0)) from (blk_set H75.out 1 _).trans rfl)
            have HRD6 := Aside0.mk (rd_wrote HRD5.out hw6 HG7.out.2.1 (Nat.le_trans HWS.out HG7.out.1))
            have HM6 := Aside0.mk (mv_wrote HM5.out hw6 HG7.out.1)
            have HR6 := Aside0.mk (r_wrote HR5.out hw6 HG7.out.2.2)
            clear hw6
            generalize w5.setCell ⟨g7, 1, none⟩ (.int .i64 (e + a + b)) = w6 at H76 HRD6 HM6 HR6 ⊢
            go_upto_region 8 with (first | (go_at_call 96; (with_reducible refine (p_next_ok HRD6.out HBY2.out HT3.out HN3.out).mono ?_); rw [HE3.out]; rintro e w7 ⟨rfl, hr, hm⟩; have HRD7 := Aside0.mk hr; have HM7 := Aside0.mk (HM6.out.trans hm); have HR7 := Aside0.mk (Kd.R_keep HR6.out (mv_keep hm) (fun _ hk => hk)); have H77 := Aside0.mk (hm.keeps H76.out HG7.out.2.1 (by simp [uN, Value.ownBlock])); have d2_ := (blk_cell H77.out 2).trans rfl; have e2_ := blk_frozen H77.out 2; clear hr hm))
            have hw8 := Wrote.set w7 g7 2 (.int .i64 c)
            have H78 := Aside0.mk (show (w7.setCell ⟨g7, 2, none⟩ (.int .i64 c)).heap[g7]? = some (.cells #[.int .i64 (e + a), .int .i64 (e + a + b), .int .i64 c] 66 (0, 0)) from (blk_set H77.out 2 _).trans rfl)
            have HRD8 := Aside0.mk (rd_wrote HRD7.out hw8 HG7.out.2.1 (Nat.le_trans HWS.out HG7.out.1))
            have HM8 := Aside0.mk (mv_wrote HM7.out hw8 HG7.out.1)
            have HR8 := Aside0.mk (r_wrote HR7.out hw8 HG7.out.2.2)
            clear hw8 d2_ e2_
            generalize w7.setCell ⟨g7, 2, none⟩ (.int .i64 c) = w8 at H78 HRD8 HM8 HR8 ⊢
            have k8_0 := (blk_cell H78.out 0).trans rfl
            have k8_1 := (blk_cell H78.out 1).trans rfl
            have k8_2 := (blk_cell H78.out 2).trans rfl
            go_wp2_with (first | ((with_reducible refine gate_builtin (b := .append) (xs := #[.tmp 25, .tmp 27]) rfl ?_); at_builtin; refine Kd.R_append kR (w0 := w0) w0.heap.size rfl (.tmp 25) (.tmp 27) 59 66 (.agg #[.int .i64 0, .int .i64 0, .int .i64 0]) 24 rfl Try.underlying59 info_rng rfl (by decide) (by omega) v out ⟨e + a, e + a + b, c⟩ [.int .i64 (e + a), .int .i64 (e + a + b), .int .i64 c] (fun k => k ≠ g) (fun _ => False) rfl rfl ?aP (fun _ hk => hk.elim) ?aF ?aO ?aB ?aS ?aL ?_; (case aP => exact kR_mkM _ _ _ ⟨e + a, e + a + b, c⟩); (case aB => exact mv_base HM8.out HB0.out HG0.out); (case aF => exact fun k hk => by have := rd_lt HRD8.out; omega); (case aO => exact HR8.out); (case aS => exact (mv_base HM8.out HB0.out HG0.out).size); (case aL => have h1_ := HOL.out; have h2_ := HMX.out; have h3_ := HI.out.1; omega); intro v3 w9 ho hb hg hat; have HR9 := Aside0.mk ho; have HM9 := Aside0.mk (HM8.out.beside hg HVO.out); have HRD9 := Aside0.mk (rd_same HRD8.out (rd_grown HRD8.out hg HR8.out.1) hb); have HVO9 := Aside0.mk (show ∀ k, v3.ownBlock = some k → w.heap.size ≤ k from fun k hk => own_up hat HVO.out (mv_size HM8.out) k hk); have k9_1 := (blk_cell (blk_grown H78.out hg HG7.out.2.2) 1).trans rfl; clear ho hb hg hat))
            go_roundg (many + 1 - (i + 1))
            case measure => have h1_ := HI.out.2.1; have h2_ := HLT.out; omega
            case rel => exact ⟨i + 1, e + a + b + 1, b3, out ++ [⟨e + a, e + a + b, c⟩], v3, rfl, rfl, by first | rfl | go_num | rw [hwi], ⟨HLT.out, Nat.le_refl _, HNX.out⟩, HEN, HBY3, ⟨by rw [List.length_append, HOL.out]; rfl⟩, HVO9, HRD9, HM9, HR9⟩
    · have q0 := decide_eq_false (show ¬ (i : Int) < (many : Int) by omega)
      have q1 := decide_eq_false hlt
      have HE := Aside0.mk (show rngN many 0 bs0 = some (out, bs) by
        rw [HI.out.2.2, show many - i = 0 by omega]
        simp [rngN])
      clear hlt
      go_wp2
      go_ret
      exact ⟨HMr.out, .inl ⟨out, bs, v, HE.out, by first | rfl | (simp; done), HRr.out, HRDr.out⟩⟩
theorem und_cut : Try.prog.underlying 127 = some (.struct #[]) := by kernel_rfl
theorem run_cut (w : World) : (Instr.typeAssert (.iface 127 (.agg #[])) 20 127 true).run Try.prog w = .ok (.tuple #[.agg #[], .bool true]) w := by
  unfold Instr.typeAssert
  simp [Sem.run_bind, run_underlying und_cut w]
theorem wp_act {P : Program} {c : Code} {Q : Exit → Act → World → Prop} {a : Act} {w : World} (a2 : Act) (h : a = a2) (k : c.wp P Q a2 w) : c.wp P Q a w := by subst h; exact k
set_option maxHeartbeats 8000000 in
set_option maxRecDepth 100000 in
theorem p_cl_idle (g2 g3 : Nat) (w : World) : CallsD Try.prog 95 #[.pointer (some ⟨g2, 0, none⟩), .pointer (some ⟨g3, 0, none⟩)] .returning w fun e u' w' => u' = .returning ∧ e = .returned (.tuple #[]) ∧ Below w.heap.size w w' := by
  refine callsD_of_wpS Try.func95 rfl fun c₀ cs hu => ?_
  apply wpS_seq
  apply wpS_region
  simp [wpOpsS, go_sem, recoverD, hu, Try.ntmps95, Exit.thenS]
  refine wpS_of_wp ?_
  refine wp_act { tmps := #[.pointer (some ⟨g2, 0, none⟩), .pointer (some ⟨g3, 0, none⟩), undef, undef, undef, .nilIface, undef, undef, undef, undef, undef, undef], defers := [] } rfl ?_
  go_wp2
  cases c₀
  have hr := Below.refl w.heap.size w
  simp_all [bodyPostS, results, Try.results95]
set_option maxRecDepth 100000 in
set_option maxHeartbeats 8000000 in
theorem p_cl_cut {g2 g3 : Nat} {w : World} {v : Value} {x y : Int} (h2 : w.heap[g2]? = some (.cells #[v, .int .i64 x] 97 (0, 0))) (h3 : w.heap[g3]? = some (.cells #[.int .i64 y] 25 (0, 0))) : CallsD Try.prog 95 #[.pointer (some ⟨g2, 0, none⟩), .pointer (some ⟨g3, 0, none⟩)] (.panicking [{ v := .iface 127 (.agg #[]), recovered := false }]) w fun e u' w' => u' = .panicking [{ v := .iface 127 (.agg #[]), recovered := true }] ∧ e = .returned (.tuple #[]) ∧ w'.heap[g2]? = some (.cells #[.slice none 0 0, .int .i64 0] 97 (0, 0)) ∧ w'.heap[g3]? = some (.cells #[.int .i64 2] 25 (0, 0)) ∧ (∀ base, base ≤ w.heap.size → base ≤ g2 → base ≤ g3 → Below base w w') := by
  refine callsD_of_wpS Try.func95 rfl fun c₀ cs hu => ?_
  apply wpS_seq
  apply wpS_region
  simp [wpOpsS, go_sem, recoverD, hu, Try.ntmps95, Exit.thenS]
  refine wpS_of_wp ?_
  refine wp_act { tmps := #[.pointer (some ⟨g2, 0, none⟩), .pointer (some ⟨g3, 0, none⟩), undef, undef, undef, .iface 127 (.agg #[]), undef, undef, undef, undef, undef, undef], defers := [] } rfl ?_
  have h21 := blk_alloc h2 (.cells #[] 127 (0, 0))
  have h31 := blk_alloc h3 (.cells #[] 127 (0, 0))
  have a0 := (blk_cell h21 0).trans rfl
  have a1 := (blk_cell h21 1).trans rfl
  have b0 := (blk_cell h31 0).trans rfl
  have fa0 := blk_frozen h21 0
  have fa1 := blk_frozen h21 1
  have fb0 := blk_frozen h31 0
  have hne : g2 ≠ g3 := Go.Proofs.YtmkgihmchkphaaaW.PrintWords.blk_ne h2 h3 (by decide)
  have hne2 : (g3 = g2) = False := eq_false (Ne.symm hne)
  have hne3 : (g2 = g3) = False := eq_false hne
  have hta := run_cut
  go_wp2
  have hw1 := (Wrote.set (w.alloc (.cells #[] 127 (0, 0))) g2 0 (.slice none 0 0)).trans (Wrote.set _ g2 1 (.int .i64 0))
  have hw2 := Wrote.set (((w.alloc (.cells #[] 127 (0, 0))).setCell ⟨g2, 0, none⟩ (.slice none 0 0)).setCell ⟨g2, 1, none⟩ (.int .i64 0)) g3 0 (.int .i64 2)
  have r2 := hw2.blk ((blk_set (blk_set h21 0 (.slice none 0 0)) 1 (.int .i64 0)).trans rfl) hne
  have r3 := blk_set (hw1.blk h31 (Ne.symm hne)) 0 (.int .i64 2)
  have r4 : ∀ base, base ≤ w.heap.size → base ≤ g2 → base ≤ g3 → Below base w (((((w.alloc (.cells #[] 127 (0, 0))).setCell ⟨g2, 0, none⟩ (.slice none 0 0)).setCell ⟨g2, 1, none⟩ (.int .i64 0))).setCell ⟨g3, 0, none⟩ (.int .i64 2)) := fun base hb1 hb2 hb3 => hw2.below (hw1.below ((below_alloc (Below.refl w.heap.size w) _).mono hb1) hb2) hb3
  clear a0 a1 b0 fa0 fa1 fb0 hta hw1 hw2 h21 h31 hne2 hne3 hne
  generalize ((((w.alloc (.cells #[] 127 (0, 0))).setCell ⟨g2, 0, none⟩ (.slice none 0 0)).setCell ⟨g2, 1, none⟩ (.int .i64 0)).setCell ⟨g3, 0, none⟩ (.int .i64 2)) = w9 at r2 r3 r4 ⊢
  have r2 : w9.heap[g2]? = some (.cells #[.slice none 0 0, .int .i64 0] 97 (0, 0)) := r2
  have r3 : w9.heap[g3]? = some (.cells #[.int .i64 2] 25 (0, 0)) := r3
  clear h2 h3
  cases c₀
  simp [bodyPostS, results, Try.results95]
  exact ⟨r2, r3, r4⟩
def rdF (bs : List Int) : (List Rg × Int) × Int :=
  if (takB bs).2.2 = true then
    if (takB (bs.drop (takB bs).2.1.toNat)).2.2 = true then
      if (takB (bs.drop (takB bs).2.1.toNat)).1 > 4096 then (([], 0), 6)
      else match rngN (takB (bs.drop (takB bs).2.1.toNat)).1.toNat 0 ((bs.drop (takB bs).2.1.toNat).drop (takB (bs.drop (takB bs).2.1.toNat)).2.1.toNat) with
        | some (out, rest) => if rest.length > 0 then (([], 0), 2) else ((out, (takB bs).1), 0)
        | none => (([], 0), 2)
    else (([], 0), 2)
  else (([], 0), 2)
def ReadR (w0 : World) (bs : List Int) (e : Ending) (w' : World) : Prop := ∃ (A : Option Addr) (c : Nat), e = .returned (.tuple #[.agg #[.slice A (rdF bs).1.1.length c, .int .i64 (rdF bs).1.2], .int .i64 (rdF bs).2]) ∧ Kd.C kR w' A (rdF bs).1.1.length (rdF bs).1.1 ∧ (rdF bs).1.1.length ≤ c ∧ Below w0.heap.size w0 w'
theorem door_w {w : World} {g2 g3 : Nat} {v x a b c y : Value} (h2 : w.heap[g2]? = some (.cells #[v, x] 97 (0, 0))) (h3 : w.heap[g3]? = some (.cells #[y] 25 (0, 0))) : (((w.setCell ⟨g2, 0, none⟩ a).setCell ⟨g2, 1, none⟩ b).setCell ⟨g3, 0, none⟩ c).heap[g2]? = some (.cells #[a, b] 97 (0, 0)) ∧ (((w.setCell ⟨g2, 0, none⟩ a).setCell ⟨g2, 1, none⟩ b).setCell ⟨g3, 0, none⟩ c).heap[g3]? = some (.cells #[c] 25 (0, 0)) ∧ (∀ (w0 : World) (base : Nat), Below base w0 w → base ≤ g2 → base ≤ g3 → Below base w0 (((w.setCell ⟨g2, 0, none⟩ a).setCell ⟨g2, 1, none⟩ b).setCell ⟨g3, 0, none⟩ c)) := by
  have hne : g2 ≠ g3 := Go.Proofs.YtmkgihmchkphaaaW.PrintWords.blk_ne h2 h3 (by decide)
  have hw1 := (Wrote.set w g2 0 a).trans (Wrote.set _ g2 1 b)
  have hw2 := Wrote.set ((w.setCell ⟨g2, 0, none⟩ a).setCell ⟨g2, 1, none⟩ b) g3 0 c
  exact ⟨hw2.blk ((blk_set (blk_set h2 0 a) 1 b).trans rfl) hne, (blk_set (hw1.blk h3 (Ne.symm hne)) 0 c).trans rfl, fun w0 base hb h4 h5 => hw2.below (hw1.below hb h4) h5⟩
theorem r_set2 {w : World} {g2 g3 base g : Nat} {v x a b c y u : Value} {xs : List Rg} (hR : Kd.R kR 66 w base (fun k => k ≠ g) u xs) (h2 : w.heap[g2]? = some (.cells #[v, x] 97 (0, 0))) (h3 : w.heap[g3]? = some (.cells #[y] 25 (0, 0))) : Kd.R kR 66 (((w.setCell ⟨g2, 0, none⟩ a).setCell ⟨g2, 1, none⟩ b).setCell ⟨g3, 0, none⟩ c) base (fun k => k ≠ g) u xs := by
  have hne : g2 ≠ g3 := Go.Proofs.YtmkgihmchkphaaaW.PrintWords.blk_ne h2 h3 (by decide)
  have hw1 := (Wrote.set w g2 0 a).trans (Wrote.set _ g2 1 b)
  exact Kd.R_set (Kd.R_set (Kd.R_set hR h2 (by decide) 0 a) (blk_set h2 0 a) (by decide) 1 b) (hw1.blk h3 (Ne.symm hne)) (by decide) 0 c
theorem p_readrs_none {w0 w : World} {g : Nat} {bs0 : List Int} (h : RdAt w0 w g bs0) (hb : Bytes bs0) (many : Nat) (hm : many ≤ 4096) (hn : rngN many 0 bs0 = none) : Calls Try.prog 97 #[.pointer (some ⟨g, 0, none⟩), .int .i64 (many : Int)] w fun e w' => e = .panicked [{ v := .iface 127 (.agg #[]), recovered := false }] ∧ Mv w w' g uN uN := by
  refine (p_readrs h hb many hm).mono fun e w' ⟨h1, h2⟩ => ?_
  rcases h2 with ⟨out, rest, v, h3, _⟩ | ⟨_, h3⟩
  · rw [hn] at h3; simp at h3
  · exact ⟨h3, h1⟩
theorem p_readrs_some {w0 w : World} {g : Nat} {bs0 rest : List Int} {out : List Rg} (h : RdAt w0 w g bs0) (hb : Bytes bs0) (many : Nat) (hm : many ≤ 4096) (hn : rngN many 0 bs0 = some (out, rest)) : Calls Try.prog 97 #[.pointer (some ⟨g, 0, none⟩), .int .i64 (many : Int)] w fun e w' => Mv w w' g uN uN ∧ ∃ (A : Option Addr) (c : Nat), e = .returned (.slice A out.length c) ∧ Kd.R kR 66 w' w0.heap.size (fun k => k ≠ g) (.slice A out.length c) out ∧ RdAt w0 w' g rest := by
  refine (p_readrs h hb many hm).mono fun e w' ⟨h1, h2⟩ => ?_
  rcases h2 with ⟨out', rest', v, h3, h4, h5, h6⟩ | ⟨h3, _⟩
  · rw [hn] at h3
    injection h3 with h3
    injection h3 with h3 h7
    subst h3
    subst h7
    obtain ⟨A, c, e1⟩ := Kd.R_slice h5
    subst e1
    exact ⟨h1, A, c, h4, h5, h6⟩
  · rw [hn] at h3; simp at h3
theorem zero_tt : (Try.prog.info? 97).map (·.zero) = some (some (.agg #[.slice none 0 0, .int .i64 0])) := by kernel_rfl
theorem zero_te : (Try.prog.info? 25).map (·.zero) = some (some (.int .i64 0)) := by kernel_rfl
set_option maxHeartbeats 8000000 in
set_option maxRecDepth 100000 in
theorem p_read {w : World} {A : Option Addr} {c : Nat} {bs : List Int} (hC : Kd.C (Kd.int .u8) w A bs.length bs) (hc : bs.length ≤ c) (hb : Bytes bs) :
    Calls Try.prog 78 #[.slice A bs.length c] w (ReadR w bs) := by
  unfold ReadR
  have HC := Aside0.mk hC
  have HCC := Aside0.mk hc
  have HBY := Aside0.mk hb
  have hmf : ∀ (fn : Fn) (first cap : Array Value) (w : World), (Instr.makeFunc fn first cap).run Try.prog w = .ok (.func fn first cap) w := fun _ _ _ _ => rfl
  clear hC hc hb
  rcases ht1 : takB bs with ⟨n0, z1, t1⟩
  cases t1 with
  | false =>
    have HT1 := Aside0.mk ht1
    have HRF := Aside0.mk (show rdF bs = (([], 0), 2) by unfold rdF; rw [ht1]; rfl)
    clear ht1
    go_enter_defers Try.func78, Try.ntmps78
    go_wp2_with (first | ((with_reducible refine gate_dst (N := 2) rfl ?_); refine wp_alloc_cells rfl 97 rfl _ zero_tt ?_; intro g2 hg w1 hb hB; have H21 := Aside0.mk hb; have HB1 := Aside0.mk hB; have HG2 := Aside0.mk (show w.heap.size ≤ g2 by omega); clear hg hb hB) | ((with_reducible refine gate_dst (N := 3) rfl ?_); refine wp_alloc_one rfl 25 rfl (.int .i64 0) zero_te rfl ?_; intro g3 hg w2 hb hB; have H32 := Aside0.mk hb; have H22 := Aside0.mk (blk_below H21.out hB); have HB2 := Aside0.mk (below_step HB1.out hB); have HG3 := Aside0.mk (show w.heap.size ≤ g3 by have := HB1.out.size; omega); have HNE := Aside0.mk (show g2 ≠ g3 by have := blk_lt H21.out; omega); clear hg hb hB) | ((with_reducible refine gate_dst (N := 9) rfl ?_); refine box_event ?hg (N := 9) ?hd (cs := #[.slice A bs.length c]) (t := 130) ?hr ?_; (case hd => rfl); (case hg => rfl); (case hr => first | (go_simp; done) | (go_simp; rfl)); intro g9 hg w3 hbox hb; have H33 := Aside0.mk (blk_below H32.out hb); have H23 := Aside0.mk (blk_below H22.out hb); have HRD3 := Aside0.mk (show RdAt w w3 g9 bs from ⟨⟨A, c, hbox, HC.out, HCC.out⟩, below_step HB2.out hb, by have := HB2.out.size; omega⟩); have HG9 := Aside0.mk (show g2 ≠ g9 ∧ g3 ≠ g9 by have := blk_lt H22.out; have := blk_lt H32.out; omega); clear hg hbox hb) | (go_at_call 96; (with_reducible refine (p_next_bad HRD3.out HBY.out HT1.out).mono ?_); rintro e wB ⟨rfl, hb⟩; have HBB := Aside0.mk (below_step HRD3.out.2.1 hb); have H2B := Aside0.mk (blk_below H23.out hb); have H3B := Aside0.mk (blk_below H33.out hb); clear hb))
    refine leaves_cons (f := 95) (args := #[.pointer (some ⟨g2, 0, none⟩), .pointer (some ⟨g3, 0, none⟩)]) (by simp) (by simp [go_sem]) ?_
    refine (p_cl_cut H2B.out H3B.out).mono ?_
    rintro e u' w9 ⟨rfl, rfl, r2, r3, r4⟩
    have z0 := (blk_cell r2 0).trans rfl
    have z1 := (blk_cell r2 1).trans rfl
    have z3 := (blk_cell r3 0).trans rfl
    refine ⟨.tuple #[.agg #[.slice none 0 0, .int .i64 0], .int .i64 2], ?_, ?_⟩
    · simp [results, Try.results78, go_sem, z0, z1, z3]
    rw [HRF.out]
    exact ⟨none, 0, rfl, Kd.C_nil _ _, Nat.le_refl _, HBB.out.trans (r4 _ HBB.out.size HG2.out HG3.out)⟩
  | true =>
    obtain ⟨k1, hz1, _, hk1⟩ := takB_ok ht1
    subst hz1
    have HT1 := Aside0.mk ht1
    have HN1 := Aside0.mk hk1
    obtain ⟨b1, hb1⟩ : ∃ b1, bs.drop k1 = b1 := ⟨_, rfl⟩
    have HE1 := Aside0.mk hb1
    have HBY1 := Aside0.mk (show Bytes b1 by rw [← hb1]; exact bytes_drop HBY.out k1)
    rcases ht2 : takB b1 with ⟨m2, z2, t2⟩
    cases t2 with
    | false =>
      have HT2 := Aside0.mk ht2
      have HRF := Aside0.mk (show rdF bs = (([], 0), 2) by unfold rdF; rw [ht1]; simp only [if_true, Int.toNat_natCast]; rw [hb1, ht2]; rfl)
      clear ht1 ht2 hb1 hk1
      go_enter_defers Try.func78, Try.ntmps78
      go_wp2_with (first | ((with_reducible refine gate_dst (N := 2) rfl ?_); refine wp_alloc_cells rfl 97 rfl _ zero_tt ?_; intro g2 hg w1 hb hB; have H21 := Aside0.mk hb; have HB1 := Aside0.mk hB; have HG2 := Aside0.mk (show w.heap.size ≤ g2 by omega); clear hg hb hB) | ((with_reducible refine gate_dst (N := 3) rfl ?_); refine wp_alloc_one rfl 25 rfl (.int .i64 0) zero_te rfl ?_; intro g3 hg w2 hb hB; have H32 := Aside0.mk hb; have H22 := Aside0.mk (blk_below H21.out hB); have HB2 := Aside0.mk (below_step HB1.out hB); have HG3 := Aside0.mk (show w.heap.size ≤ g3 by have := HB1.out.size; omega); have HNE := Aside0.mk (show g2 ≠ g3 by have := blk_lt H21.out; omega); clear hg hb hB) | ((with_reducible refine gate_dst (N := 9) rfl ?_); refine box_event ?hg (N := 9) ?hd (cs := #[.slice A bs.length c]) (t := 130) ?hr ?_; (case hd => rfl); (case hg => rfl); (case hr => first | (go_simp; done) | (go_simp; rfl)); intro g9 hg w3 hbox hb; have H33 := Aside0.mk (blk_below H32.out hb); have H23 := Aside0.mk (blk_below H22.out hb); have HRD3 := Aside0.mk (show RdAt w w3 g9 bs from ⟨⟨A, c, hbox, HC.out, HCC.out⟩, below_step HB2.out hb, by have := HB2.out.size; omega⟩); have HG9 := Aside0.mk (show g2 ≠ g9 ∧ g3 ≠ g9 by have := blk_lt H22.out; have := blk_lt H32.out; omega); clear hg hbox hb) | (go_at_call 96; (with_reducible refine (p_next_ok HRD3.out HBY.out HT1.out HN1.out).mono ?_); rw [HE1.out]; rintro e w4 ⟨rfl, hr, hm⟩; have HRD4 := Aside0.mk hr; have H24 := Aside0.mk (hm.keeps H23.out HG9.out.1 (by simp [uN, Value.ownBlock])); have H34 := Aside0.mk (hm.keeps H33.out HG9.out.2 (by simp [uN, Value.ownBlock])); have a1_ := (blk_cell H24.out 1).trans rfl; have fa1_ := blk_frozen H24.out 1; clear hr hm) | (go_at_call 96; have hw5 := Wrote.set w4 g2 1 (.int .i64 n0); have H25 := Aside0.mk (show (w4.setCell ⟨g2, 1, none⟩ (.int .i64 n0)).heap[g2]? = some (.cells #[.slice none 0 0, .int .i64 n0] 97 (0, 0)) from (blk_set H24.out 1 _).trans rfl); have HRD5 := Aside0.mk (rd_wrote HRD4.out hw5 HG9.out.1 HG2.out); have H35 := Aside0.mk (hw5.blk H34.out (Ne.symm HNE.out)); (with_reducible refine (p_next_bad HRD5.out HBY1.out HT2.out).mono ?_); rintro e wB ⟨rfl, hb⟩; have HBB := Aside0.mk (below_step HRD5.out.2.1 hb); have H2B := Aside0.mk (blk_below H25.out hb); have H3B := Aside0.mk (blk_below H35.out hb); clear hw5 hb))
      refine leaves_cons (f := 95) (args := #[.pointer (some ⟨g2, 0, none⟩), .pointer (some ⟨g3, 0, none⟩)]) (by simp) (by simp [go_sem]) ?_
      refine (p_cl_cut H2B.out H3B.out).mono ?_
      rintro e u' w9 ⟨rfl, rfl, r2, r3, r4⟩
      have z0 := (blk_cell r2 0).trans rfl
      have z1 := (blk_cell r2 1).trans rfl
      have z3 := (blk_cell r3 0).trans rfl
      refine ⟨.tuple #[.agg #[.slice none 0 0, .int .i64 0], .int .i64 2], ?_, ?_⟩
      · simp [results, Try.results78, go_sem, z0, z1, z3]
      rw [HRF.out]
      exact ⟨none, 0, rfl, Kd.C_nil _ _, Nat.le_refl _, HBB.out.trans (r4 _ HBB.out.size HG2.out HG3.out)⟩
    | true =>
      obtain ⟨k2, hz2, _, hk2⟩ := takB_ok ht2
      subst hz2
      have hv2 := takB_val HBY1.out ht2
      have HT2 := Aside0.mk ht2
      have HN2 := Aside0.mk hk2
      obtain ⟨b2, hb2⟩ : ∃ b2, b1.drop k2 = b2 := ⟨_, rfl⟩
      have HE2 := Aside0.mk hb2
      have HBY2 := Aside0.mk (show Bytes b2 by rw [← hb2]; exact bytes_drop HBY1.out k2)
      have hF : rdF bs = if m2 > 4096 then ((([] : List Rg), (0 : Int)), (6 : Int)) else match rngN m2.toNat 0 b2 with
          | some (out, rest) => if rest.length > 0 then (([], 0), 2) else ((out, n0), 0)
          | none => (([], 0), 2) := by
        unfold rdF
        rw [ht1]
        simp only [if_true, Int.toNat_natCast]
        rw [hb1, ht2]
        simp only [if_true, Int.toNat_natCast]
        rw [hb2]
      by_cases hm : m2 > 4096
      · have q0 : decide (m2 > 4096) = true := decide_eq_true hm
        have q1 : decide (4096 < m2) = true := decide_eq_true hm
        have HRF := Aside0.mk (hF.trans (if_pos hm))
        clear ht1 ht2 hb1 hb2 hk1 hk2 hv2 hF hm
        go_enter_defers Try.func78, Try.ntmps78
        go_wp2_with (first | ((with_reducible refine gate_dst (N := 2) rfl ?_); refine wp_alloc_cells rfl 97 rfl _ zero_tt ?_; intro g2 hg w1 hb hB; have H21 := Aside0.mk hb; have HB1 := Aside0.mk hB; have HG2 := Aside0.mk (show w.heap.size ≤ g2 by omega); clear hg hb hB) | ((with_reducible refine gate_dst (N := 3) rfl ?_); refine wp_alloc_one rfl 25 rfl (.int .i64 0) zero_te rfl ?_; intro g3 hg w2 hb hB; have H32 := Aside0.mk hb; have H22 := Aside0.mk (blk_below H21.out hB); have HB2 := Aside0.mk (below_step HB1.out hB); have HG3 := Aside0.mk (show w.heap.size ≤ g3 by have := HB1.out.size; omega); have HNE := Aside0.mk (show g2 ≠ g3 by have := blk_lt H21.out; omega); clear hg hb hB) | ((with_reducible refine gate_dst (N := 9) rfl ?_); refine box_event ?hg (N := 9) ?hd (cs := #[.slice A bs.length c]) (t := 130) ?hr ?_; (case hd => rfl); (case hg => rfl); (case hr => first | (go_simp; done) | (go_simp; rfl)); intro g9 hg w3 hbox hb; have H33 := Aside0.mk (blk_below H32.out hb); have H23 := Aside0.mk (blk_below H22.out hb); have HRD3 := Aside0.mk (show RdAt w w3 g9 bs from ⟨⟨A, c, hbox, HC.out, HCC.out⟩, below_step HB2.out hb, by have := HB2.out.size; omega⟩); have HG9 := Aside0.mk (show g2 ≠ g9 ∧ g3 ≠ g9 by have := blk_lt H22.out; have := blk_lt H32.out; omega); clear hg hbox hb) | (go_at_call 96; (with_reducible refine (p_next_ok HRD3.out HBY.out HT1.out HN1.out).mono ?_); rw [HE1.out]; rintro e w4 ⟨rfl, hr, hm⟩; have HRD4 := Aside0.mk hr; have H24 := Aside0.mk (hm.keeps H23.out HG9.out.1 (by simp [uN, Value.ownBlock])); have H34 := Aside0.mk (hm.keeps H33.out HG9.out.2 (by simp [uN, Value.ownBlock])); have a1_ := (blk_cell H24.out 1).trans rfl; have fa1_ := blk_frozen H24.out 1; clear hr hm) | (go_at_call 96; have hw5 := Wrote.set w4 g2 1 (.int .i64 n0); have H25 := Aside0.mk (show (w4.setCell ⟨g2, 1, none⟩ (.int .i64 n0)).heap[g2]? = some (.cells #[.slice none 0 0, .int .i64 n0] 97 (0, 0)) from (blk_set H24.out 1 _).trans rfl); have HRD5 := Aside0.mk (rd_wrote HRD4.out hw5 HG9.out.1 HG2.out); have H35 := Aside0.mk (hw5.blk H34.out (Ne.symm HNE.out)); (with_reducible refine (p_next_ok HRD5.out HBY1.out HT2.out HN2.out).mono ?_); rw [HE2.out]; rintro e w6 ⟨rfl, hr, hm⟩; have HRD6 := Aside0.mk hr; have H26 := Aside0.mk (hm.keeps H25.out HG9.out.1 (by simp [uN, Value.ownBlock])); have H36 := Aside0.mk (hm.keeps H35.out HG9.out.2 (by simp [uN, Value.ownBlock])); clear hw5 hr hm; have p0_ := (blk_cell H26.out 0).trans rfl; have p1_ := (blk_cell H26.out 1).trans rfl; have p3_ := (blk_cell H36.out 0).trans rfl; have fp0_ := blk_frozen H26.out 0; have fp1_ := blk_frozen H26.out 1; have fp3_ := blk_frozen H36.out 0; have ne1_ := eq_false HNE.out; have ne2_ := eq_false (Ne.symm HNE.out); clear a1_ fa1_))
        refine leaves_cons (f := 95) (args := #[.pointer (some ⟨g2, 0, none⟩), .pointer (some ⟨g3, 0, none⟩)]) (by simp) (by simp [go_sem]) ?_
        refine (p_cl_idle g2 g3 _).mono ?_
        rintro e u' w9 ⟨rfl, rfl, hb9⟩
        have HBD := Aside0.mk HRD6.out.2.1
        have r2 := blk_below (door_w H26.out H36.out (a := .slice none 0 0) (b := .int .i64 0) (c := .int .i64 6)).1 hb9
        have r3 := blk_below (door_w H26.out H36.out (a := .slice none 0 0) (b := .int .i64 0) (c := .int .i64 6)).2.1 hb9
        have z0 := (blk_cell r2 0).trans rfl
        have z1 := (blk_cell r2 1).trans rfl
        have z3 := (blk_cell r3 0).trans rfl
        have rb := below_step ((door_w H26.out H36.out (a := .slice none 0 0) (b := .int .i64 0) (c := .int .i64 6)).2.2 w _ HBD.out HG2.out HG3.out) hb9
        refine ⟨.tuple #[.agg #[.slice none 0 0, .int .i64 0], .int .i64 6], ?_, ?_⟩
        · simp [results, Try.results78, go_sem, z0, z1, z3]
        rw [HRF.out]
        exact ⟨none, 0, rfl, Kd.C_nil _ _, Nat.le_refl _, rb⟩
      · rw [if_neg hm] at hF
        obtain ⟨mm, hmm⟩ : ∃ mm : Nat, m2 = (mm : Int) := ⟨m2.toNat, by omega⟩
        subst hmm
        have q0 : decide ((mm : Int) > 4096) = false := decide_eq_false hm
        have q1 : decide (4096 < (mm : Int)) = false := decide_eq_false hm
        have q2 : decide (4096 < mm) = false := decide_eq_false (by omega)
        have HMM := Aside0.mk (show mm ≤ 4096 by omega)
        rw [Int.toNat_natCast] at hF
        cases hrn : rngN mm 0 b2 with
        | none =>
          have HRN := Aside0.mk hrn
          rw [hrn] at hF
          have HRF := Aside0.mk (show rdF bs = (([], 0), 2) from hF)
          clear ht1 ht2 hb1 hb2 hk1 hk2 hv2 hF hm hrn
          go_enter_defers Try.func78, Try.ntmps78
          go_wp2_with (first | ((with_reducible refine gate_dst (N := 2) rfl ?_); refine wp_alloc_cells rfl 97 rfl _ zero_tt ?_; intro g2 hg w1 hb hB; have H21 := Aside0.mk hb; have HB1 := Aside0.mk hB; have HG2 := Aside0.mk (show w.heap.size ≤ g2 by omega); clear hg hb hB) | ((with_reducible refine gate_dst (N := 3) rfl ?_); refine wp_alloc_one rfl 25 rfl (.int .i64 0) zero_te rfl ?_; intro g3 hg w2 hb hB; have H32 := Aside0.mk hb; have H22 := Aside0.mk (blk_below H21.out hB); have HB2 := Aside0.mk (below_step HB1.out hB); have HG3 := Aside0.mk (show w.heap.size ≤ g3 by have := HB1.out.size; omega); have HNE := Aside0.mk (show g2 ≠ g3 by have := blk_lt H21.out; omega); clear hg hb hB) | ((with_reducible refine gate_dst (N := 9) rfl ?_); refine box_event ?hg (N := 9) ?hd (cs := #[.slice A bs.length c]) (t := 130) ?hr ?_; (case hd => rfl); (case hg => rfl); (case hr => first | (go_simp; done) | (go_simp; rfl)); intro g9 hg w3 hbox hb; have H33 := Aside0.mk (blk_below H32.out hb); have H23 := Aside0.mk (blk_below H22.out hb); have HRD3 := Aside0.mk (show RdAt w w3 g9 bs from ⟨⟨A, c, hbox, HC.out, HCC.out⟩, below_step HB2.out hb, by have := HB2.out.size; omega⟩); have HG9 := Aside0.mk (show g2 ≠ g9 ∧ g3 ≠ g9 by have := blk_lt H22.out; have := blk_lt H32.out; omega); clear hg hbox hb) | (go_at_call 96; (with_reducible refine (p_next_ok HRD3.out HBY.out HT1.out HN1.out).mono ?_); rw [HE1.out]; rintro e w4 ⟨rfl, hr, hm⟩; have HRD4 := Aside0.mk hr; have H24 := Aside0.mk (hm.keeps H23.out HG9.out.1 (by simp [uN, Value.ownBlock])); have H34 := Aside0.mk (hm.keeps H33.out HG9.out.2 (by simp [uN, Value.ownBlock])); have a1_ := (blk_cell H24.out 1).trans rfl; have fa1_ := blk_frozen H24.out 1; clear hr hm) | (go_at_call 96; have hw5 := Wrote.set w4 g2 1 (.int .i64 n0); have H25 := Aside0.mk (show (w4.setCell ⟨g2, 1, none⟩ (.int .i64 n0)).heap[g2]? = some (.cells #[.slice none 0 0, .int .i64 n0] 97 (0, 0)) from (blk_set H24.out 1 _).trans rfl); have HRD5 := Aside0.mk (rd_wrote HRD4.out hw5 HG9.out.1 HG2.out); have H35 := Aside0.mk (hw5.blk H34.out (Ne.symm HNE.out)); (with_reducible refine (p_next_ok HRD5.out HBY1.out HT2.out HN2.out).mono ?_); rw [HE2.out]; rintro e w6 ⟨rfl, hr, hm⟩; have HRD6 := Aside0.mk hr; have H26 := Aside0.mk (hm.keeps H25.out HG9.out.1 (by simp [uN, Value.ownBlock])); have H36 := Aside0.mk (hm.keeps H35.out HG9.out.2 (by simp [uN, Value.ownBlock])); clear hw5 hr hm) | (go_at_call 97; (with_reducible refine (p_readrs_none HRD6.out HBY2.out mm HMM.out HRN.out).mono ?_); rintro e wB ⟨rfl, hm⟩; have HBB := Aside0.mk (mv_base hm HRD6.out.2.1 HRD6.out.2.2); have H2B := Aside0.mk (hm.keeps H26.out HG9.out.1 (by simp [uN, Value.ownBlock])); have H3B := Aside0.mk (hm.keeps H36.out HG9.out.2 (by simp [uN, Value.ownBlock])); clear hm))
          refine leaves_cons (f := 95) (args := #[.pointer (some ⟨g2, 0, none⟩), .pointer (some ⟨g3, 0, none⟩)]) (by simp) (by simp [go_sem]) ?_
          refine (p_cl_cut H2B.out H3B.out).mono ?_
          rintro e u' w9 ⟨rfl, rfl, r2, r3, r4⟩
          have z0 := (blk_cell r2 0).trans rfl
          have z1 := (blk_cell r2 1).trans rfl
          have z3 := (blk_cell r3 0).trans rfl
          refine ⟨.tuple #[.agg #[.slice none 0 0, .int .i64 0], .int .i64 2], ?_, ?_⟩
          · simp [results, Try.results78, go_sem, z0, z1, z3]
          rw [HRF.out]
          exact ⟨none, 0, rfl, Kd.C_nil _ _, Nat.le_refl _, HBB.out.trans (r4 _ HBB.out.size HG2.out HG3.out)⟩
        | some p =>
          obtain ⟨out, rest⟩ := p
          have HRN := Aside0.mk hrn
          rw [hrn] at hF
          have hF : rdF bs = if rest.length > 0 then (([], 0), 2) else ((out, n0), 0) := hF
          by_cases hrs : 0 < rest.length
          · have s0 : decide ((rest.length : Int) > 0) = true := decide_eq_true (by omega)
            have s1 : decide (0 < (rest.length : Int)) = true := decide_eq_true (by omega)
            have s2 : decide (0 < rest.length) = true := decide_eq_true hrs
            have HRF := Aside0.mk (hF.trans (if_pos hrs))
            clear ht1 ht2 hb1 hb2 hk1 hk2 hv2 hF hm hrn hrs
            go_enter_defers Try.func78, Try.ntmps78
            go_wp2_with (first | ((with_reducible refine gate_dst (N := 2) rfl ?_); refine wp_alloc_cells rfl 97 rfl _ zero_tt ?_; intro g2 hg w1 hb hB; have H21 := Aside0.mk hb; have HB1 := Aside0.mk hB; have HG2 := Aside0.mk (show w.heap.size ≤ g2 by omega); clear hg hb hB) | ((with_reducible refine gate_dst (N := 3) rfl ?_); refine wp_alloc_one rfl 25 rfl (.int .i64 0) zero_te rfl ?_; intro g3 hg w2 hb hB; have H32 := Aside0.mk hb; have H22 := Aside0.mk (blk_below H21.out hB); have HB2 := Aside0.mk (below_step HB1.out hB); have HG3 := Aside0.mk (show w.heap.size ≤ g3 by have := HB1.out.size; omega); have HNE := Aside0.mk (show g2 ≠ g3 by have := blk_lt H21.out; omega); clear hg hb hB) | ((with_reducible refine gate_dst (N := 9) rfl ?_); refine box_event ?hg (N := 9) ?hd (cs := #[.slice A bs.length c]) (t := 130) ?hr ?_; (case hd => rfl); (case hg => rfl); (case hr => first | (go_simp; done) | (go_simp; rfl)); intro g9 hg w3 hbox hb; have H33 := Aside0.mk (blk_below H32.out hb); have H23 := Aside0.mk (blk_below H22.out hb); have HRD3 := Aside0.mk (show RdAt w w3 g9 bs from ⟨⟨A, c, hbox, HC.out, HCC.out⟩, below_step HB2.out hb, by have := HB2.out.size; omega⟩); have HG9 := Aside0.mk (show g2 ≠ g9 ∧ g3 ≠ g9 by have := blk_lt H22.out; have := blk_lt H32.out; omega); clear hg hbox hb) | (go_at_call 96; (with_reducible refine (p_next_ok HRD3.out HBY.out HT1.out HN1.out).mono ?_); rw [HE1.out]; rintro e w4 ⟨rfl, hr, hm⟩; have HRD4 := Aside0.mk hr; have H24 := Aside0.mk (hm.keeps H23.out HG9.out.1 (by simp [uN, Value.ownBlock])); have H34 := Aside0.mk (hm.keeps H33.out HG9.out.2 (by simp [uN, Value.ownBlock])); have a1_ := (blk_cell H24.out 1).trans rfl; have fa1_ := blk_frozen H24.out 1; clear hr hm) | (go_at_call 96; have hw5 := Wrote.set w4 g2 1 (.int .i64 n0); have H25 := Aside0.mk (show (w4.setCell ⟨g2, 1, none⟩ (.int .i64 n0)).heap[g2]? = some (.cells #[.slice none 0 0, .int .i64 n0] 97 (0, 0)) from (blk_set H24.out 1 _).trans rfl); have HRD5 := Aside0.mk (rd_wrote HRD4.out hw5 HG9.out.1 HG2.out); have H35 := Aside0.mk (hw5.blk H34.out (Ne.symm HNE.out)); (with_reducible refine (p_next_ok HRD5.out HBY1.out HT2.out HN2.out).mono ?_); rw [HE2.out]; rintro e w6 ⟨rfl, hr, hm⟩; have HRD6 := Aside0.mk hr; have H26 := Aside0.mk (hm.keeps H25.out HG9.out.1 (by simp [uN, Value.ownBlock])); have H36 := Aside0.mk (hm.keeps H35.out HG9.out.2 (by simp [uN, Value.ownBlock])); clear hw5 hr hm) | (go_at_call 97; (with_reducible refine (p_readrs_some HRD6.out HBY2.out mm HMM.out HRN.out).mono ?_); rintro e w7 ⟨hm, A7, c7, rfl, hR, hr⟩; have HB7 := Aside0.mk (mv_base hm HRD6.out.2.1 HRD6.out.2.2); have H27 := Aside0.mk (hm.keeps H26.out HG9.out.1 (by simp [uN, Value.ownBlock])); have H37 := Aside0.mk (hm.keeps H36.out HG9.out.2 (by simp [uN, Value.ownBlock])); have HR7 := Aside0.mk hR; obtain ⟨⟨A8, c8, hg8, _, _⟩, _, _⟩ := hr; have p0_ := (blk_cell H27.out 0).trans rfl; have p1_ := (blk_cell H27.out 1).trans rfl; have p3_ := (blk_cell H37.out 0).trans rfl; have fp0_ := blk_frozen H27.out 0; have fp1_ := blk_frozen H27.out 1; have fp3_ := blk_frozen H37.out 0; have p9_ := (blk_cell hg8 0).trans rfl; have ne1_ := eq_false HNE.out; have ne2_ := eq_false (Ne.symm HNE.out); have ne3_ := eq_false HG9.out.1; have ne4_ := eq_false (Ne.symm HG9.out.1); have ne5_ := eq_false HG9.out.2; have ne6_ := eq_false (Ne.symm HG9.out.2); clear hm hR hg8 a1_ fa1_))
            refine leaves_cons (f := 95) (args := #[.pointer (some ⟨g2, 0, none⟩), .pointer (some ⟨g3, 0, none⟩)]) (by simp) (by simp [go_sem]) ?_
            refine (p_cl_idle g2 g3 _).mono ?_
            rintro e u' w9 ⟨rfl, rfl, hb9⟩
            have HBD := Aside0.mk ((Wrote.set w7 g2 0 (.slice A7 out.length c7)).below HB7.out HG2.out)
            have H28 := Aside0.mk (show (w7.setCell ⟨g2, 0, none⟩ (.slice A7 out.length c7)).heap[g2]? = some (.cells #[.slice A7 out.length c7, .int .i64 n0] 97 (0, 0)) from (blk_set H27.out 0 _).trans rfl)
            have H38 := Aside0.mk ((Wrote.set w7 g2 0 (.slice A7 out.length c7)).blk H37.out (Ne.symm HNE.out))
            have r2 := blk_below (door_w H28.out H38.out (a := .slice none 0 0) (b := .int .i64 0) (c := .int .i64 2)).1 hb9
            have r3 := blk_below (door_w H28.out H38.out (a := .slice none 0 0) (b := .int .i64 0) (c := .int .i64 2)).2.1 hb9
            have z0 := (blk_cell r2 0).trans rfl
            have z1 := (blk_cell r2 1).trans rfl
            have z3 := (blk_cell r3 0).trans rfl
            have rb := below_step ((door_w H28.out H38.out (a := .slice none 0 0) (b := .int .i64 0) (c := .int .i64 2)).2.2 w _ HBD.out HG2.out HG3.out) hb9
            refine ⟨.tuple #[.agg #[.slice none 0 0, .int .i64 0], .int .i64 2], ?_, ?_⟩
            · simp [results, Try.results78, go_sem, z0, z1, z3]
            rw [HRF.out]
            exact ⟨none, 0, rfl, Kd.C_nil _ _, Nat.le_refl _, rb⟩
          · have s0 : decide ((rest.length : Int) > 0) = false := decide_eq_false (by omega)
            have s1 : decide (0 < (rest.length : Int)) = false := decide_eq_false (by omega)
            have s2 : decide (0 < rest.length) = false := decide_eq_false hrs
            have HRF := Aside0.mk (hF.trans (if_neg hrs))
            clear ht1 ht2 hb1 hb2 hk1 hk2 hv2 hF hm hrn hrs
            go_enter_defers Try.func78, Try.ntmps78
            go_wp2_with (first | ((with_reducible refine gate_dst (N := 2) rfl ?_); refine wp_alloc_cells rfl 97 rfl _ zero_tt ?_; intro g2 hg w1 hb hB; have H21 := Aside0.mk hb; have HB1 := Aside0.mk hB; have HG2 := Aside0.mk (show w.heap.size ≤ g2 by omega); clear hg hb hB) | ((with_reducible refine gate_dst (N := 3) rfl ?_); refine wp_alloc_one rfl 25 rfl (.int .i64 0) zero_te rfl ?_; intro g3 hg w2 hb hB; have H32 := Aside0.mk hb; have H22 := Aside0.mk (blk_below H21.out hB); have HB2 := Aside0.mk (below_step HB1.out hB); have HG3 := Aside0.mk (show w.heap.size ≤ g3 by have := HB1.out.size; omega); have HNE := Aside0.mk (show g2 ≠ g3 by have := blk_lt H21.out; omega); clear hg hb hB) | ((with_reducible refine gate_dst (N := 9) rfl ?_); refine box_event ?hg (N := 9) ?hd (cs := #[.slice A bs.length c]) (t := 130) ?hr ?_; (case hd => rfl); (case hg => rfl); (case hr => first | (go_simp; done) | (go_simp; rfl)); intro g9 hg w3 hbox hb; have H33 := Aside0.mk (blk_below H32.out hb); have H23 := Aside0.mk (blk_below H22.out hb); have HRD3 := Aside0.mk (show RdAt w w3 g9 bs from ⟨⟨A, c, hbox, HC.out, HCC.out⟩, below_step HB2.out hb, by have := HB2.out.size; omega⟩); have HG9 := Aside0.mk (show g2 ≠ g9 ∧ g3 ≠ g9 by have := blk_lt H22.out; have := blk_lt H32.out; omega); clear hg hbox hb) | (go_at_call 96; (with_reducible refine (p_next_ok HRD3.out HBY.out HT1.out HN1.out).mono ?_); rw [HE1.out]; rintro e w4 ⟨rfl, hr, hm⟩; have HRD4 := Aside0.mk hr; have H24 := Aside0.mk (hm.keeps H23.out HG9.out.1 (by simp [uN, Value.ownBlock])); have H34 := Aside0.mk (hm.keeps H33.out HG9.out.2 (by simp [uN, Value.ownBlock])); have a1_ := (blk_cell H24.out 1).trans rfl; have fa1_ := blk_frozen H24.out 1; clear hr hm) | (go_at_call 96; have hw5 := Wrote.set w4 g2 1 (.int .i64 n0); have H25 := Aside0.mk (show (w4.setCell ⟨g2, 1, none⟩ (.int .i64 n0)).heap[g2]? = some (.cells #[.slice none 0 0, .int .i64 n0] 97 (0, 0)) from (blk_set H24.out 1 _).trans rfl); have HRD5 := Aside0.mk (rd_wrote HRD4.out hw5 HG9.out.1 HG2.out); have H35 := Aside0.mk (hw5.blk H34.out (Ne.symm HNE.out)); (with_reducible refine (p_next_ok HRD5.out HBY1.out HT2.out HN2.out).mono ?_); rw [HE2.out]; rintro e w6 ⟨rfl, hr, hm⟩; have HRD6 := Aside0.mk hr; have H26 := Aside0.mk (hm.keeps H25.out HG9.out.1 (by simp [uN, Value.ownBlock])); have H36 := Aside0.mk (hm.keeps H35.out HG9.out.2 (by simp [uN, Value.ownBlock])); clear hw5 hr hm) | (go_at_call 97; (with_reducible refine (p_readrs_some HRD6.out HBY2.out mm HMM.out HRN.out).mono ?_); rintro e w7 ⟨hm, A7, c7, rfl, hR, hr⟩; have HB7 := Aside0.mk (mv_base hm HRD6.out.2.1 HRD6.out.2.2); have H27 := Aside0.mk (hm.keeps H26.out HG9.out.1 (by simp [uN, Value.ownBlock])); have H37 := Aside0.mk (hm.keeps H36.out HG9.out.2 (by simp [uN, Value.ownBlock])); have HR7 := Aside0.mk hR; obtain ⟨⟨A8, c8, hg8, _, _⟩, _, _⟩ := hr; have p0_ := (blk_cell H27.out 0).trans rfl; have p1_ := (blk_cell H27.out 1).trans rfl; have p3_ := (blk_cell H37.out 0).trans rfl; have fp0_ := blk_frozen H27.out 0; have fp1_ := blk_frozen H27.out 1; have fp3_ := blk_frozen H37.out 0; have p9_ := (blk_cell hg8 0).trans rfl; have ne1_ := eq_false HNE.out; have ne2_ := eq_false (Ne.symm HNE.out); have ne3_ := eq_false HG9.out.1; have ne4_ := eq_false (Ne.symm HG9.out.1); have ne5_ := eq_false HG9.out.2; have ne6_ := eq_false (Ne.symm HG9.out.2); clear hm hR hg8 a1_ fa1_))
            refine leaves_cons (f := 95) (args := #[.pointer (some ⟨g2, 0, none⟩), .pointer (some ⟨g3, 0, none⟩)]) (by simp) (by simp [go_sem]) ?_
            refine (p_cl_idle g2 g3 _).mono ?_
            rintro e u' w9 ⟨rfl, rfl, hb9⟩
            have HBD := Aside0.mk ((Wrote.set w7 g2 0 (.slice A7 out.length c7)).below HB7.out HG2.out)
            have H28 := Aside0.mk (show (w7.setCell ⟨g2, 0, none⟩ (.slice A7 out.length c7)).heap[g2]? = some (.cells #[.slice A7 out.length c7, .int .i64 n0] 97 (0, 0)) from (blk_set H27.out 0 _).trans rfl)
            have H38 := Aside0.mk ((Wrote.set w7 g2 0 (.slice A7 out.length c7)).blk H37.out (Ne.symm HNE.out))
            have r2 := blk_below (door_w H28.out H38.out (a := .slice A7 out.length c7) (b := .int .i64 n0) (c := .int .i64 0)).1 hb9
            have r3 := blk_below (door_w H28.out H38.out (a := .slice A7 out.length c7) (b := .int .i64 n0) (c := .int .i64 0)).2.1 hb9
            have z0 := (blk_cell r2 0).trans rfl
            have z1 := (blk_cell r2 1).trans rfl
            have z3 := (blk_cell r3 0).trans rfl
            have rb := below_step ((door_w H28.out H38.out (a := .slice A7 out.length c7) (b := .int .i64 n0) (c := .int .i64 0)).2.2 w _ HBD.out HG2.out HG3.out) hb9
            refine ⟨.tuple #[.agg #[.slice A7 out.length c7, .int .i64 n0], .int .i64 0], ?_, ?_⟩
            · simp [results, Try.results78, go_sem, z0, z1, z3]
            rw [HRF.out]
            have rr := r_set2 (a := .slice A7 out.length c7) (b := .int .i64 n0) (c := .int .i64 0) (Kd.R_set HR7.out H27.out (by decide) 0 (.slice A7 out.length c7)) H28.out H38.out
            obtain ⟨A9, c9, e9, hc9, hC9⟩ := Kd.R_reads rr
            injection e9 with e9 e10 e11
            subst e9
            subst e11
            exact ⟨A7, c7, rfl, Kd.C_below hC9 hb9, hc9, rb⟩
theorem eqb_gen {a b : List Int} (hl : a.length = b.length) (hn : a.length ≤ 9223372036854775807) : ∀ (k i : Nat), a.length + 1 ≤ k + i → i ≤ a.length → (∀ j, j < i → a.getD j 0 = b.getD j 0) → PPackedNumbers.slices_Equal_byte_byte.l0 k a b (a.length : Int) (i : Int) = some (decide (a = b))
  | 0, i, h, h2, _ => by omega
  | k + 1, i, h, h2, hj => by
    unfold PPackedNumbers.slices_Equal_byte_byte.l0
    by_cases hi : i < a.length
    · have er : ∀ l : List Int, rd l (i : Int) = l.getD i 0 := fun l => by unfold rd; rw [Int.toNat_natCast]
      rw [if_pos (by omega), if_pos (by omega), if_pos (by omega), if_pos (by omega), er, er, up1 hi hn]
      by_cases e : a.getD i 0 = b.getD i 0
      · rw [if_pos e]
        exact eqb_gen hl hn k (i + 1) (by omega) (by omega) (fun j h4 => by
          rcases Nat.lt_or_ge j i with h5 | h5
          · exact hj j h5
          · rw [show j = i by omega]; exact e)
      · rw [if_neg e, decide_eq_false (fun h5 => e (by rw [h5]))]
    · rw [if_neg (by omega), decide_eq_true]
      apply List.ext_getElem hl
      intro j h3 h4
      have h5 := hj j (by omega)
      simpa [List.getD, h3, h4] using h5
theorem p_eqb_gen {w : World} {A A1 : Option Addr} {c c1 : Nat} {l m : List Int} (h : Kd.C (Kd.int .u8) w A l.length l) (hc : l.length ≤ c) (h1 : Kd.C (Kd.int .u8) w A1 m.length m) (hc1 : m.length ≤ c1) : Calls Try.prog 27 #[.slice A l.length c, .slice A1 m.length c1] w fun e w' => e = .returned (.bool (decide (l = m))) ∧ Below w.heap.size w w' := by
  refine (PPackedNumbers.slices_Equal_byte_byte.calls (l.length + 1) A c l A1 c1 m (decide (l = m)) w h hc h1 hc1 ?_).mono fun e w' ⟨a, b⟩ => ⟨a, drawn_below0 b⟩
  unfold PPackedNumbers.slices_Equal_byte_byte.f
  by_cases e : l.length = m.length
  · rw [if_pos (by omega)]
    exact eqb_gen e h.2.1 _ 0 (by omega) (by omega) (fun j hj => by omega)
  · rw [if_neg (by omega), decide_eq_false (fun h5 => e (by rw [h5]))]
/-- What Encode answers. -/
def encF (l : List Rg) (z : Int) : List Int × Int := if chk l = 0 then (if fitP z = true ∧ badR l = false then (encB z (mrgF z l), 0) else ([], 1)) else ([], chk l)
def EncR (w : World) (l : List Rg) (z : Int) (e : Ending) (w' : World) : Prop := ∃ (A2 : Option Addr) (c2 : Nat), e = .returned (.tuple #[.slice A2 (encF l z).1.length c2, .int .i64 (encF l z).2]) ∧ Kd.C (Kd.int .u8) w' A2 (encF l z).1.length (encF l z).1 ∧ (encF l z).1.length ≤ c2 ∧ Below w.heap.size w w'
set_option maxHeartbeats 8000000 in
set_option maxRecDepth 100000 in
theorem p_encode_all {w : World} {A : Option Addr} {cc : Nat} {l : List Rg} (hC : Kd.C kR w A l.length l) (z : Int) : Calls Try.prog 39 #[.slice A l.length cc, .int .i64 z] w (EncR w l z) := by
  unfold EncR
  have HC := Aside0.mk hC
  have hk39 := Try.underlying66
  by_cases hk : chk l = 0
  · by_cases hf : fitP z = true
    · by_cases hb : badR l = false
      · have he : encF l z = (encB z (mrgF z l), 0) := by unfold encF; rw [if_pos hk, if_pos ⟨hf, hb⟩]
        rw [he]
        exact p_encode hC hk z hf hb
      · have hb : badR l = true := by simpa using hb
        have HE := Aside0.mk (show encF l z = ([], 1) by unfold encF; rw [if_pos hk, if_neg (fun h => by rw [hb] at h; simp at h)])
        have HX := Aside0.mk hk
        have HF := Aside0.mk hf
        have HBAD := Aside0.mk hb
        clear hC hk hf hb
        go_enter Try.func39, Try.ntmps39
        go_wp2_with (first | (go_at_call 44; (with_reducible refine (p_build HC.out HX.out z).mono ?_); rintro e w2 ⟨g, fs, bs, rfl, hb, hT, _, hBt⟩; have HB2 := Aside0.mk hb; clear hb hT hBt) | (go_at_call 60; (with_reducible refine (p_fits z w2).mono ?_); rw [HF.out]; rintro e w3 ⟨rfl, hb⟩; have HB3 := Aside0.mk (below_step HB2.out hb); clear hb) | (go_at_call 74; (with_reducible refine (p_cont (Kd.C_below HC.out HB3.out)).mono ?_); rw [HBAD.out]; rintro e w4 ⟨rfl, hb⟩; have HB4 := Aside0.mk (below_step HB3.out hb); clear hb))
        (try simp only [Exit.inBlock, Exit.then])
        refine bodyPost_ret (results_list (rs := [.tmp 4, .tmp 5]) rfl (by simp) (.tmp (.tmp .nil))) rfl ?_
        rw [HE.out]
        exact ⟨none, 0, rfl, Kd.C_nil _ _, Nat.le_refl _, HB4.out⟩
    · have hf : fitP z = false := by simpa using hf
      have HE := Aside0.mk (show encF l z = ([], 1) by unfold encF; rw [if_pos hk, if_neg (fun h => by rw [hf] at h; simp at h)])
      have HX := Aside0.mk hk
      have HF := Aside0.mk hf
      clear hC hk hf
      go_enter Try.func39, Try.ntmps39
      go_wp2_with (first | (go_at_call 44; (with_reducible refine (p_build HC.out HX.out z).mono ?_); rintro e w2 ⟨g, fs, bs, rfl, hb, hT, _, hBt⟩; have HB2 := Aside0.mk hb; clear hb hT hBt) | (go_at_call 60; (with_reducible refine (p_fits z w2).mono ?_); rw [HF.out]; rintro e w3 ⟨rfl, hb⟩; have HB3 := Aside0.mk (below_step HB2.out hb); clear hb))
      (try simp only [Exit.inBlock, Exit.then])
      refine bodyPost_ret (results_list (rs := [.tmp 4, .tmp 5]) rfl (by simp) (.tmp (.tmp .nil))) rfl ?_
      rw [HE.out]
      exact ⟨none, 0, rfl, Kd.C_nil _ _, Nat.le_refl _, HB3.out⟩
  · have HCHK := Aside0.mk hk
    have HE0 := Aside0.mk (show encF l z = ([], chk l) by unfold encF; rw [if_neg hk])
    obtain ⟨x, hx⟩ : ∃ x, chk l = x := ⟨_, rfl⟩
    have HX := Aside0.mk hx
    have HE := Aside0.mk (show encF l z = ([], x) by rw [HE0.out, hx])
    rw [hx] at hk
    have e0 : (x != 0) = true := by simp [hk]
    clear hC hk hx
    go_enter Try.func39, Try.ntmps39
    go_wp2_with (first | (go_at_call 44; (with_reducible refine (p_build_no HC.out HCHK.out z).mono ?_); rw [HX.out]; rintro e w2 ⟨rfl, hb⟩; have HB2 := Aside0.mk hb; clear hb))
    (try simp only [Exit.inBlock, Exit.then])
    refine bodyPost_ret (results_list (rs := [.tmp 4, .tmp 5]) rfl (by simp) (.tmp (.tmp .nil))) rfl ?_
    rw [HE.out]
    exact ⟨none, 0, rfl, Kd.C_nil _ _, Nat.le_refl _, HB2.out⟩
/-- What Decode answers. -/
def decF (bs : List Int) : (List Rg × Int) × Int := if (rdF bs).2 = 0 then (if (encF (rdF bs).1.1 (rdF bs).1.2).2 = 0 then (if (encF (rdF bs).1.1 (rdF bs).1.2).1 = bs then ((rdF bs).1, 0) else (([], 0), 2)) else (([], 0), (encF (rdF bs).1.1 (rdF bs).1.2).2)) else (([], 0), (rdF bs).2)
def DecR (w : World) (bs : List Int) (e : Ending) (w' : World) : Prop := ∃ (A2 : Option Addr) (c2 : Nat), e = .returned (.tuple #[.slice A2 (decF bs).1.1.length c2, .int .i64 (decF bs).1.2, .int .i64 (decF bs).2]) ∧ Kd.C kR w' A2 (decF bs).1.1.length (decF bs).1.1 ∧ (decF bs).1.1.length ≤ c2 ∧ Below w.heap.size w w'
set_option maxHeartbeats 8000000 in
set_option maxRecDepth 100000 in
theorem p_decode {w : World} {A : Option Addr} {c : Nat} {bs : List Int} (hC : Kd.C (Kd.int .u8) w A bs.length bs) (hc : bs.length ≤ c) (hb : Bytes bs) :
    Calls Try.prog 41 #[.slice A bs.length c] w (DecR w bs) := by
  unfold DecR
  have HC := Aside0.mk hC
  have HCC := Aside0.mk hc
  have HBY := Aside0.mk hb
  clear hC hc hb
  rcases hr : rdF bs with ⟨⟨out, z⟩, er⟩
  by_cases he : er = 0
  · subst he
    have HR := Aside0.mk hr
    rcases hen : encF out z with ⟨eb, ee⟩
    have HEN := Aside0.mk hen
    by_cases hee : ee = 0
    · subst hee
      obtain ⟨q, hq⟩ : ∃ q, decide (eb = bs) = q := ⟨_, rfl⟩
      have HQ := Aside0.mk hq
      cases q with
      | true =>
        have HD := Aside0.mk (show decF bs = ((out, z), 0) by unfold decF; rw [hr, if_pos rfl, hen, if_pos rfl, if_pos (of_decide_eq_true hq)])
        clear hr hen hq
        go_enter Try.func41, Try.ntmps41
        go_wp2_with (first | (go_at_call 78; (with_reducible refine (p_read HC.out HCC.out HBY.out).mono ?_); rintro e w1 hr; unfold ReadR at hr; rw [HR.out] at hr; obtain ⟨A1, c1, rfl, h1, h2, hb⟩ := hr; have HC1 := Aside0.mk h1; have HCC1 := Aside0.mk h2; have HB1 := Aside0.mk hb; clear h1 h2 hb) | ((with_reducible refine gate_dst (N := 5) rfl ?_); refine wp_alloc_cells rfl 97 rfl _ zero_tt ?_; intro g5 hg w2 hb hB; have H5 := Aside0.mk hb; have HB2 := Aside0.mk (below_step HB1.out hB); have HC2 := Aside0.mk (Kd.C_below HC1.out hB); have HG5 := Aside0.mk (show w.heap.size ≤ g5 ∧ w1.heap.size = g5 by have := HB1.out.size; omega); have HB12 := Aside0.mk hB; have c0 := (blk_cell H5.out 0).trans rfl; have c1_ := (blk_cell H5.out 1).trans rfl; have f0 := blk_frozen H5.out 0; have f1 := blk_frozen H5.out 1; clear hg hb hB) | (go_at_call 39; have hw3 := (Wrote.set w2 g5 0 (.slice A1 out.length c1)).trans (Wrote.set _ g5 1 (.int .i64 z)); have H53 := Aside0.mk (show ((w2.setCell ⟨g5, 0, none⟩ (.slice A1 out.length c1)).setCell ⟨g5, 1, none⟩ (.int .i64 z)).heap[g5]? = some (.cells #[.slice A1 out.length c1, .int .i64 z] 97 (0, 0)) from (blk_set (blk_set H5.out 0 _) 1 _).trans rfl); have HB3 := Aside0.mk (hw3.below HB2.out HG5.out.1); have HC3 := Aside0.mk (Kd.C_below HC1.out (hw3.below HB12.out (Nat.le_of_eq HG5.out.2))); (with_reducible refine (p_encode_all HC3.out z).mono ?_); rintro e w4 hr; unfold EncR at hr; rw [HEN.out] at hr; obtain ⟨A4, c4, rfl, h1, h2, hb⟩ := hr; have HX4 := Aside0.mk h1; have HCX4 := Aside0.mk h2; have HB4 := Aside0.mk (below_step HB3.out hb); have H54 := Aside0.mk (blk_below H53.out hb); have HC4 := Aside0.mk (Kd.C_below HC3.out hb); clear h1 h2 hb hw3) | (go_at_call 27; (with_reducible refine (p_eqb_gen HX4.out HCX4.out (Kd.C_below HC.out HB4.out) HCC.out).mono ?_); rw [HQ.out]; rintro e w5 ⟨rfl, hb⟩; have HB5 := Aside0.mk (below_step HB4.out hb); have H55 := Aside0.mk (blk_below H54.out hb); have HC5 := Aside0.mk (Kd.C_below HC4.out hb); have k5_0 := (blk_cell H55.out 0).trans rfl; have k5_1 := (blk_cell H55.out 1).trans rfl; clear hb))
        have H56 := Aside0.mk (blk_drew H55.out)
        have HC6 := Aside0.mk (Kd.C_below HC5.out (below_drew (Below.refl _ _)))
        have HB6 := Aside0.mk HB5.out.drew
        clear k5_0 k5_1
        refine start_ (n := 7) (S := fun w' => w'.cell? ⟨g5, 0, none⟩ = some (.slice A1 out.length c1) ∧ w'.cell? ⟨g5, 1, none⟩ = some (.int .i64 z)) (ds := []) #[false, false, false, false, false, false, false] (by kernel_rfl) rfl rfl ⟨(blk_cell H56.out 0).trans rfl, (blk_cell H56.out 1).trans rfl⟩ (fun hHeld => ?_)
        generalize w5.drew = w6 at H56 HC6 HB6 hHeld ⊢
        refine pure_ (i := 0) (N := some 31) (v := ?_) (a' := ?_) #[true, false, false, false, false, false, false] rfl rfl (by kernel_rfl) (fun _ _ _ h => h) (Or.inl ⟨by rfl, ?_⟩) ?_ ?_
        rotate_left
        · intro w'
          go_simp
          with_reducible rfl
        rotate_left
        · simp only [Act.put, List.setIfInBounds_toArray, List.set_cons_zero, List.set_cons_succ, i64_w, i32_w]
          rfl
        refine take_ (i := 1) (N := some 32) (v := ?_) (a' := ?_) #[true, true, false, false, false, false, false] rfl rfl (by kernel_rfl) (fun _ _ _ h => h) (Or.inl ⟨by rfl, ?_⟩) hHeld ?_ ?_
        rotate_left
        · rintro w' ⟨s0, s1⟩
          go_simp
          with_reducible rfl
        rotate_left
        · simp only [Act.put, List.setIfInBounds_toArray, List.set_cons_zero, List.set_cons_succ, i64_w, i32_w]
          rfl
        refine pure_ (i := 2) (N := some 33) (v := ?_) (a' := ?_) #[true, true, true, false, false, false, false] rfl rfl (by kernel_rfl) (fun _ _ _ h => h) (Or.inl ⟨by rfl, ?_⟩) ?_ ?_
        rotate_left
        · intro w'
          go_simp
          with_reducible rfl
        rotate_left
        · simp only [Act.put, List.setIfInBounds_toArray, List.set_cons_zero, List.set_cons_succ, i64_w, i32_w]
          rfl
        refine take_ (i := 3) (N := some 34) (v := ?_) (a' := ?_) #[true, true, true, true, false, false, false] rfl rfl (by kernel_rfl) (fun _ _ _ h => h) (Or.inl ⟨by rfl, ?_⟩) hHeld ?_ ?_
        rotate_left
        · rintro w' ⟨s0, s1⟩
          go_simp
          with_reducible rfl
        rotate_left
        · simp only [Act.put, List.setIfInBounds_toArray, List.set_cons_zero, List.set_cons_succ, i64_w, i32_w]
          rfl
        refine pure_ (i := 4) (N := some 2) (v := ?_) (a' := ?_) #[true, true, true, true, true, false, false] rfl rfl (by kernel_rfl) (fun _ _ _ h => h) (Or.inl ⟨by rfl, ?_⟩) ?_ ?_
        rotate_left
        · intro w'
          go_simp
          with_reducible rfl
        rotate_left
        · simp only [Act.put, List.setIfInBounds_toArray, List.set_cons_zero, List.set_cons_succ, i64_w, i32_w]
          rfl
        refine pure_ (i := 5) (N := some 3) (v := ?_) (a' := ?_) #[true, true, true, true, true, true, false] rfl rfl (by kernel_rfl) (fun _ _ _ h => h) (Or.inl ⟨by rfl, ?_⟩) ?_ ?_
        rotate_left
        · intro w'
          go_simp
          with_reducible rfl
        rotate_left
        · simp only [Act.put, List.setIfInBounds_toArray, List.set_cons_zero, List.set_cons_succ, i64_w, i32_w]
          rfl
        refine pure_ (i := 6) (N := some 4) (v := ?_) (a' := ?_) #[true, true, true, true, true, true, true] rfl rfl (by kernel_rfl) (fun _ _ _ h => h) (Or.inl ⟨by rfl, ?_⟩) ?_ ?_
        rotate_left
        · intro w'
          go_simp
          with_reducible rfl
        rotate_left
        · simp only [Act.put, List.setIfInBounds_toArray, List.set_cons_zero, List.set_cons_succ, i64_w, i32_w]
          rfl
        refine done_ (by kernel_rfl) ?_
        go_wp2
        go_ret3
        rw [HD.out]
        exact ⟨A1, c1, by first | rfl | (simp; done), HC6.out, HCC1.out, HB6.out⟩
      | false =>
        have HD := Aside0.mk (show decF bs = (([], 0), 2) by unfold decF; rw [hr, if_pos rfl, hen, if_pos rfl, if_neg (of_decide_eq_false hq)])
        clear hr hen hq
        go_enter Try.func41, Try.ntmps41
        go_wp2_with (first | (go_at_call 78; (with_reducible refine (p_read HC.out HCC.out HBY.out).mono ?_); rintro e w1 hr; unfold ReadR at hr; rw [HR.out] at hr; obtain ⟨A1, c1, rfl, h1, h2, hb⟩ := hr; have HC1 := Aside0.mk h1; have HCC1 := Aside0.mk h2; have HB1 := Aside0.mk hb; clear h1 h2 hb) | ((with_reducible refine gate_dst (N := 5) rfl ?_); refine wp_alloc_cells rfl 97 rfl _ zero_tt ?_; intro g5 hg w2 hb hB; have H5 := Aside0.mk hb; have HB2 := Aside0.mk (below_step HB1.out hB); have HC2 := Aside0.mk (Kd.C_below HC1.out hB); have HG5 := Aside0.mk (show w.heap.size ≤ g5 ∧ w1.heap.size = g5 by have := HB1.out.size; omega); have HB12 := Aside0.mk hB; have c0 := (blk_cell H5.out 0).trans rfl; have c1_ := (blk_cell H5.out 1).trans rfl; have f0 := blk_frozen H5.out 0; have f1 := blk_frozen H5.out 1; clear hg hb hB) | (go_at_call 39; have hw3 := (Wrote.set w2 g5 0 (.slice A1 out.length c1)).trans (Wrote.set _ g5 1 (.int .i64 z)); have H53 := Aside0.mk (show ((w2.setCell ⟨g5, 0, none⟩ (.slice A1 out.length c1)).setCell ⟨g5, 1, none⟩ (.int .i64 z)).heap[g5]? = some (.cells #[.slice A1 out.length c1, .int .i64 z] 97 (0, 0)) from (blk_set (blk_set H5.out 0 _) 1 _).trans rfl); have HB3 := Aside0.mk (hw3.below HB2.out HG5.out.1); have HC3 := Aside0.mk (Kd.C_below HC1.out (hw3.below HB12.out (Nat.le_of_eq HG5.out.2))); (with_reducible refine (p_encode_all HC3.out z).mono ?_); rintro e w4 hr; unfold EncR at hr; rw [HEN.out] at hr; obtain ⟨A4, c4, rfl, h1, h2, hb⟩ := hr; have HX4 := Aside0.mk h1; have HCX4 := Aside0.mk h2; have HB4 := Aside0.mk (below_step HB3.out hb); have H54 := Aside0.mk (blk_below H53.out hb); have HC4 := Aside0.mk (Kd.C_below HC3.out hb); clear h1 h2 hb hw3) | (go_at_call 27; (with_reducible refine (p_eqb_gen HX4.out HCX4.out (Kd.C_below HC.out HB4.out) HCC.out).mono ?_); rw [HQ.out]; rintro e w5 ⟨rfl, hb⟩; have HB5 := Aside0.mk (below_step HB4.out hb); have H55 := Aside0.mk (blk_below H54.out hb); have HC5 := Aside0.mk (Kd.C_below HC4.out hb); have k5_0 := (blk_cell H55.out 0).trans rfl; have k5_1 := (blk_cell H55.out 1).trans rfl; clear hb))
        go_ret3
        rw [HD.out]
        exact ⟨none, 0, by first | rfl | (simp; done), Kd.C_nil _ _, Nat.le_refl _, HB5.out⟩
    · have HD := Aside0.mk (show decF bs = (([], 0), ee) by unfold decF; rw [hr, if_pos rfl, hen, if_neg hee])
      have e0 : (ee != 0) = true := by simp [hee]
      clear hr hen hee
      go_enter Try.func41, Try.ntmps41
      go_wp2_with (first | (go_at_call 78; (with_reducible refine (p_read HC.out HCC.out HBY.out).mono ?_); rintro e w1 hr; unfold ReadR at hr; rw [HR.out] at hr; obtain ⟨A1, c1, rfl, h1, h2, hb⟩ := hr; have HC1 := Aside0.mk h1; have HCC1 := Aside0.mk h2; have HB1 := Aside0.mk hb; clear h1 h2 hb) | ((with_reducible refine gate_dst (N := 5) rfl ?_); refine wp_alloc_cells rfl 97 rfl _ zero_tt ?_; intro g5 hg w2 hb hB; have H5 := Aside0.mk hb; have HB2 := Aside0.mk (below_step HB1.out hB); have HC2 := Aside0.mk (Kd.C_below HC1.out hB); have HG5 := Aside0.mk (show w.heap.size ≤ g5 ∧ w1.heap.size = g5 by have := HB1.out.size; omega); have HB12 := Aside0.mk hB; have c0 := (blk_cell H5.out 0).trans rfl; have c1_ := (blk_cell H5.out 1).trans rfl; have f0 := blk_frozen H5.out 0; have f1 := blk_frozen H5.out 1; clear hg hb hB) | (go_at_call 39; have hw3 := (Wrote.set w2 g5 0 (.slice A1 out.length c1)).trans (Wrote.set _ g5 1 (.int .i64 z)); have H53 := Aside0.mk (show ((w2.setCell ⟨g5, 0, none⟩ (.slice A1 out.length c1)).setCell ⟨g5, 1, none⟩ (.int .i64 z)).heap[g5]? = some (.cells #[.slice A1 out.length c1, .int .i64 z] 97 (0, 0)) from (blk_set (blk_set H5.out 0 _) 1 _).trans rfl); have HB3 := Aside0.mk (hw3.below HB2.out HG5.out.1); have HC3 := Aside0.mk (Kd.C_below HC1.out (hw3.below HB12.out (Nat.le_of_eq HG5.out.2))); (with_reducible refine (p_encode_all HC3.out z).mono ?_); rintro e w4 hr; unfold EncR at hr; rw [HEN.out] at hr; obtain ⟨A4, c4, rfl, h1, h2, hb⟩ := hr; have HX4 := Aside0.mk h1; have HCX4 := Aside0.mk h2; have HB4 := Aside0.mk (below_step HB3.out hb); have H54 := Aside0.mk (blk_below H53.out hb); have HC4 := Aside0.mk (Kd.C_below HC3.out hb); clear h1 h2 hb hw3))
      go_ret3
      rw [HD.out]
      exact ⟨none, 0, by first | rfl | (simp; done), Kd.C_nil _ _, Nat.le_refl _, HB4.out⟩
  · have HR := Aside0.mk hr
    have HD := Aside0.mk (show decF bs = (([], 0), er) by unfold decF; rw [hr, if_neg he])
    have e0 : (er != 0) = true := by simp [he]
    clear hr he
    go_enter Try.func41, Try.ntmps41
    go_wp2_with (first | (go_at_call 78; (with_reducible refine (p_read HC.out HCC.out HBY.out).mono ?_); rintro e w1 hr; unfold ReadR at hr; rw [HR.out] at hr; obtain ⟨A1, c1, rfl, h1, h2, hb⟩ := hr; have HC1 := Aside0.mk h1; have HCC1 := Aside0.mk h2; have HB1 := Aside0.mk hb; clear h1 h2 hb) | ((with_reducible refine gate_dst (N := 5) rfl ?_); refine wp_alloc_cells rfl 97 rfl _ zero_tt ?_; intro g5 hg w2 hb hB; have H5 := Aside0.mk hb; have HB2 := Aside0.mk (below_step HB1.out hB); have HC2 := Aside0.mk (Kd.C_below HC1.out hB); have HG5 := Aside0.mk (show w.heap.size ≤ g5 ∧ w1.heap.size = g5 by have := HB1.out.size; omega); have HB12 := Aside0.mk hB; have c0 := (blk_cell H5.out 0).trans rfl; have c1_ := (blk_cell H5.out 1).trans rfl; have f0 := blk_frozen H5.out 0; have f1 := blk_frozen H5.out 1; clear hg hb hB))
    go_ret3
    rw [HD.out]
    exact ⟨none, 0, by first | rfl | (simp; done), Kd.C_nil _ _, Nat.le_refl _, (((Wrote.set w2 g5 0 (.slice A1 out.length c1)).trans (Wrote.set _ g5 1 (.int .i64 z))).below HB2.out HG5.out.1)⟩
end Go.Proofs.Ytmkgihmchkphaaa.Stk
