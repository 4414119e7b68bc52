import Derived.Test.YtknghhlielhleaaDoorSpP3
import Derived.Test.YtknghhlielhleaaDoorSpL
import Derived.Test.YtknghhlielhleaaDoorSpO
import Derived.Test.YtknghhlielhleaaDoorPSpellParsesx0
import Derived.Shelf.Strings.Split
import Derived.Lib.IndexBytes
namespace Go.Proofs.YtknghhlielhleaaDoor.Stk
open Go.RowKit Go.Proofs.YtknghhlielhleaaDoorW.PrintWords Go.Proofs.YtknghhlielhleaaDoorW.PrintLast Go.Proofs.YtknghhlielhleaaDoorW.PrintMore
attribute [local go_sem] max2_int min2_int max_two min_two max_three min_three max_four min_four   -- for this text's walks alone
set_option linter.unusedVariables false
set_option linter.unusedSimpArgs false
open Go.Shelf in
def pcs (s : ByteArray) : List ByteArray := Lib.splitB ⟨#[32]⟩ 0 (Lib.countB s ⟨#[32]⟩) s
def neB (x : ByteArray) : Bool := x.toList != []
def wsL (s : ByteArray) : List ByteArray := (pcs s).filter neB
theorem pcs_len (s : ByteArray) : (pcs s).length = Lib.countB s ⟨#[32]⟩ + 1 := Lib.splitB_all _ (by decide) 0 _ s rfl
theorem pcs_le (s : ByteArray) : (pcs s).length ≤ s.size + 1 := by rw [pcs_len]; have := Lib.countB_le ⟨#[32]⟩ (by decide) s.size s (Nat.le_refl _); omega
theorem index_at (s : ByteArray) (w : World) : Calls Tryd.prog 48 #[.string s, .string ⟨#[32]⟩] w fun e w' => e = .returned (.int .i64 (Lib.indexB s ⟨#[32]⟩)) ∧ w' = w := by
  have h : Lib.indexB s ⟨#[32]⟩ = Lib.indexByte s.data.toList 32 := by
    show Lib.index s.data.toList [32] = _
    exact Lib.index_one _ _
  rw [h]
  exact Tryd.strings_Index_one s 32 w
theorem count_at (s : ByteArray) (w : World) : Calls Tryd.prog 47 #[.string s, .string ⟨#[32]⟩] w fun e w' => e = .returned (.int .i64 (Lib.countB s ⟨#[32]⟩)) ∧ w' = w := by
  have h : (Lib.countB s ⟨#[32]⟩ : Int) = (Lib.countByte s.data.toList 32 : Nat) := by
    show ((Lib.count s.data.toList [32] : Nat) : Int) = _
    rw [Lib.count_one]
    rfl
  rw [h]
  exact Tryd.strings_Count_one s 32 w
theorem info9s : (Tryd.prog.info? 9).map (fun i => (i.zero, i.size, i.bytes)) = some (some (.string ByteArray.empty), 1, 16) := by kernel_rfl
set_option maxHeartbeats 8000000 in
set_option maxRecDepth 100000 in
theorem p_split (s : ByteArray) (hs : s.size < 4294967281) (w : World) :
    Calls Tryd.prog 34 #[.string s, .string ⟨#[32]⟩] w fun e w' => ∃ g, e = .returned (.slice (some ⟨g, 0, none⟩) (pcs s).length (pcs s).length) ∧ w'.heap[g]? = some (.cells ((pcs s).map Value.string).toArray 9 (0, 0)) ∧ Below w.heap.size w w' := by
  have c : Calls Tryd.prog 42 #[.string s, .string ⟨#[32]⟩, .int .i64 0, .int .i64 (-1)] w fun e w' => e = .returned (.slice (some ⟨w.heap.size, 0, none⟩) (pcs s).length (pcs s).length) ∧ w' = w.alloc (.cells ((pcs s).map Value.string).toArray 9 (0, 0)) := by
    have c := Any.strings_genSplit_core Tryd.lays221 info9s s ⟨#[32]⟩ 0 (-1) (pcs s).length w hs (by decide) (Nat.zero_le _)
      (fun x c hx => index_at x _) (count_at s w) (by decide) (by decide) (by rw [if_pos (by decide), pcs_len]; have := Lib.countB_le ⟨#[32]⟩ (by decide) s.size s (Nat.le_refl _); omega)
    have e1 : (pcs s).length - 1 = Lib.countB s ⟨#[32]⟩ := by rw [pcs_len]; rfl
    rw [e1] at c
    have e2 : Lib.cellsOf (Lib.splitB ⟨#[32]⟩ 0 (Lib.countB s ⟨#[32]⟩) s) (pcs s).length = ((pcs s).map Value.string).toArray := Lib.cellsOf_full (pcs s)
    rw [e2] at c
    exact c
  generalize pcs s = ps at c ⊢
  go_enter Tryd.func34, Tryd.ntmps34
  go_wp2_with (first | (go_at_call 42; (with_reducible refine c.mono ?_); rintro e w2 ⟨rfl, h2⟩; have HB := Aside0.mk (show Below w.heap.size w w2 by rw [h2]; exact below_alloc (Below.refl _ _) _); have HG := Aside0.mk (show w2.heap[w.heap.size]? = some (.cells (ps.map Value.string).toArray 9 (0, 0)) by rw [h2]; exact blk_new w _); clear h2))
  go_ret
  exact ⟨_, rfl, HG.out, HB.out⟩
theorem take_ne {ps : List ByteArray} {i : Nat} (hi : i < ps.length) (h : (ps.getD i ⟨#[]⟩).toList = []) : (ps.take (i + 1)).filter neB = (ps.take i).filter neB := by
  rw [List.take_add_one, List.filter_append, List.getElem?_eq_getElem hi]
  rw [List.getD_eq_getElem?_getD, List.getElem?_eq_getElem hi, Option.getD_some] at h
  simp [neB, h]
theorem take_eq {ps : List ByteArray} {i : Nat} (hi : i < ps.length) (h : ¬ (ps.getD i ⟨#[]⟩).toList = []) : (ps.take (i + 1)).filter neB = (ps.take i).filter neB ++ [ps.getD i ⟨#[]⟩] := by
  rw [List.take_add_one, List.filter_append, List.getElem?_eq_getElem hi]
  rw [List.getD_eq_getElem?_getD, List.getElem?_eq_getElem hi, Option.getD_some] at h ⊢
  simp [neB, h]
set_option maxHeartbeats 8000000 in
set_option maxRecDepth 100000 in
theorem p_wordsof (s : ByteArray) (hs : s.size ≤ 1000000) (w : World) :
    Calls Tryd.prog 19 #[.string s] w fun e w' => ∃ v0_ : Value, e = .returned v0_ ∧ Kd.R Kd.string 9 w' w.heap.size (fun _ => True) v0_ (wsL s) ∧ Below w.heap.size w w' := by
  have c := p_split s (by omega)
  have HPL := Aside0.mk (show (pcs s).length ≤ 1000001 by have := pcs_le s; omega)
  unfold wsL
  generalize pcs s = ps at c HPL ⊢
  clear hs
  go_enter Tryd.func19, Tryd.ntmps19
  go_wp2_with (first | (go_at_call 34; (with_reducible refine (c _).mono ?_); rintro e w2 ⟨g, rfl, hg, hb⟩; have HG := Aside0.mk hg; have HB := Aside0.mk hb; clear hg hb))
  go_loopg [3, 9] (ps.length + 1) (fun kq v3 v9 w' => ∃ i : Nat, v9 = .int .i64 (i : Int) ∧ Aside0 (ps.length + 1 - i ≤ kq ∧ i ≤ ps.length) ∧ Aside0 (Kd.R Kd.string 9 w' w2.heap.size (fun _ => True) v3 ((ps.take i).filter neB)) ∧ Aside0 (Below w2.heap.size w2 w'))
  case atStart => exact ⟨0, rfl, ⟨by omega, Nat.zero_le _⟩, ⟨Kd.R_nil _ _ _ _ _⟩, ⟨Below.refl _ _⟩⟩
  case round =>
    obtain ⟨i, rfl, HI, HR, HBB⟩ := hrel
    by_cases hlt : i < ps.length
    · have q0 := decide_eq_true (show (i : Int) < (ps.length : Int) by omega)
      have q1 := decide_eq_true hlt
      have r0 := eq_true (show (i : Int) < (ps.length : Int) by omega)
      have r1 := eq_true hlt
      have r2 := eq_true (show (0 : Int) ≤ (i : Int) by omega)
      have c_ := row_str (blk_below HG.out HBB.out) i hlt
      have HLT := Aside0.mk hlt
      have hwi : IntKind.i64.wrap ((i : Int) + 1) = ((i + 1 : Nat) : Int) := (i64_w _).trans (by have := HLT.out; have := HPL.out; unfold wrap64; omega)
      have HL := Aside0.mk (show (((ps.take i).filter neB).length + 1) * 16 ≤ 140737488355328 by have h1 := List.length_filter_le neB (ps.take i); have h2 := List.length_take_le i ps; have := HPL.out; omega)
      by_cases hx : (ps.getD i ⟨#[]⟩).toList = []
      · have HT := Aside0.mk (take_ne hlt hx)
        generalize ps.getD i ⟨#[]⟩ = x at c_ hx HT
        have n0 : (x.toList == ([] : List UInt8)) = true := beq_iff_eq.mpr hx
        have n1 : (x.toList != ([] : List UInt8)) = false := bne_eq_false_iff_eq.mpr hx
        clear hlt hx
        go_wp2
        go_roundg (ps.length + 1 - (i + 1))
        case measure => have h1_ := HI.out.1; have h2_ := HLT.out; omega
        case rel => exact ⟨i + 1, by first | rfl | go_num | rw [hwi], ⟨Nat.le_refl _, HLT.out⟩, ⟨by rw [HT.out]; exact HR.out⟩, HBB⟩
      · have HT := Aside0.mk (take_eq hlt hx)
        generalize ps.getD i ⟨#[]⟩ = x at c_ hx HT
        have n0 : (x.toList == ([] : List UInt8)) = false := beq_eq_false_iff_ne.mpr hx
        have n1 : (x.toList != ([] : List UInt8)) = true := bne_iff_ne.mpr hx
        clear hlt hx
        go_wp2_with (first | ((with_reducible refine gate_builtin (b := .append) (xs := #[.tmp 15, .tmp 17]) rfl ?_); at_builtin; refine Kd.R_append Kd.string (w0 := w2) w2.heap.size rfl (.tmp 15) (.tmp 17) 29 9 (.string ByteArray.empty) 16 rfl Tryd.underlying29 info9s rfl (by decide) (by omega) _ ((ps.take i).filter neB) x [.string x] (fun _ => True) (fun _ => False) rfl rfl ?aP (fun _ hk => hk.elim) ?aF ?aO ?aB ?aS ?aL ?_; (case aP => exact rfl); (case aB => exact HBB.out); (case aF => exact fun _ _ => trivial); (case aO => exact HR.out); (case aS => exact below_size HBB.out); (case aL => have := HL.out; omega); intro v3 w3 ho hb hg hat; have HR3 := Aside0.mk ho; have HB3 := Aside0.mk hb; clear ho hb hg hat))
        go_roundg (ps.length + 1 - (i + 1))
        case measure => have h1_ := HI.out.1; have h2_ := HLT.out; omega
        case rel => exact ⟨i + 1, by first | rfl | go_num | rw [hwi], ⟨Nat.le_refl _, HLT.out⟩, ⟨by rw [HT.out]; exact HR3.out⟩, HB3⟩
    · have q0 := decide_eq_false (show ¬ (i : Int) < (ps.length : Int) by omega)
      have q1 := decide_eq_false hlt
      have HE := Aside0.mk (show (ps.take i).filter neB = ps.filter neB by rw [List.take_of_length_le (by omega)])
      clear hlt
      go_wp2
      go_ret
      exact ⟨_, rfl, by rw [← HE.out]; exact Kd.R_lower HR.out HB.out.size, below_step HB.out HBB.out⟩
end Go.Proofs.YtknghhlielhleaaDoor.Stk
