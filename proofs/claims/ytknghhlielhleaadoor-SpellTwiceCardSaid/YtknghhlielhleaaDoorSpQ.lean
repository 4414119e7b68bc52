import Derived.Test.YtknghhlielhleaaDoorSpP5
import Derived.Test.YtknghhlielhleaaDoorPSpellParsesx4
import Derived.Lib.SplitLaws
namespace Go.Proofs.YtknghhlielhleaaDoor.Stk
open Go.RowKit Go.Proofs.YtknghhlielhleaaDoorW.PrintWords Go.Proofs.YtknghhlielhleaaDoorW.PrintLast Go.Proofs.YtknghhlielhleaaDoorW.PrintMore
attribute [local go_sem] max2_int min2_int max_two min_two max_three min_three max_four min_four   -- for this text's walks alone
set_option linter.unusedVariables false
set_option linter.unusedSimpArgs false
open Go.Proofs.YtknghhlielhleaaDoor.PSpellParses
def spl : List UInt8 → List (List UInt8)
  | [] => [[]]
  | c :: cs => if c = 32 then [] :: spl cs else match spl cs with | h :: t => (c :: h) :: t | [] => [[c]]
theorem spl_ne (l : List UInt8) : spl l ≠ [] := by
  cases l with
  | nil => simp [spl]
  | cons c cs =>
    unfold spl
    split
    · simp
    · split <;> simp
theorem splitK_spl : ∀ l : List UInt8, Lib.splitK [32] 0 (Lib.count l [32]) l = spl l
  | [] => rfl
  | c :: cs => by
    have ih := splitK_spl cs
    unfold spl
    by_cases hc : c = 32
    · subst hc
      rw [if_pos rfl, Lib.count_cons_eq, Nat.add_comm, ← ih]
      have h0 : Lib.index (32 :: cs) [32] = 0 := by unfold Lib.index; simp
      rw [Lib.splitK, h0]
      simp
    · rw [if_neg hc, Lib.count_cons_ne _ _ _ hc]
      have hI : Lib.index (c :: cs) [32] = if Lib.index cs [32] == -1 then -1 else Lib.index cs [32] + 1 := by
        rw [Lib.index, if_neg]
        simp
        exact fun h => hc h.symm
      cases hk : Lib.count cs [32] with
      | zero =>
        rw [hk] at ih
        rw [← ih]
        rfl
      | succ k =>
        rw [hk] at ih
        have hne : ¬ Lib.index cs [32] = -1 := fun h => by rw [Lib.count_miss h] at hk; omega
        have hge := Lib.index_ge cs [32]
        obtain ⟨i, hi⟩ : ∃ i : Nat, Lib.index cs [32] = (i : Int) := ⟨(Lib.index cs [32]).toNat, by omega⟩
        rw [← ih, Lib.splitK, Lib.splitK, hI, hi]
        have e1 : ((i : Int) == -1) = false := by rw [beq_eq_false_iff_ne]; omega
        have e2 : ((i : Int) + 1 == -1) = false := by rw [beq_eq_false_iff_ne]; omega
        have e3 : ((i : Int) + 1).toNat = i + 1 := by omega
        simp [e1, e2, e3]
def spW : List UInt8 → List UInt8 → List ByteArray
  | [], w => if w = [] then [] else [⟨w.toArray⟩]
  | c :: cs, w => if c = 32 then (if w = [] then spW cs [] else ⟨w.toArray⟩ :: spW cs []) else spW cs (w ++ [c])
def hdP (w : List UInt8) : List (List UInt8) → List (List UInt8)
  | h :: t => (w ++ h) :: t
  | [] => []
theorem spW_spl : ∀ (l w : List UInt8), (spW l w).map (·.data.toList) = (hdP w (spl l)).filter (· ≠ [])
  | [], w => by
    unfold spW
    by_cases h : w = []
    · subst h; rfl
    · rw [if_neg h]; simp [spl, hdP, h]
  | c :: cs, w => by
    have ih0 := spW_spl cs []
    have e0 : hdP [] (spl cs) = spl cs := by cases spl cs <;> rfl
    rw [e0] at ih0
    unfold spW spl
    by_cases hc : c = 32
    · subst hc
      rw [if_pos rfl, if_pos rfl]
      by_cases h : w = []
      · subst h; rw [if_pos rfl, ih0]; simp [hdP]
      · rw [if_neg h, List.map_cons, ih0]; simp [hdP, h]
    · rw [if_neg hc, if_neg hc, spW_spl cs (w ++ [c])]
      cases hs : spl cs with
      | nil => exact absurd hs (spl_ne cs)
      | cons h t => simp [hdP]
theorem ba_inj {xs ys : List ByteArray} (h : xs.map (·.data.toList) = ys.map (·.data.toList)) : xs = ys := by
  refine List.map_inj_right (f := fun b : ByteArray => b.data.toList) ?_ |>.1 h
  intro x y e
  cases x; cases y
  simp only [ByteArray.mk.injEq]
  exact Array.ext' e
theorem wsL_spW (s : ByteArray) : wsL s = spW s.data.toList [] := by
  apply ba_inj
  have e0 : hdP [] (spl s.data.toList) = spl s.data.toList := by cases spl s.data.toList <;> rfl
  have e1 : (pcs s).map (·.data.toList) = spl s.data.toList := by
    rw [← splitK_spl]
    exact Lib.splitB_data _ _ _ _
  rw [spW_spl, e0, ← e1, List.filter_map]
  unfold wsL
  congr 1
  apply List.filter_congr
  intro x _
  show neB x = decide (x.data.toList ≠ [])
  by_cases h : x.data.toList = [] <;> simp only [neB, Lib.toList_data, h, ne_eq, not_true_eq_false, not_false_eq_true, decide_true, decide_false]
  · rfl
  · simp [h]
theorem w64 {x : Int} (h0 : -9223372036854775808 ≤ x) (h1 : x ≤ 9223372036854775807) : wrap64 x = x := by unfold wrap64; omega
theorem rsplit_l0 (s : ByteArray) (hs : s.size ≤ 1000000) : ∀ (m i k : Nat) (x3 : List ByteArray) (x4 : ByteArray), s.size - i = m → i ≤ s.size → 2 * m + 4 ≤ k → x4.size ≤ i → x3.length ≤ i →
    naskhref11_Split.l0 k s x3 x4 (i : Int) = some (x3 ++ spW (s.data.toList.drop i) x4.data.toList) := by
  intro m
  induction m with
  | zero =>
    intro i k x3 x4 hm hi hk h4 h3
    obtain ⟨k, rfl⟩ : ∃ q, k = q + 3 := ⟨k - 3, by omega⟩
    have hi' : i = s.size := by omega
    subst hi'
    have hd : s.data.toList.drop s.size = [] := List.drop_eq_nil_of_le (Nat.le_of_eq Array.length_toList)
    rw [naskhref11_Split.l0, if_pos (Int.le_refl _), if_neg (Int.lt_irrefl _), naskhref11_Split.j1, if_neg Bool.false_ne_true, w64 (by omega) (by omega), hd, spW, Lib.toList_data]
    by_cases h : x4.data.toList = []
    · rw [if_pos h, if_pos h, naskhref11_Split.l0, if_neg (by omega), List.append_nil]
    · rw [if_neg h, if_neg h, if_pos (by omega), naskhref11_Split.l0, if_neg (by omega)]
  | succ m ih =>
    intro i k x3 x4 hm hi hk h4 h3
    obtain ⟨k, rfl⟩ : ∃ q, k = q + 2 := ⟨k - 2, by omega⟩
    have hlt : i < s.size := by omega
    have hlt' : i < s.data.toList.length := by rw [Array.length_toList]; exact hlt
    rw [naskhref11_Split.l0, if_pos (by omega), if_pos (by omega), if_pos (by omega), naskhref11_Split.j1, w64 (by omega) (by omega)]
    have e1 : (i : Int) + 1 = ((i + 1 : Nat) : Int) := by omega
    rw [List.drop_eq_getElem_cons hlt', spW, e1]
    obtain ⟨b, hb⟩ : ∃ b, s.data.toList[i] = b := ⟨_, rfl⟩
    have hbt : bt s (i : Int) = (b.toNat : Int) := by
      rw [← bt_at s (i : Int) (by simpa using hlt), ← hb]
      simp only [Int.toNat_natCast]
      rfl
    rw [hb, hbt]
    by_cases hc : b = 32
    · subst hc
      have hf : (((32 : UInt8).toNat : Int) != 32) = false := rfl
      rw [hf, if_neg Bool.false_ne_true, if_pos rfl, Lib.toList_data]
      by_cases h : x4.data.toList = []
      · rw [if_pos h, if_pos h, ih (i + 1) k x3 x4 (by omega) (by omega) (by omega) (by omega) (by omega), h]
      · rw [if_neg h, if_neg h, if_pos (by omega), ih (i + 1) k (x3 ++ [x4]) ⟨#[]⟩ (by omega) (by omega) (by omega) (Nat.zero_le _) (by simp; omega), List.append_assoc]
        rfl
    · have hf : ((b.toNat : Int) != 32) = true := by
        rw [bne_iff_ne]
        intro e
        exact hc (UInt8.toNat_inj.1 (by show b.toNat = 32; omega))
      have ex : s.extract (i : Int).toNat ((i + 1 : Nat) : Int).toNat = ⟨#[b]⟩ := by
        apply ByteArray.ext
        apply Array.ext'
        rw [Int.toNat_natCast, Int.toNat_natCast, Lib.extract_data]
        simp [List.take_drop, List.drop_eq_getElem_cons hlt', hb]
      rw [hf, if_pos rfl, if_neg hc, if_pos (by omega), if_pos (by omega), if_pos (by omega), ex, if_pos (by show x4.size + 1 ≤ _; omega), ih (i + 1) k x3 _ (by omega) (by omega) (by omega) (by rw [ByteArray.size_append]; show x4.size + 1 ≤ _; omega) (by omega)]
      simp
theorem rsplit_f (s : ByteArray) (hs : s.size ≤ 1000000) : naskhref11_Split.f 2000010 s = some (wsL s) := by
  rw [wsL_spW]
  have h := rsplit_l0 s hs s.size 0 2000010 [] ⟨#[]⟩ rfl (Nat.zero_le _) (by omega) (Nat.le_refl _) (Nat.le_refl _)
  exact h
theorem p_rsplit (s : ByteArray) (hs : s.size ≤ 1000000) (w : World) :
    Calls Tryd.prog 22 #[.string s] w fun e w' => ∃ v0_ : Value, e = .returned v0_ ∧ Kd.R Kd.string 9 w' w.heap.size (fun _ => True) v0_ (wsL s) ∧ Below w.heap.size w w' :=
  naskhref11_Split.calls 2000010 s (wsL s) w (rsplit_f s hs)
end Go.Proofs.YtknghhlielhleaaDoor.Stk
