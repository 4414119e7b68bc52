/- The runs of any levels are the parts of the line, each place has its run's level, and neighbours have unlike levels. No condition. -/
import Derived.Test.YtjnhepgjkphkoaaPRunsPartsx4
namespace Go.Proofs.Ytjnhepgjkphkoaa.PureRunsPartsAux
open Go.RowKit Go.Proofs.Ytjnhepgjkphkoaa.PRunsParts Go.Proofs.YtjnhepgjkphkoaaW.PrintWords Go.Proofs.YtjnhepgjkphkoaaW.PrintLast

set_option linter.unusedSimpArgs false
set_option linter.unusedVariables false
theorem w64 {x : Int} (h0 : -9223372036854775808 ≤ x) (h1 : x ≤ 9223372036854775807) : wrap64 x = x := by unfold wrap64; omega
theorem rd_at (pre : List Int) (x : Int) (rest : List Int) : rd (pre ++ x :: rest) (pre.length : Int) = x := by simp [rd]
theorem rd_nat (l : List Int) (i : Nat) (h : i < l.length) : rd l (i : Int) = l[i] := by simp [rd, h]
theorem wf64 {x : Int} (h : (Lit.int .i64 x).wf = true) : -9223372036854775808 ≤ x ∧ x ≤ 9223372036854775807 := by
  simpa [Lit.wf, IntKind.min, IntKind.max, IntKind.signed, IntKind.bits] using h
theorem bsome {P : Prop} [Decidable P] {b : Bool} (h : b = true ↔ P) : some b = some (decide P) := by
  congr 1; rw [Bool.eq_iff_iff]; simpa using h
theorem u16w {x : Int} (h0 : 0 ≤ x) (h1 : x ≤ 65535) : IntKind.u16.wrap x = x := by
  simp [IntKind.wrap, IntKind.min, IntKind.max, IntKind.signed, IntKind.bits]; omega

/-- Runs one behind the other, from lo to hi, each as long as can be. -/
def Chain (x0 : List Int) : Int → List S35 → Int → Prop
  | lo, [], hi => lo = hi
  | lo, r :: rs, hi => r.f0.f0 = lo ∧ lo < r.f0.f1 ∧ r.f0.f1 ≤ (x0.length : Int) ∧ (∀ j, lo ≤ j → j < r.f0.f1 → rd x0 j = r.f1) ∧ (r.f0.f1 < (x0.length : Int) → rd x0 r.f0.f1 ≠ r.f1) ∧ Chain x0 r.f0.f1 rs hi
theorem rd35_at (pre : List S35) (x : S35) (rest : List S35) : rd_T35 (pre ++ x :: rest) (pre.length : Int) = x := by simp [rd_T35]
theorem logical_loop (x0 : List Int) (hm : (x0.length : Int) ≤ 5000000000000) : ∀ d : Nat,
    (∀ (k : Nat) (out : List S35) (x4 : Int), 0 ≤ x4 → (out.length : Int) ≤ x4 → x4 + d = x0.length → 3 * d + 1 ≤ k →
      ∃ rs, runs_Logical.l0 k x0 out x4 = some (out ++ rs) ∧ Chain x0 x4 rs x0.length) ∧
    (∀ (k : Nat) (out : List S35) (x4 lo u lev : Int), 0 ≤ lo → lo < x4 → (out.length : Int) ≤ lo → x4 + d = x0.length → (∀ j, lo ≤ j → j < x4 → rd x0 j = lev) → 3 * d + 2 ≤ k →
      ∃ rs, runs_Logical.l1 k x0 out x4 lo u lev = some (out ++ rs) ∧ Chain x0 lo rs x0.length) := by
  intro d
  induction d with
  | zero =>
    have P0 : ∀ (k : Nat) (out : List S35) (x4 : Int), 0 ≤ x4 → (out.length : Int) ≤ x4 → x4 + (0 : Nat) = x0.length → 3 * 0 + 1 ≤ k →
      ∃ rs, runs_Logical.l0 k x0 out x4 = some (out ++ rs) ∧ Chain x0 x4 rs x0.length := by
      intro k out x4 h0 ho hx hk
      obtain ⟨k, rfl⟩ : ∃ m, k = m + 1 := ⟨k - 1, by omega⟩
      refine ⟨[], ?_, by simp [Chain]; omega⟩
      simp only [runs_Logical.l0]
      rw [if_neg (by omega), List.append_nil]
    refine ⟨P0, ?_⟩
    intro k out x4 lo u lev h0 hl ho hx hj hk
    obtain ⟨k, rfl⟩ : ∃ m, k = m + 1 := ⟨k - 1, by omega⟩
    obtain ⟨rs, hr, hc⟩ := P0 k (out ++ [⟨⟨lo, x4⟩, lev⟩]) x4 (by omega) (by simp; omega) hx (by omega)
    refine ⟨⟨⟨lo, x4⟩, lev⟩ :: rs, ?_, rfl, hl, by simp at hx ⊢; omega, hj, fun h => by simp at hx h; omega, hc⟩
    simp only [runs_Logical.l1]
    rw [if_neg (by omega), if_pos (by omega), hr]
    simp
  | succ d ih =>
    obtain ⟨_, ih1⟩ := ih
    have P0 : ∀ (k : Nat) (out : List S35) (x4 : Int), 0 ≤ x4 → (out.length : Int) ≤ x4 → x4 + (d + 1 : Nat) = x0.length → 3 * (d + 1) + 1 ≤ k →
      ∃ rs, runs_Logical.l0 k x0 out x4 = some (out ++ rs) ∧ Chain x0 x4 rs x0.length := by
      intro k out x4 h0 ho hx hk
      obtain ⟨k, rfl⟩ : ∃ m, k = m + 2 := ⟨k - 2, by omega⟩
      obtain ⟨rs, hr, hc⟩ := ih1 k out (x4 + 1) x4 0 (rd x0 x4) h0 (by omega) ho (by omega) (fun j a b => by rw [show j = x4 by omega]) (by omega)
      refine ⟨rs, ?_, hc⟩
      simp only [runs_Logical.l0, runs_Logical.l1]
      rw [if_pos (by omega), if_pos (by omega), if_pos (by omega), if_pos (by omega), if_pos True.intro, w64 (by omega) (by omega), hr]
    refine ⟨P0, ?_⟩
    intro k out x4 lo u lev h0 hl ho hx hj hk
    obtain ⟨k, rfl⟩ : ∃ m, k = m + 1 := ⟨k - 1, by omega⟩
    by_cases he : rd x0 x4 = lev
    · obtain ⟨rs, hr, hc⟩ := ih1 k out (x4 + 1) lo u lev h0 (by omega) ho (by omega) (fun j a b => by
        by_cases e : j = x4
        · rw [e]; exact he
        · exact hj j a (by omega)) (by omega)
      refine ⟨rs, ?_, hc⟩
      simp only [runs_Logical.l1]
      rw [if_pos (by omega), if_pos (by omega), if_pos he, w64 (by omega) (by omega), hr]
    · obtain ⟨rs, hr, hc⟩ := P0 k (out ++ [⟨⟨lo, x4⟩, lev⟩]) x4 (by omega) (by simp; omega) hx (by omega)
      refine ⟨⟨⟨lo, x4⟩, lev⟩ :: rs, ?_, rfl, hl, by simp at hx ⊢; omega, hj, fun _ => he, hc⟩
      simp only [runs_Logical.l1]
      rw [if_pos (by omega), if_pos (by omega), if_neg he, if_pos (by omega), hr]
      simp
theorem logical_f (x0 : List Int) (hm : (x0.length : Int) ≤ 5000000000000) (k : Nat) (hk : 3 * x0.length + 1 ≤ k) : ∃ rs, runs_Logical.f k x0 = some rs ∧ Chain x0 0 rs x0.length := by
  obtain ⟨rs, hr, hc⟩ := (logical_loop x0 hm x0.length).1 k [] 0 (by omega) (by simp) (by omega) hk
  exact ⟨rs, by unfold runs_Logical.f; rw [hr]; rfl, hc⟩
theorem Chain.len {x0 : List Int} : ∀ {rs : List S35} {lo hi : Int}, Chain x0 lo rs hi → lo + rs.length ≤ hi
  | [], lo, hi, h => by simp [Chain] at h; simp [h]
  | r :: rs, lo, hi, ⟨h1, h2, h3, _, _, h⟩ => by have := Chain.len h; simp; omega

theorem awake_ok : naskhlaw30_awake.f 40 = some true := by decide +kernel
theorem rd33_at (pre : List S33) (x : S33) (rest : List S33) : rd_T33 (pre ++ x :: rest) (pre.length : Int) = x := by simp [rd_T33]

theorem parts_loop (x0 : List Int) (all : List S33) (hm : (all.length : Int) ≤ 9223372036854775000) : ∀ (rest : List S35) (pre : List S33) (k : Nat) (lo : Int),
    all = pre ++ rest.map (·.f0) → 0 ≤ lo → Chain x0 lo rest x0.length → rest.length < k →
    span_Parts.l0 k x0.length lo all all.length pre.length = some true := by
  intro rest
  induction rest with
  | nil =>
    intro pre k lo ha h0 hc hk
    obtain ⟨k, rfl⟩ : ∃ m, k = m + 1 := ⟨k - 1, by simp at hk; omega⟩
    simp only [span_Parts.l0]
    simp at ha
    subst ha
    rw [if_neg (by omega)]
    simp [Chain] at hc
    simp [hc]
  | cons r rest ih =>
    intro pre k lo ha h0 hc hk
    obtain ⟨k, rfl⟩ : ∃ m, k = m + 1 := ⟨k - 1, by simp at hk; omega⟩
    obtain ⟨h1, h2, h3, _, _, h⟩ := hc
    have hr : rd_T33 all (pre.length : Int) = r.f0 := by rw [ha]; simp [rd_T33]
    have hlen : pre.length < all.length := by rw [ha]; simp
    have := ih (pre ++ [r.f0]) k r.f0.f1 (by rw [ha]; simp) (by omega) h (by simp at hk; omega)
    simp only [List.length_append, List.length_cons, List.length_nil, Nat.zero_add, Int.natCast_add, Int.natCast_one] at this
    simp only [span_Parts.l0]
    rw [if_pos (by omega), if_pos (by omega), if_pos (by omega), hr, if_pos h1, span_Right.f, if_pos (by omega), Option.bind_some, if_pos (by simp; omega), w64 (by omega) (by omega), this]

theorem inner (x0 : List Int) (hx0 : x0.length ≤ 300) (x3 : List S35) (x4 : List S33) (x15 : List S35) (x16 x17 n lo hi lev : Int) (r : Bool) (K : Nat)
    (hlo : 0 ≤ lo) (hn : n = hi - lo) (hhi : hi ≤ x0.length) (hj : ∀ j, lo ≤ j → j < hi → rd x0 j = lev)
    (hr : ∀ k, K ≤ k → naskhlaw30_RunsParts.l0 k x0 x3 x4 x15 x16 (wrap64 (x17 + 1)) = some r) : ∀ (d : Nat) (k : Nat) (j : Int), 0 ≤ j → j + d = n → d + K < k →
    naskhlaw30_RunsParts.l1 k x0 x3 x4 x15 x16 x17 n j lo hi lev = some r := by
  intro d
  induction d with
  | zero =>
    intro k j h0 hd hk
    obtain ⟨k, rfl⟩ : ∃ m, k = m + 1 := ⟨k - 1, by omega⟩
    simp only [naskhlaw30_RunsParts.l1]
    rw [if_neg (by omega), hr k (by omega)]
  | succ d ih =>
    intro k j h0 hd hk
    obtain ⟨k, rfl⟩ : ∃ m, k = m + 1 := ⟨k - 1, by omega⟩
    simp only [naskhlaw30_RunsParts.l1]
    rw [w64 (x := lo + j) (by omega) (by omega), if_pos (by omega), if_neg (by omega), if_neg (by omega), if_pos (by omega), if_pos (by omega), if_pos (hj _ (by omega) (by omega)), w64 (by omega) (by omega)]
    exact ih k (j + 1) (by omega) (by omega) (by omega)

set_option maxRecDepth 20000 in
theorem outer (x0 : List Int) (hx0 : x0.length ≤ 300) (all : List S35) (hall : all.length ≤ x0.length) (hp : ∀ k, all.length < k → span_Parts.f k (all.map (·.f0)) x0.length = some true) : ∀ (rest pre : List S35) (k : Nat) (lo : Int),
    all = pre ++ rest → 0 ≤ lo → Chain x0 lo rest x0.length → (∀ p, pre.getLast? = some p → lo < x0.length → rd x0 lo ≠ p.f1) → 310 * rest.length + 340 < k →
    naskhlaw30_RunsParts.l0 k x0 all (pre.map (·.f0)) all all.length pre.length = some true := by
  intro rest
  induction rest with
  | nil =>
    intro pre k lo ha h0 hc hn hk
    obtain ⟨k, rfl⟩ : ∃ m, k = m + 1 := ⟨k - 1, by simp at hk; omega⟩
    simp at ha
    subst ha
    simp only [naskhlaw30_RunsParts.l0]
    rw [if_neg (by omega), hp k (by simp at hk; omega), Option.bind_some, if_pos rfl, at_rounds (fun k => naskhlaw30_awake.mono k) (by simp at hk; omega) awake_ok]
    rfl
  | cons r rest ih =>
    intro pre k lo ha h0 hc hn hk
    rw [List.length_cons, Nat.mul_succ] at hk
    obtain ⟨k, rfl⟩ : ∃ m, k = m + 2 := ⟨k - 2, by omega⟩
    obtain ⟨h1, h2, h3, h4, h5, h⟩ := hc
    have hr : rd_T35 all (pre.length : Int) = r := by rw [ha]; simp [rd_T35]
    have hlen : pre.length < all.length := by rw [ha]; simp
    have key : ∀ k, 310 * rest.length + 340 < k → naskhlaw30_RunsParts.l0 k x0 all ((pre ++ [r]).map (·.f0)) all all.length (wrap64 ((pre.length : Int) + 1)) = some true := by
      intro k hk
      have := ih (pre ++ [r]) k r.f0.f1 (by rw [ha]; simp) (by omega) h (fun p hp2 hl => by simp at hp2; subst hp2; exact h5 hl) hk
      rw [w64 (by omega) (by omega)]
      simp only [List.length_append, List.length_cons, List.length_nil, Nat.zero_add, Int.natCast_add, Int.natCast_one] at this
      exact this
    have hsz : (r.f0.f1 - r.f0.f0).toNat ≤ 300 := by clear key; omega
    have hbud : 300 + (310 * rest.length + 341) < k := by clear key; omega
    have go : ∀ b, b = false → naskhlaw30_RunsParts.j1 (k + 1) x0 all (List.map (fun x => x.f0) pre ++ [r.f0]) all all.length pre.length b r.f0.f0 r.f0.f1 r.f1 = some true := by
      intro b hb
      subst hb
      simp only [naskhlaw30_RunsParts.j1]
      rw [if_neg (by simp), w64 (by omega) (by omega)]
      have := inner x0 hx0 all ((pre ++ [r]).map (·.f0)) all all.length pre.length (r.f0.f1 - r.f0.f0) r.f0.f0 r.f0.f1 r.f1 true (310 * rest.length + 341) (by omega) rfl h3 (fun j a b => h4 j (by omega) b) (fun k hk => key k (Nat.lt_of_lt_of_le (Nat.lt_succ_self _) hk)) (r.f0.f1 - r.f0.f0).toNat k 0 (by omega) (by omega) (Nat.lt_of_le_of_lt (Nat.add_le_add_right hsz _) hbud)
      simpa using this
    simp only [naskhlaw30_RunsParts.l0]
    rw [if_pos (by omega), if_pos (by omega), if_pos (by omega), if_pos (by simp; omega), Option.bind_some, hr]
    by_cases hz : (pre.length : Int) > 0
    · rw [if_pos hz, w64 (by omega) (by omega), if_pos (by omega), if_pos (by omega)]
      refine go _ ?_
      obtain ⟨pre', q, rfl⟩ : ∃ pre' q, pre = pre' ++ [q] := ⟨pre.dropLast, pre.getLast (by intro e; simp [e] at hz), (List.dropLast_concat_getLast _).symm⟩
      have hq : rd_T35 all (((pre' ++ [q]).length : Int) - 1) = q := by
        rw [ha]; simp [rd_T35]
      rw [hq]
      have := hn q (by simp) (by omega)
      rw [h4 lo (by omega) (by omega)] at this
      simp; exact fun e => this e.symm
    · rw [if_neg hz]
      exact go _ rfl
end Go.Proofs.Ytjnhepgjkphkoaa.PureRunsPartsAux
namespace Go.Proofs.Ytjnhepgjkphkoaa.Pure
open Go.RowKit Go.Proofs.Ytjnhepgjkphkoaa.PRunsParts Go.Proofs.YtjnhepgjkphkoaaW.PrintWords Go.Proofs.YtjnhepgjkphkoaaW.PrintLast Go.Proofs.Ytjnhepgjkphkoaa.PureRunsPartsAux
theorem RunsParts : naskhlaw30_RunsParts.Pure := by
  intro l _ _ _
  refine ⟨100000, ?_⟩
  unfold naskhlaw30_RunsParts.f
  have aw : naskhlaw30_awake.f 100000 = some true := at_rounds (fun k => naskhlaw30_awake.mono k) (by omega) awake_ok
  by_cases h : (l.length : Int) > 300
  · rw [if_pos h, aw]; rfl
  · obtain ⟨rs, hr, hc⟩ := logical_f l (by omega) 100000 (by omega)
    have hlen := hc.len
    rw [if_neg h, hr, Option.bind_some]
    have := outer l (by omega) rs (by omega) (fun k hk => by
      have := parts_loop l (rs.map (·.f0)) (by simp; omega) rs [] k 0 (by simp) (by omega) hc hk
      unfold span_Parts.f
      exact this) rs [] 100000 0 (by simp) (by omega) hc (by simp) (by omega)
    exact this
end Go.Proofs.Ytjnhepgjkphkoaa.Pure
