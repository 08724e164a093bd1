/- Part 7 of the road to this seat's statements: lemmas about a small interpreter over the model's code, and about the functions that it is used on. No condition of its own. -/
import Derived.Test.YtcjabkbjedcglaaProg
import Derived.Test.YtcjabkbjedcglaaW6

section
/- The farm's functions keep their contracts: spans; given shares and truths. -/
open Go.Proofs
set_option maxRecDepth 100000
set_option linter.unusedVariables false
namespace Go.Abs.Farm

theorem map_range_succ {α : Type} (f : Nat → α) (i : Nat) : (List.range (i + 1)).map f = (List.range i).map f ++ [f i] := by
  rw [List.range_succ, List.map_append, List.map_singleton]

theorem k73 (hG : Good Try.prog (envOf [])) : v73.Kept Try.prog 73 := by
  rintro ⟨pr, rs, f, b, ⟨⟩⟩ hpre k hk
  change Int at pr
  change List (Int × Int) at rs
  change Int at f
  change Bool at b
  refine aspec hmix hG Try.func73 tx73 (Eq.mpr (eq73 pr rs f b k) ?_)
  replace hk : k (.agg [rI pr, .imm (.int .i64) (truthOf rs f b) false]) [] := hk
  unfold vc73
  have hl : rs.length ≤ 14 := hpre
  refine Loop.upto (fun i => (f, b, (i : Int), pr, rs, 0, pr, [], (List.range i).map (truthAt rs f b), ())) (fun i => True) rs.length rfl trivial ?_ ?_
  · intro i K hi hp hK
    dsimp only
    rw [br_decide]
    refine ⟨fun _ => ?_, fun h => absurd hi (by omega)⟩
    try simp only [Int.toNat_natCast]
    have hK := hK trivial
    have hr : rs.getD i (0, 0) = rs[i] := getD_at hi
    rw [map_range_succ] at hK
    refine br_intro (fun h => ⟨⟨by omega, hi⟩, by simp [big]; omega, fits64 (by omega) (by omega), ?_⟩) (fun h => ⟨⟨by omega, hi⟩, by simp [big]; omega, fits64 (by omega) (by omega), ?_⟩)
    · have e : truthAt rs f b i = rs[i].1 := by
        unfold truthAt
        rw [hr]
        exact if_pos h
      rw [e] at hK; exact hK
    · have e : truthAt rs f b i = rs[i].2 := by
        unfold truthAt
        rw [hr]
        exact if_neg (by rw [show (decide ((i : Int) = f) == b) = false from h]; simp)
      rw [e] at hK; exact hK
  · intro K hp
    dsimp only
    rw [br_decide]
    refine ⟨fun h => absurd h (by omega), fun _ => ?_⟩
    exact hk

theorem rough_spec {pr : Int} {rs : List (Int × Int)} (h : roughErr pr rs = 0) : 0 ≤ pr ∧ pr ≤ 200 ∧ 1 ≤ rs.length ∧ rs.length ≤ 8 ∧ (∀ r ∈ rs, 0 ≤ r.1 ∧ r.1 ≤ r.2 ∧ r.2 ≤ 100) ∧ ∃ q : Nat, q < rs.length ∧ 0 < (rs.getD q (0, 0)).1 := by
  unfold roughErr at h
  by_cases h1 : sized pr (rs.length : Int) ≠ 0
  · rw [if_pos h1] at h; exact absurd h h1
  · rw [if_neg h1] at h
    by_cases h2 : rs.any stray = true
    · rw [if_pos h2] at h; omega
    · rw [if_neg h2] at h
      by_cases h3 : (!rs.any (fun x => decide (0 < x.1))) = true
      · rw [if_pos h3] at h; omega
      · have h3 : rs.any (fun x => decide (0 < x.1)) = true := by simpa using h3
        obtain ⟨r, hr, hr0⟩ := List.any_eq_true.1 h3
        obtain ⟨q, hq, rfl⟩ := List.getElem_of_mem hr
        have h1 : sized pr (rs.length : Int) = 0 := by omega
        unfold sized at h1
        by_cases h4 : pr < 0 ∨ 200 < pr
        · rw [if_pos h4] at h1; omega
        · rw [if_neg h4] at h1
          by_cases h5 : (rs.length : Int) < 1 ∨ 8 < (rs.length : Int)
          · rw [if_pos h5] at h1; omega
          · refine ⟨by omega, by omega, by omega, by omega, fun r hr => ?_, q, hq, by rw [getD_at hq]; exact of_decide_eq_true hr0⟩
            have : rs.any stray = false := by simpa using h2
            have := List.any_eq_false.1 this r hr
            unfold stray at this
            simp only [decide_eq_true_eq] at this
            omega
theorem truth_len (rs : List (Int × Int)) (f : Int) (b : Bool) : (truthOf rs f b).length = rs.length := by unfold truthOf; simp
theorem truth_get {rs : List (Int × Int)} {f : Int} {b : Bool} {i : Nat} (hi : i < rs.length) : (truthOf rs f b).getD i 0 = truthAt rs f b i := by
  rw [getD_at (by rw [truth_len]; exact hi)]
  unfold truthOf
  rw [List.getElem_map, List.getElem_range]
theorem sum_nn : ∀ (l : List Int), (∀ x ∈ l, 0 ≤ x) → 0 ≤ sumL l
  | [], _ => by simp [sumL]
  | a :: l, h => by
    have h1 := sum_nn l (fun x hx => h x (by simp [hx]))
    have h2 := h a (by simp)
    rw [sum_cons]; omega
theorem sum_pos {l : List Int} (h : ∀ x ∈ l, 0 ≤ x) {q : Nat} (hq : q < l.length) (hp : 0 < l.getD q 0) : 0 < sumL l := by
  refine Int.not_le.1 (fun h0 => ?_)
  have h1 : 0 ≤ sumL l := sum_nn l h
  have := sum_zero h (by omega) _ (List.getElem_mem hq)
  rw [getD_at hq] at hp
  omega
theorem fine_of {pr : Int} {cl : List Int} (h1 : 0 ≤ pr) (h2 : pr ≤ 200) (h3 : 1 ≤ cl.length) (h4 : cl.length ≤ 8) (h5 : ∀ x ∈ cl, 0 ≤ x ∧ x ≤ 100) {q : Nat} (hq : q < cl.length) (hp : 0 < cl.getD q 0) : yearErr pr cl = 0 := by
  have hs := sum_pos (fun x hx => (h5 x hx).1) hq hp
  have e1 : sized pr (cl.length : Int) = 0 := by unfold sized; rw [if_neg (by omega), if_neg (by omega)]
  have e2 : anyOut 0 100 cl = false := by
    unfold anyOut
    rw [List.any_eq_false]
    intro x hx
    have := h5 x hx
    simp only [outOf, decide_eq_true_eq]
    omega
  unfold yearErr
  rw [if_neg (by omega), if_neg (by simp [e2]), if_neg (by omega)]
theorem truth_in {rs : List (Int × Int)} (h : ∀ r ∈ rs, 0 ≤ r.1 ∧ r.1 ≤ r.2 ∧ r.2 ≤ 100) {f : Int} {b : Bool} {i : Nat} (hi : i < rs.length) : (rs.getD i (0, 0)).1 ≤ truthAt rs f b i ∧ truthAt rs f b i ≤ (rs.getD i (0, 0)).2 ∧ 0 ≤ truthAt rs f b i ∧ truthAt rs f b i ≤ 100 := by
  have h1 := h _ (List.getElem_mem hi)
  have hr : rs.getD i (0, 0) = rs[i] := getD_at hi
  unfold truthAt
  rw [hr]
  split <;> omega
theorem truth_fine {pr : Int} {rs : List (Int × Int)} (h : roughErr pr rs = 0) (f : Int) (b : Bool) : yearErr pr (truthOf rs f b) = 0 := by
  obtain ⟨h1, h2, h3, h4, h5, q, hq, hp⟩ := rough_spec h
  refine fine_of h1 h2 (by rw [truth_len]; exact h3) (by rw [truth_len]; exact h4) (fun x hx => ?_) (q := q) (by rw [truth_len]; exact hq) ?_
  · unfold truthOf at hx
    obtain ⟨i, hi, rfl⟩ := List.mem_map.1 hx
    have := truth_in h5 (f := f) (b := b) (List.mem_range.1 hi)
    omega
  · rw [truth_get hq]
    have := truth_in h5 (f := f) (b := b) hq
    omega
theorem fairOf_len (pr : Int) (cl : List Int) : (fairOf pr cl).length = cl.length := fairUp_len cl _

theorem k39 (hG : Good Try.prog (envOf [(41, mkC [v41]), (73, mkC [v73]), (60, mkC [v60])])) : v39.Kept Try.prog 39 := by
  rintro ⟨pr, rs, f, ⟨⟩⟩ hpre k hk
  change Int at pr
  change List (Int × Int) at rs
  change Int at f
  refine aspec hmix hG Try.func39 tx39 (Eq.mpr (eq39 pr rs f k) ?_)
  replace hk : k (.tup [two (spanLo pr rs f) (spanHi pr rs f), rI (spanE pr rs f)]) [] := hk
  unfold vc39
  have hl : rs.length ≤ 14 := hpre
  have bad : ∀ e : Int, e ≠ 0 → spanE pr rs f = e → k (.tup [two 0 0, rI e]) [] := fun e h0 h => by
    have e1 : spanLo pr rs f = 0 := by unfold spanLo; rw [if_neg (by omega)]
    have e2 : spanHi pr rs f = 0 := by unfold spanHi; rw [if_neg (by omega)]
    rw [e1, e2, h] at hk; exact hk
  refine ⟨hl, ?_⟩
  rw [br_bne]
  refine ⟨fun h => ⟨hl, bad _ h (by unfold spanE; rw [if_pos h])⟩, fun h => ?_⟩
  rw [br_false]
  refine ⟨fun h2 => ?_, fun h2 => bad 2 (by omega) (by unfold spanE; rw [if_neg (by omega), if_pos (by omega)])⟩
  rw [br_decide]
  refine ⟨fun h3 => bad 2 (by omega) (by unfold spanE; rw [if_neg (by omega), if_pos (by omega)]), fun h3 => ?_⟩
  have hf1 := truth_fine h f true
  have hf2 := truth_fine h f false
  have hb : ∀ b, f.toNat < (fairOf pr (truthOf rs f b)).length := fun b => by rw [fairOf_len, truth_len]; omega
  have e0 : spanE pr rs f = 0 := by unfold spanE; rw [if_neg (by omega), if_neg (by omega)]
  have e1 : spanLo pr rs f = (fairOf pr (truthOf rs f true))[f.toNat]'(hb true) := by unfold spanLo at0; rw [if_pos e0, getD_at (hb true)]
  have e2 : spanHi pr rs f = (fairOf pr (truthOf rs f false))[f.toNat]'(hb false) := by unfold spanHi at0; rw [if_pos e0, getD_at (hb false)]
  rw [e0, e1, e2] at hk
  exact ⟨hl, hf1, ⟨by omega, hb true⟩, hb true, hl, hf2, ⟨by omega, hb false⟩, hb false, hk⟩

theorem set_truth {rs : List (Int × Int)} {f : Int} (h0 : 0 ≤ f) (h1 : f.toNat < rs.length) : (rs.map (fun r : Int × Int => r.2)).set f.toNat rs[f.toNat].1 = truthOf rs f true ∧ (rs.map (fun r : Int × Int => r.1)).set f.toNat rs[f.toNat].2 = truthOf rs f false := by
  constructor
  · apply List.ext_getElem
    · simp [truth_len]
    · intro i a1 a2
      have hi : i < rs.length := by simpa using a1
      have e := truth_get (f := f) (b := true) hi
      rw [getD_at a2] at e
      rw [e, List.getElem_set]
      unfold truthAt
      rw [getD_at hi]
      by_cases hif : f.toNat = i
      · rw [if_pos hif]
        subst hif
        rw [if_pos (by simp; omega)]
      · rw [if_neg hif, if_neg (by simp; omega)]; simp
  · apply List.ext_getElem
    · simp [truth_len]
    · intro i a1 a2
      have hi : i < rs.length := by simpa using a1
      have e := truth_get (f := f) (b := false) hi
      rw [getD_at a2] at e
      rw [e, List.getElem_set]
      unfold truthAt
      rw [getD_at hi]
      by_cases hif : f.toNat = i
      · rw [if_pos hif]
        subst hif
        rw [if_neg (by simp; omega)]
      · rw [if_neg hif, if_pos (by simp; omega)]; simp
theorem fair8_at {pr : Int} {cl : List Int} (h8 : cl.length ≤ 8) {i : Nat} (hi : i < cl.length) (h : i < (fair8 pr cl).length) : (fair8 pr cl)[i] = (fairOf pr cl).getD i 0 := by
  have e : (fair8 pr cl)[i] = (fair8 pr cl).getD i 0 := (getD_at h).symm
  rw [e]
  unfold fair8
  rw [List.getD_eq_getElem?_getD, List.getD_eq_getElem?_getD, List.getElem?_append_left (by rw [fairOf_len]; exact hi)]

theorem k38 (hG : Good Try.prog (envOf [(40, mkC [v40]), (56, mkC [v56]), (59, mkC [v59])])) : v38.Kept Try.prog 38 := by
  rintro ⟨pr, rs, f, ⟨⟩⟩ hpre k hk
  change Int at pr
  change List (Int × Int) at rs
  change Int at f
  refine aspec hmix hG Try.func38 tx38 (Eq.mpr (eq38 pr rs f k) ?_)
  replace hk : k (.tup [two (spanLo pr rs f) (spanHi pr rs f), rI (spanE pr rs f)]) [] := hk
  unfold vc38
  have hl : rs.length ≤ 14 := hpre
  have bad : ∀ e : Int, e ≠ 0 → spanE pr rs f = e → k (.tup [two 0 0, rI e]) [] := fun e h0 h => by
    have e1 : spanLo pr rs f = 0 := by unfold spanLo; rw [if_neg (by omega)]
    have e2 : spanHi pr rs f = 0 := by unfold spanHi; rw [if_neg (by omega)]
    rw [e1, e2, h] at hk; exact hk
  refine ⟨hl, ?_⟩
  rw [br_bne]
  refine ⟨fun h => bad _ h (by unfold spanE; rw [if_pos h]), fun h => ?_⟩
  refine ⟨fits64 (by omega) (by omega), by show (1 : Nat) ≤ big60; decide, ?_⟩
  rw [br_notnot, anyOut_one]
  refine ⟨fun h2 => ?_, fun h2 => ?_⟩
  · simp only [outOf, decide_eq_true_eq] at h2
    exact bad 2 (by omega) (by unfold spanE; rw [if_neg (by omega), if_pos (by omega)])
  simp only [outOf, decide_eq_false_iff_not] at h2
  obtain ⟨p1, p2, p3, p4, p5, p6⟩ := rough_spec h
  have hft : f.toNat < rs.length := by omega
  have hm2 : (rs.map (fun r : Int × Int => r.2)).length = rs.length := List.length_map _
  have hm1 : (rs.map (fun r : Int × Int => r.1)).length = rs.length := List.length_map _
  refine ⟨⟨by omega, rfl, by simp only [big]; omega⟩, ⟨by omega, rfl, by simp only [big]; omega⟩, ?_⟩
  refine Loop.upto (fun i => (f, rs, ((rs.length : Nat) : Int), (i : Int), pr, rs, 0, 0, (rs.map (fun r : Int × Int => r.2)).take i ++ List.replicate (rs.length - i) 0, (rs.map (fun r : Int × Int => r.1)).take i ++ List.replicate (rs.length - i) 0, ())) (fun i => True) rs.length rfl trivial ?_ ?_
  · intro i K hi _ hK
    dsimp only
    have hK := hK trivial
    have l1 : ((rs.map (fun r : Int × Int => r.2)).take i ++ List.replicate (rs.length - i) 0).length = rs.length := by simp; omega
    have l2 : ((rs.map (fun r : Int × Int => r.1)).take i ++ List.replicate (rs.length - i) 0).length = rs.length := by simp; omega
    rw [br_decide]
    refine ⟨fun _ => ?_, fun h => absurd hi (by omega)⟩
    simp only [Int.toNat_natCast]
    have s1 := fill_set (l := rs.map (fun r : Int × Int => r.2)) (n := rs.length) (i := i) (by omega) hm2 rs[i].2 (by rw [List.getElem_map])
    have s2 := fill_set (l := rs.map (fun r : Int × Int => r.1)) (n := rs.length) (i := i) (by omega) hm1 rs[i].1 (by rw [List.getElem_map])
    rw [← s1, ← s2] at hK
    exact ⟨⟨by omega, hi⟩, ⟨by omega, by rw [l1]; exact hi⟩, by rw [l1]; exact hi, ⟨by omega, by rw [l2]; exact hi⟩, by rw [l2]; exact hi, fits64 (by omega) (by omega), hK⟩
  · intro K _
    dsimp only
    rw [br_decide]
    refine ⟨fun h => absurd h (by omega), fun _ => ?_⟩
    have e1 : (rs.map (fun r : Int × Int => r.2)).take rs.length ++ List.replicate (rs.length - rs.length) 0 = rs.map (fun r : Int × Int => r.2) := by
      rw [List.take_of_length_le (by omega), Nat.sub_self]; simp
    have e2 : (rs.map (fun r : Int × Int => r.1)).take rs.length ++ List.replicate (rs.length - rs.length) 0 = rs.map (fun r : Int × Int => r.1) := by
      rw [List.take_of_length_le (by omega), Nat.sub_self]; simp
    rw [e1, e2]
    obtain ⟨t1, t2⟩ := set_truth (show 0 ≤ f by omega) hft
    have hb : ∀ b, f.toNat < (fair8 pr (truthOf rs f b)).length := fun b => by rw [fair8_len (by rw [truth_len]; exact p4)]; omega
    have x1 := fair8_at (pr := pr) (cl := truthOf rs f true) (by rw [truth_len]; exact p4) (i := f.toNat) (by rw [truth_len]; exact hft) (hb true)
    have x2 := fair8_at (pr := pr) (cl := truthOf rs f false) (by rw [truth_len]; exact p4) (i := f.toNat) (by rw [truth_len]; exact hft) (hb false)
    have z0 : spanE pr rs f = 0 := by unfold spanE; rw [if_neg (by omega), if_neg (by omega)]
    have z1 : spanLo pr rs f = (fair8 pr (truthOf rs f true))[f.toNat]'(hb true) := by unfold spanLo at0; rw [if_pos z0, x1]
    have z2 : spanHi pr rs f = (fair8 pr (truthOf rs f false))[f.toNat]'(hb false) := by unfold spanHi at0; rw [if_pos z0, x2]
    rw [z0, z1, z2] at hk
    have w8 := fair8_len (pr := pr) (cl := truthOf rs f true) (by rw [truth_len]; exact p4)
    have w9 := fair8_len (pr := pr) (cl := truthOf rs f false) (by rw [truth_len]; exact p4)
    refine ⟨⟨by omega, hft⟩, ⟨by omega, hft⟩, ⟨by omega, by rw [hm2]; exact hft⟩, by rw [hm2]; exact hft, ⟨by omega, by rw [hm1]; exact hft⟩, by rw [hm1]; exact hft, ?_⟩
    have y1 : yearErr pr ((rs.map (fun r : Int × Int => r.2)).set f.toNat rs[f.toNat].1) = 0 := by rw [t1]; exact truth_fine h f true
    have y2 : yearErr pr ((rs.map (fun r : Int × Int => r.1)).set f.toNat rs[f.toNat].2) = 0 := by rw [t2]; exact truth_fine h f false
    simp only [t1, t2]
    exact ⟨⟨y1, rfl⟩, ⟨by omega, hb true⟩, by omega, w8, ⟨y2, rfl⟩, ⟨by omega, hb false⟩, by omega, w9, hk⟩

/-! ### given shares -/
theorem move_facts {s : List Int} {a b : Nat} (ha : a < s.length) (hb : b < s.length) (hp : ∀ x ∈ s, 0 ≤ x) : (moveOne s a b).length = s.length ∧ sumL (moveOne s a b) = sumL s ∧ ∀ x ∈ moveOne s a b, 0 ≤ x := by
  unfold moveOne
  by_cases h : 0 < s.getD a 0
  · rw [if_pos h]
    have hl : (s.set a (s.getD a 0 - 1)).length = s.length := List.length_set
    have hq : ∀ x ∈ s.set a (s.getD a 0 - 1), 0 ≤ x := by
      intro x hx
      rcases List.mem_or_eq_of_mem_set hx with hx | rfl
      · exact hp x hx
      · omega
    refine ⟨by simp, ?_, ?_⟩
    · rw [sum_set _ _ _ (by omega), sum_set _ _ _ ha]; omega
    · intro x hx
      rcases List.mem_or_eq_of_mem_set hx with hx | rfl
      · exact hq x hx
      · have := hq _ (List.getElem_mem (show b < (s.set a (s.getD a 0 - 1)).length by omega))
        rw [getD_at (by omega)]; omega
  · rw [if_neg h]; exact ⟨rfl, rfl, hp⟩
theorem le_sum {l : List Int} (h : ∀ x ∈ l, 0 ≤ x) : ∀ x ∈ l, x ≤ sumL l := by
  induction l with
  | nil => intro x hx; cases hx
  | cons a l ih =>
    intro x hx
    rw [sum_cons]
    have h1 : 0 ≤ sumL l := sum_nn l (fun x hx => h x (by simp [hx]))
    have h2 := h a (by simp)
    rcases List.mem_cons.1 hx with rfl | hx
    · omega
    · have := ih (fun x hx => h x (by simp [hx])) x hx; omega
abbrev GvInv (pr : Int) (cl by8 : List Int) (s : List Int × (Int × (List Int × Unit))) : Prop :=
  ∃ (i : Nat) (S : List Int), s = (by8, ((2 * i : Nat) : Int), S, ()) ∧ 2 * i ≤ by8.length + 1 ∧ S.length = cl.length ∧ sumL S = pr ∧ (∀ x ∈ S, 0 ≤ x) ∧ givenFrom S (by8.drop (2 * i)) = given pr cl by8

theorem k44 (hG : Good Try.prog (envOf [(60, mkC [v60])])) : v44.Kept Try.prog 44 := by
  rintro ⟨pr, cl, by8, ⟨⟩⟩ hpre k hk
  change Int at pr
  change List Int at cl
  change List Int at by8
  refine aspec hmix hG Try.func44 tx44 (Eq.mpr (eq44 pr cl by8 k) ?_)
  replace hk : k (.imm (.int .i64) (given pr cl by8) false) [] := hk
  unfold vc44
  obtain ⟨hf, hbl, hby⟩ := hpre
  have hf : yearErr pr cl = 0 := hf
  have hbl : by8.length ≤ 1000 := hbl
  have hby : ∀ x ∈ by8, (0 : Int) ≤ x ∧ x ≤ 255 := hby
  obtain ⟨f1, f2, f3, f4, f5, f6⟩ := fine_spec hf
  have hfo := shares_spec (fair_ok hf)
  refine ⟨hf, ?_⟩
  refine Loop.intro (GvInv pr cl by8) (fun s => by8.length + 2 - s.2.1.toNat) ?_ ⟨0, fairOf pr cl, rfl, by omega, fairOf_len _ _, hfo.2.2.2, fun x hx => (hfo.2.2.1 x hx).1, rfl⟩
  rintro s K ⟨i, S, rfl, hi, hSl, hSs, hSp, hg⟩ hK
  dsimp only
  have hSb := le_sum hSp
  refine ⟨fits64 (by omega) (by omega), ?_⟩
  rw [br_decide]
  refine ⟨fun h => ?_, fun h => ?_⟩
  · have i1 : 2 * i < by8.length := by omega
    have i2 : 2 * i + 1 < by8.length := by omega
    have x1 := hby _ (List.getElem_mem i1)
    have x2 := hby _ (List.getElem_mem i2)
    have et : (((2 * i : Nat) : Int) + 1).toNat = 2 * i + 1 := by omega
    have hd : by8.drop (2 * i) = by8[2 * i] :: by8[2 * i + 1] :: by8.drop (2 * i + 2) := by
      rw [List.drop_eq_getElem_cons i1, List.drop_eq_getElem_cons i2]
    have hn : 0 < (S.length : Int) := by omega
    have a0 := Int.emod_nonneg by8[2 * i] (show (S.length : Int) ≠ 0 by omega)
    have a1 := Int.emod_lt_of_pos by8[2 * i] hn
    have b0 := Int.emod_nonneg by8[2 * i + 1] (show (S.length : Int) ≠ 0 by omega)
    have b1 := Int.emod_lt_of_pos by8[2 * i + 1] hn
    rw [hd] at hg
    have hg : givenFrom (moveOne S (by8[2 * i] % (S.length : Int)).toNat (by8[2 * i + 1] % (S.length : Int)).toNat) (by8.drop (2 * i + 2)) = given pr cl by8 := hg
    simp only [Int.toNat_natCast, et]
    refine ⟨⟨by omega, i1⟩, fits64 (by omega) (by omega), ⟨x1.1, hn⟩, fits64 (by omega) (by omega), ⟨by omega, i2⟩, fits64 (by omega) (by omega), ⟨x2.1, hn⟩, ?_⟩
    have ha : (by8[2 * i] % (S.length : Int)).toNat < S.length := by omega
    have hb : (by8[2 * i + 1] % (S.length : Int)).toNat < S.length := by omega
    obtain ⟨m1, m2, m3⟩ := move_facts ha hb hSp
    have e2 : ((2 * i : Nat) : Int) + 2 = ((2 * (i + 1) : Nat) : Int) := by omega
    have e3 : 2 * (i + 1) = 2 * i + 2 := by omega
    have next : K (by8, ((2 * i : Nat) : Int) + 2, moveOne S (by8[2 * i] % (S.length : Int)).toNat (by8[2 * i + 1] % (S.length : Int)).toNat, ()) := by
      refine hK _ ⟨i + 1, moveOne S (by8[2 * i] % (S.length : Int)).toNat (by8[2 * i + 1] % (S.length : Int)).toNat, by rw [e2], by omega, by rw [m1, hSl], by rw [m2, hSs], m3, by rw [e3]; exact hg⟩ ?_
      show by8.length + 2 - (((2 * i : Nat) : Int) + 2).toNat < by8.length + 2 - ((2 * i : Nat) : Int).toNat
      omega
    unfold moveOne at next
    rw [getD_at ha] at next
    have hSa := hSp _ (List.getElem_mem ha)
    have hSa2 := hSb _ (List.getElem_mem ha)
    refine ⟨⟨a0, ha⟩, ha, ?_⟩
    rw [br_decide]
    refine ⟨fun hc => ?_, fun hc => ⟨fits64 (by omega) (by omega), ?_⟩⟩
    · rw [if_pos hc] at next
      have hb' : (by8[2 * i + 1] % (S.length : Int)).toNat < (S.set (by8[2 * i] % (S.length : Int)).toNat (S[(by8[2 * i] % (S.length : Int)).toNat] - 1)).length := by rw [List.length_set]; exact hb
      rw [getD_at hb'] at next
      have hle : -1 ≤ (S.set (by8[2 * i] % (S.length : Int)).toNat (S[(by8[2 * i] % (S.length : Int)).toNat] - 1))[(by8[2 * i + 1] % (S.length : Int)).toNat] ∧ (S.set (by8[2 * i] % (S.length : Int)).toNat (S[(by8[2 * i] % (S.length : Int)).toNat] - 1))[(by8[2 * i + 1] % (S.length : Int)).toNat] ≤ 200 := by
        rcases List.mem_or_eq_of_mem_set (List.getElem_mem hb') with hx | hx
        · have := hSp _ hx; have := hSb _ hx; omega
        · omega
      exact ⟨⟨a0, ha⟩, ha, fits64 (by omega) (by omega), ⟨a0, ha⟩, ha, ⟨b0, hb'⟩, hb', fits64 (by omega) (by omega), ⟨b0, hb'⟩, hb', fits64 (by omega) (by omega), next⟩
    · rw [if_neg hc] at next
      exact next
  · have hd : givenFrom S (by8.drop (2 * i)) = S := by
      rcases Nat.lt_or_ge (2 * i) by8.length with h1 | h1
      · have : by8.drop (2 * i) = [by8[2 * i]] := by
          rw [List.drop_eq_getElem_cons h1, List.drop_of_length_le (by omega)]
        rw [this]; rfl
      · rw [List.drop_of_length_le h1]; rfl
    rw [hd] at hg
    rw [hg]
    exact hk

theorem k51 (hG : Good Try.prog (envOf [])) : v51.Kept Try.prog 51 := by
  rintro ⟨pr, rs, by8, ⟨⟩⟩ hpre k hk
  change Int at pr
  change List (Int × Int) at rs
  change List Int at by8
  refine aspec hmix hG Try.func51 tx51 (Eq.mpr (eq51 pr rs by8 k) ?_)
  replace hk : k (.agg [rI pr, .imm (.int .i64) (trueOf rs by8) false]) [] := hk
  unfold vc51
  obtain ⟨hl, hr, hbl, hby⟩ := hpre
  have hl : rs.length ≤ 14 := hl
  have hr : ∀ r ∈ rs, 0 ≤ r.1 ∧ r.1 ≤ r.2 ∧ r.2 ≤ 100 := hr
  have hbl : by8.length ≤ 1000 := hbl
  have hby : ∀ x ∈ by8, (0 : Int) ≤ x ∧ x ≤ 255 := hby
  refine Loop.upto (fun i => (by8, (i : Int), pr, rs, 0, pr, [], (List.range i).map (trueAt rs by8), ())) (fun i => True) rs.length rfl trivial ?_ ?_
  · intro i K hi hp hK
    dsimp only
    rw [br_decide]
    refine ⟨fun _ => ?_, fun h => absurd hi (by omega)⟩
    try simp only [Int.toNat_natCast]
    have hK := hK trivial
    have hri := hr _ (List.getElem_mem hi)
    have hrg : rs.getD i (0, 0) = rs[i] := getD_at hi
    rw [map_range_succ] at hK
    have hd : 0 < rs[i].2 - rs[i].1 + 1 := by omega
    rw [br_decide]
    refine ⟨fun h => ?_, fun h => ?_⟩
    · have hne : by8 ≠ [] := fun e => by subst e; simp at h
      have hp : 0 < (by8.length : Int) := h
      have m0 := Int.emod_nonneg (i : Int) (show (by8.length : Int) ≠ 0 by omega)
      have m1 := Int.emod_lt_of_pos (i : Int) hp
      have ei : ((i : Int) % (by8.length : Int)).toNat = i % by8.length := by
        rw [show (i : Int) % (by8.length : Int) = ((i % by8.length : Nat) : Int) from rfl, Int.toNat_natCast]
      have hlt : i % by8.length < by8.length := Nat.mod_lt _ (by omega)
      have hx := hby _ (List.getElem_mem hlt)
      have q0 := Int.emod_nonneg by8[i % by8.length] (show rs[i].2 - rs[i].1 + 1 ≠ 0 by omega)
      have q1 := Int.emod_lt_of_pos by8[i % by8.length] hd
      have e : trueAt rs by8 i = rs[i].1 + by8[i % by8.length] % (rs[i].2 - rs[i].1 + 1) := by
        unfold trueAt
        rw [hrg, if_neg hne, getD_at hlt]
      rw [e] at hK
      simp only [ei]
      exact ⟨⟨by omega, hp⟩, ⟨m0, hlt⟩, fits64 (by omega) (by omega), ⟨by omega, hi⟩, ⟨by omega, hi⟩, ⟨by omega, hi⟩, fits64 (by omega) (by omega), fits64 (by omega) (by omega), ⟨hx.1, hd⟩, fits64 (by omega) (by omega), by simp [big]; omega, fits64 (by omega) (by omega), hK⟩
    · have hne : by8 = [] := List.eq_nil_of_length_eq_zero (by omega)
      have e : trueAt rs by8 i = rs[i].1 + 0 % (rs[i].2 - rs[i].1 + 1) := by
        unfold trueAt
        rw [hrg, if_pos hne]
      have z : (0 : Int) % (rs[i].2 - rs[i].1 + 1) = 0 := Int.zero_emod _
      rw [e] at hK
      exact ⟨⟨by omega, hi⟩, ⟨by omega, hi⟩, ⟨by omega, hi⟩, fits64 (by omega) (by omega), fits64 (by omega) (by omega), ⟨by omega, hd⟩, fits64 (by omega) (by omega), by simp [big]; omega, fits64 (by omega) (by omega), hK⟩
  · intro K hp
    dsimp only
    rw [br_decide]
    refine ⟨fun h => absurd h (by omega), fun _ => ?_⟩
    exact hk
end Go.Abs.Farm
end

section
/- Conditions and their equations, printed by a program. -/
open Go.Proofs
set_option maxRecDepth 100000
set_option linter.unusedVariables false
namespace Go.Abs.Farm
def vc35 (pr : Int) (cl : List Int) (s : List Int) (k : AVal → List Cont → Prop) : Prop :=
  (Go.Abs.Farm.v33.p (pr, (cl, (s, ())))) ∧
  br (((Go.Abs.Farm.fairE pr cl s) != (0 : Int)))
   ((k (Go.Abs.AVal.tup ((Go.Abs.AVal.agg ((Go.Abs.AVal.int Go.IntKind.i64 (0 : Int)) :: ((Go.Abs.AVal.int Go.IntKind.i64 (0 : Int)) :: []))) :: ((Go.Abs.AVal.agg ((Go.Abs.AVal.int Go.IntKind.i64 (0 : Int)) :: ((Go.Abs.AVal.int Go.IntKind.i64 (0 : Int)) :: []))) :: ((Go.Abs.AVal.int Go.IntKind.i64 (Go.Abs.Farm.fairE pr cl s)) :: [])))) []))
   (Go.Abs.Loop (σ := ((List Int) × (Int × (Int × (Int × (Int × (Int × (Int × (Int × ((List Int) × ((List (Int × Int)) × ((List (Int × Int)) × Unit)))))))))))) (fun K4 x4 =>
     br ((decide (x4.2.2.1 < x4.2.1)))
      (∃ h6 : (((0 : Int) ≤ x4.2.2.1) ∧ ((Int.toNat x4.2.2.1) < (List.length x4.1))),
      (Go.Abs.fitsK Go.IntKind.i64 ((x4.1[(Int.toNat x4.2.2.1)]'h6.2) + (1 : Int))) ∧
      (((List.length x4.2.2.2.2.2.2.2.2.2.1) + (List.length ((x4.2.2.1, ((x4.1[(Int.toNat x4.2.2.1)]'h6.2) + (1 : Int))) :: ([] : List (Int × Int))))) ≤ Go.Abs.big) ∧
      br ((decide ((x4.1[(Int.toNat x4.2.2.1)]'h6.2) > (0 : Int))))
       ((((0 : Int) ≤ (((List.length x4.2.2.2.2.2.2.2.2.2.2.1) : Nat) : Int)) ∧ (((((List.length x4.2.2.2.2.2.2.2.2.2.2.1) : Nat) : Int) ≤ (((List.length x4.2.2.2.2.2.2.2.2.2.2.1) : Nat) : Int)) ∧ ((((List.length x4.2.2.2.2.2.2.2.2.2.2.1) : Nat) : Int) = (((List.length x4.2.2.2.2.2.2.2.2.2.2.1) : Nat) : Int)))) ∧
       (((Int.toNat (((List.length x4.2.2.2.2.2.2.2.2.2.2.1) : Nat) : Int)) + (List.length ((x4.2.2.1, (x4.1[(Int.toNat x4.2.2.1)]'h6.2)) :: ([] : List (Int × Int))))) ≤ Go.Abs.big) ∧
       ((0 : Nat) < (List.length ((x4.2.2.1, (x4.1[(Int.toNat x4.2.2.1)]'h6.2)) :: ([] : List (Int × Int))))) ∧
       (Go.Abs.fitsK Go.IntKind.i64 (x4.2.2.1 + (1 : Int))) ∧
       (K4 (x4.1, (x4.2.1, ((x4.2.2.1 + (1 : Int)), (x4.2.2.2.1, (x4.2.2.2.2.1, (x4.2.2.2.2.2.1, (x4.2.2.2.2.2.2.1, (x4.2.2.2.2.2.2.2.1, (x4.2.2.2.2.2.2.2.2.1, ((x4.2.2.2.2.2.2.2.2.2.1 ++ ((x4.2.2.1, ((x4.1[(Int.toNat x4.2.2.1)]'h6.2) + (1 : Int))) :: ([] : List (Int × Int)))), (((List.take (Int.toNat (((List.length x4.2.2.2.2.2.2.2.2.2.2.1) : Nat) : Int)) (List.drop (0 : Nat) x4.2.2.2.2.2.2.2.2.2.2.1)) ++ ((x4.2.2.1, (x4.1[(Int.toNat x4.2.2.1)]'h6.2)) :: ([] : List (Int × Int)))), ())))))))))))))
       ((Go.Abs.fitsK Go.IntKind.i64 (x4.2.2.1 + (1 : Int))) ∧
       (K4 (x4.1, (x4.2.1, ((x4.2.2.1 + (1 : Int)), (x4.2.2.2.1, (x4.2.2.2.2.1, (x4.2.2.2.2.2.1, (x4.2.2.2.2.2.2.1, (x4.2.2.2.2.2.2.2.1, (x4.2.2.2.2.2.2.2.2.1, ((x4.2.2.2.2.2.2.2.2.2.1 ++ ((x4.2.2.1, ((x4.1[(Int.toNat x4.2.2.1)]'h6.2) + (1 : Int))) :: ([] : List (Int × Int)))), (x4.2.2.2.2.2.2.2.2.2.2.1, ()))))))))))))))
      ((Go.Abs.Farm.v69a.p (x4.2.2.2.2.2.2.2.2.2.1, (x4.2.2.2.2.2.2.2.1, (x4.2.2.2.2.2.2.2.2.1, ())))) ∧
      br (((((List.length x4.2.2.2.2.2.2.2.2.2.2.1) : Nat) : Int) == (0 : Int)))
       ((Go.Abs.Farm.v71.p (x4.2.2.2.2.2.2.2.1, (x4.2.2.2.2.2.2.2.2.1, ((Go.Abs.Farm.gt1 x4.2.2.2.2.2.2.2.2.1 x4.2.2.2.2.2.2.2.2.2.1), ((Go.Abs.Farm.gt2 x4.2.2.2.2.2.2.2.2.1 x4.2.2.2.2.2.2.2.2.2.1), ()))))) ∧
       (k (Go.Abs.AVal.tup ((Go.Abs.AVal.agg ((Go.Abs.AVal.int Go.IntKind.i64 (Go.Abs.Farm.byN (Go.Abs.Farm.at0 x4.2.2.2.2.2.2.2.2.1 (Go.Abs.Farm.gt1 x4.2.2.2.2.2.2.2.2.1 x4.2.2.2.2.2.2.2.2.2.1)) (Go.Abs.Farm.gt2 x4.2.2.2.2.2.2.2.2.1 x4.2.2.2.2.2.2.2.2.2.1))) :: ((Go.Abs.AVal.int Go.IntKind.i64 (Go.Abs.Farm.byD (Go.Abs.Farm.at0 x4.2.2.2.2.2.2.2.2.1 (Go.Abs.Farm.gt1 x4.2.2.2.2.2.2.2.2.1 x4.2.2.2.2.2.2.2.2.2.1)) (Go.Abs.Farm.gt2 x4.2.2.2.2.2.2.2.2.1 x4.2.2.2.2.2.2.2.2.2.1))) :: []))) :: ((Go.Abs.AVal.agg ((Go.Abs.AVal.int Go.IntKind.i64 (0 : Int)) :: ((Go.Abs.AVal.int Go.IntKind.i64 (1 : Int)) :: []))) :: ((Go.Abs.AVal.int Go.IntKind.i64 (0 : Int)) :: [])))) []))
       ((Go.Abs.Farm.v69b.p (x4.2.2.2.2.2.2.2.2.2.2.1, (x4.2.2.2.2.2.2.2.1, (x4.2.2.2.2.2.2.2.2.1, ())))) ∧
       (Go.Abs.Farm.v67.p (x4.2.2.2.2.2.2.2.1, (x4.2.2.2.2.2.2.2.2.1, ((Go.Abs.Farm.gt1 x4.2.2.2.2.2.2.2.2.1 x4.2.2.2.2.2.2.2.2.2.1), ((Go.Abs.Farm.gt2 x4.2.2.2.2.2.2.2.2.1 x4.2.2.2.2.2.2.2.2.2.1), ((Go.Abs.Farm.lt1 x4.2.2.2.2.2.2.2.2.1 x4.2.2.2.2.2.2.2.2.2.2.1), ((Go.Abs.Farm.lt2 x4.2.2.2.2.2.2.2.2.1 x4.2.2.2.2.2.2.2.2.2.2.1), ()))))))) ∧
       br ((decide ((Go.Abs.Farm.moreI x4.2.2.2.2.2.2.2.2.1 (Go.Abs.Farm.gt1 x4.2.2.2.2.2.2.2.2.1 x4.2.2.2.2.2.2.2.2.2.1) (Go.Abs.Farm.gt2 x4.2.2.2.2.2.2.2.2.1 x4.2.2.2.2.2.2.2.2.2.1) (Go.Abs.Farm.lt1 x4.2.2.2.2.2.2.2.2.1 x4.2.2.2.2.2.2.2.2.2.2.1) (Go.Abs.Farm.lt2 x4.2.2.2.2.2.2.2.2.1 x4.2.2.2.2.2.2.2.2.2.2.1)) ≥ (0 : Int))))
        ((k (Go.Abs.AVal.tup ((Go.Abs.AVal.agg ((Go.Abs.AVal.int Go.IntKind.i64 (0 : Int)) :: ((Go.Abs.AVal.int Go.IntKind.i64 (0 : Int)) :: []))) :: ((Go.Abs.AVal.agg ((Go.Abs.AVal.int Go.IntKind.i64 (0 : Int)) :: ((Go.Abs.AVal.int Go.IntKind.i64 (0 : Int)) :: []))) :: ((Go.Abs.AVal.int Go.IntKind.i64 (24 : Int)) :: [])))) []))
        ((Go.Abs.Farm.v71.p (x4.2.2.2.2.2.2.2.1, (x4.2.2.2.2.2.2.2.2.1, ((Go.Abs.Farm.gt1 x4.2.2.2.2.2.2.2.2.1 x4.2.2.2.2.2.2.2.2.2.1), ((Go.Abs.Farm.gt2 x4.2.2.2.2.2.2.2.2.1 x4.2.2.2.2.2.2.2.2.2.1), ()))))) ∧
        (Go.Abs.Farm.v71.p (x4.2.2.2.2.2.2.2.1, (x4.2.2.2.2.2.2.2.2.1, ((Go.Abs.Farm.lt1 x4.2.2.2.2.2.2.2.2.1 x4.2.2.2.2.2.2.2.2.2.2.1), ((Go.Abs.Farm.lt2 x4.2.2.2.2.2.2.2.2.1 x4.2.2.2.2.2.2.2.2.2.2.1), ()))))) ∧
        (k (Go.Abs.AVal.tup ((Go.Abs.AVal.agg ((Go.Abs.AVal.int Go.IntKind.i64 (Go.Abs.Farm.byN (Go.Abs.Farm.at0 x4.2.2.2.2.2.2.2.2.1 (Go.Abs.Farm.gt1 x4.2.2.2.2.2.2.2.2.1 x4.2.2.2.2.2.2.2.2.2.1)) (Go.Abs.Farm.gt2 x4.2.2.2.2.2.2.2.2.1 x4.2.2.2.2.2.2.2.2.2.1))) :: ((Go.Abs.AVal.int Go.IntKind.i64 (Go.Abs.Farm.byD (Go.Abs.Farm.at0 x4.2.2.2.2.2.2.2.2.1 (Go.Abs.Farm.gt1 x4.2.2.2.2.2.2.2.2.1 x4.2.2.2.2.2.2.2.2.2.1)) (Go.Abs.Farm.gt2 x4.2.2.2.2.2.2.2.2.1 x4.2.2.2.2.2.2.2.2.2.1))) :: []))) :: ((Go.Abs.AVal.agg ((Go.Abs.AVal.int Go.IntKind.i64 (Go.Abs.Farm.byN (Go.Abs.Farm.at0 x4.2.2.2.2.2.2.2.2.1 (Go.Abs.Farm.lt1 x4.2.2.2.2.2.2.2.2.1 x4.2.2.2.2.2.2.2.2.2.2.1)) (Go.Abs.Farm.lt2 x4.2.2.2.2.2.2.2.2.1 x4.2.2.2.2.2.2.2.2.2.2.1))) :: ((Go.Abs.AVal.int Go.IntKind.i64 (Go.Abs.Farm.byD (Go.Abs.Farm.at0 x4.2.2.2.2.2.2.2.2.1 (Go.Abs.Farm.lt1 x4.2.2.2.2.2.2.2.2.1 x4.2.2.2.2.2.2.2.2.2.2.1)) (Go.Abs.Farm.lt2 x4.2.2.2.2.2.2.2.2.1 x4.2.2.2.2.2.2.2.2.2.2.1))) :: []))) :: ((Go.Abs.AVal.int Go.IntKind.i64 (0 : Int)) :: [])))) []))))) ((s, ((((List.length s) : Nat) : Int), ((0 : Int), ((0 : Int), ((0 : Int), ((0 : Int), ((0 : Int), (pr, (cl, (([] : List (Int × Int)), (([] : List (Int × Int)), ())))))))))))))
theorem eq35 (pr : Int) (cl : List Int) (s : List Int) (k : AVal → List Cont → Prop) : awpF (envOf [(33, mkC [v33]), (67, mkC [v67]), (70, mkC [v70]), (72, mkC [v72]), (69, mkC [v69a, v69b]), (71, mkC [v71])]) Try.prog kt 35 false Try.f35 (v35.args (pr, cl, s, ())) (v35.conts (pr, cl, s, ())) k = vc35 pr cl s k := by kernel_rfl
theorem tx35 : (Try.f35.body.map Code.textsOk).getD true = true := by kernel_rfl

end Go.Abs.Farm
end

section
/- The farm's functions keep their contracts: divisors, by the program. -/
open Go.Proofs
set_option maxRecDepth 100000
set_option linter.unusedVariables false
namespace Go.Abs.Farm

def outsC (s : List Int) (i : Nat) : List (Int × Int) := (List.range i).map (fun j : Nat => ((j : Int), s.getD j 0 + 1))
def insC (s : List Int) (i : Nat) : List (Int × Int) := ((List.range i).filter (fun j : Nat => decide (0 < s.getD j 0))).map (fun j : Nat => ((j : Int), s.getD j 0))
theorem insC_succ (s : List Int) (i : Nat) : insC s (i + 1) = if 0 < s.getD i 0 then insC s i ++ [((i : Int), s.getD i 0)] else insC s i := by
  unfold insC
  rw [List.range_succ, List.filter_append, List.map_append]
  by_cases h : 0 < s.getD i 0
  · rw [if_pos h, List.filter_cons_of_pos (by simpa using h)]; rfl
  · rw [if_neg h, List.filter_cons_of_neg (by simpa using h)]; simp
theorem bestC_append (p : Int × Int → Int × Int → Bool) {l : List (Int × Int)} (h : l ≠ []) (x : Int × Int) : bestC p (l ++ [x]) = if p x (bestC p l) then x else bestC p l := by
  cases l with
  | nil => exact absurd rfl h
  | cons a m =>
    show (m ++ [x]).foldl _ a = _
    rw [List.foldl_append]; rfl
theorem outs_best (cl s : List Int) : ∀ i : Nat, bestC (gtC cl) (outsC s (i + 1)) = ((bestTo cl s (i + 1) : Int), s.getD (bestTo cl s (i + 1)) 0 + 1)
  | 0 => by rw [bestTo_one]; rfl
  | i + 1 => by
    have e : outsC s (i + 1 + 1) = outsC s (i + 1) ++ [(((i + 1 : Nat) : Int), s.getD (i + 1) 0 + 1)] := map_range_succ _ _
    have hne : outsC s (i + 1) ≠ [] := fun h => by have := congrArg List.length h; simp [outsC] at this
    rw [e, bestC_append _ hne, outs_best cl s i, bestTo_succ cl s (i + 1)]
    unfold nextStep
    have hg : gtC cl (((i + 1 : Nat) : Int), s.getD (i + 1) 0 + 1) ((bestTo cl s (i + 1) : Int), s.getD (bestTo cl s (i + 1)) 0 + 1) = decide (cl.getD (i + 1) 0 * (s.getD (bestTo cl s (i + 1)) 0 + 1) > cl.getD (bestTo cl s (i + 1)) 0 * (s.getD (i + 1) 0 + 1)) := by
      unfold gtC moreC
      rw [decide_eq_decide, cmpI_pos]
      simp only [at0_nat]
    rw [hg]
    by_cases h : cl.getD (i + 1) 0 * (s.getD (bestTo cl s (i + 1)) 0 + 1) > cl.getD (bestTo cl s (i + 1)) 0 * (s.getD (i + 1) 0 + 1)
    · rw [if_pos h, decide_eq_true h]; rfl
    · rw [if_neg h, decide_eq_false h]; rfl
theorem ins_best (cl s : List Int) : ∀ i : Nat, (hiUp cl s i = none → insC s i = []) ∧ (∀ u, hiUp cl s i = some u → insC s i ≠ [] ∧ bestC (ltC cl) (insC s i) = ((u : Int), s.getD u 0))
  | 0 => ⟨fun _ => rfl, fun u h => by cases h⟩
  | i + 1 => by
    obtain ⟨h1, h2⟩ := ins_best cl s i
    rw [hiUp_succ, insC_succ]
    unfold hiStep
    by_cases hp : 0 < s.getD i 0
    · rw [if_pos hp, if_pos hp]
      cases hu : hiUp cl s i with
      | none =>
        rw [h1 hu]
        refine ⟨fun h => (by cases h), fun u h => ?_⟩
        cases h
        exact ⟨by simp, rfl⟩
      | some b =>
        obtain ⟨g1, g2⟩ := h2 b hu
        have hg : ltC cl ((i : Int), s.getD i 0) ((b : Int), s.getD b 0) = decide (cl.getD i 0 * s.getD b 0 < cl.getD b 0 * s.getD i 0) := by
          unfold ltC moreC
          rw [decide_eq_decide, cmpI_neg]
          simp only [at0_nat]
        have e := bestC_append (ltC cl) g1 ((i : Int), s.getD i 0)
        rw [g2, hg] at e
        dsimp only
        by_cases h : cl.getD i 0 * s.getD b 0 < cl.getD b 0 * s.getD i 0
        · rw [if_pos h]
          rw [decide_eq_true h] at e
          refine ⟨fun h => (by cases h), fun u hu => ?_⟩
          cases hu
          exact ⟨by simp, e⟩
        · rw [if_neg h]
          rw [decide_eq_false h] at e
          refine ⟨fun h => (by cases h), fun u hu => ?_⟩
          cases hu
          exact ⟨by simp, e⟩
    · rw [if_neg hp, if_neg hp]; exact ⟨h1, h2⟩

theorem k35 (hG : Good Try.prog (envOf [(33, mkC [v33]), (67, mkC [v67]), (70, mkC [v70]), (72, mkC [v72]), (69, mkC [v69a, v69b]), (71, mkC [v71])])) : v35.Kept Try.prog 35 := by
  rintro ⟨pr, cl, s, ⟨⟩⟩ hpre k hk
  change Int at pr
  change List Int at cl
  change List Int at s
  refine aspec hmix hG Try.func35 tx35 (Eq.mpr (eq35 pr cl s k) ?_)
  replace hk : k (.tup [two (divLN pr cl s) (divLD pr cl s), two (divHN pr cl s) (divHD pr cl s), rI (divE pr cl s)]) [] := hk
  unfold vc35
  obtain ⟨hl, hsl⟩ := hpre
  have hl : cl.length ≤ 14 := hl
  have hsl : s.length ≤ 14 := hsl
  have bad : ∀ e : Int, e ≠ 0 → divE pr cl s = e → k (.tup [two 0 0, two 0 0, rI e]) [] := fun e h0 h => by
    have e1 : divLN pr cl s = 0 := by unfold divLN; rw [if_neg (by omega)]
    have e2 : divLD pr cl s = 0 := by unfold divLD; rw [if_neg (by omega)]
    have e3 : divHN pr cl s = 0 := by unfold divHN; rw [if_neg (by omega)]
    have e4 : divHD pr cl s = 0 := by unfold divHD; rw [if_neg (by omega)]
    rw [e1, e2, e3, e4, h] at hk; exact hk
  refine ⟨⟨hl, hsl⟩, ?_⟩
  rw [br_bne]
  refine ⟨fun h => bad _ h (by unfold divE; rw [if_pos h]), fun h => ?_⟩
  obtain ⟨hs0, hcalm⟩ := calm_of h
  obtain ⟨hf, hlen, hin, hsum⟩ := shares_spec hs0
  obtain ⟨f1, f2, f3, f4, f5, f6⟩ := fine_spec hf
  obtain ⟨q, hq, hq0⟩ := fine_some hf
  obtain ⟨y1, y2, y3, y4⟩ := sum_ok hf
  have hclp := fun i => (fine_getD hf i).1
  have gc := fun i => fine_getD hf i
  have gs := fun i => pos_getD hin i
  have hil : ∀ i, (insC s i).length ≤ i := fun i => by
    unfold insC
    rw [List.length_map]
    have := List.length_filter_le (fun j : Nat => decide (0 < s.getD j 0)) (List.range i)
    rw [List.length_range] at this; exact this
  have hol : ∀ i, (outsC s i).length = i := fun i => by unfold outsC; simp
  refine Loop.upto (fun i => (s, ((s.length : Nat) : Int), (i : Int), 0, 0, 0, 0, pr, cl, outsC s i, insC s i, ())) (fun i => True) s.length rfl trivial ?_ ?_
  · intro i K hi hp hK
    dsimp only
    rw [br_decide]
    refine ⟨fun _ => ?_, fun h => absurd hi (by omega)⟩
    try simp only [Int.toNat_natCast]
    have hK := hK trivial
    have hsi := hin _ (List.getElem_mem hi)
    have es : s.getD i 0 = s[i] := getD_at hi
    have hi1 := hil i
    have ho1 := hol i
    have eo : outsC s (i + 1) = outsC s i ++ [((i : Int), s[i] + 1)] := by
      have : outsC s (i + 1) = outsC s i ++ [((i : Int), s.getD i 0 + 1)] := map_range_succ _ _
      rw [this, es]
    have ei := insC_succ s i
    rw [es] at ei
    rw [eo, ei] at hK
    refine ⟨⟨by omega, hi⟩, fits64 (by omega) (by omega), by simp only [big, List.length_singleton]; omega, ?_⟩
    rw [br_decide]
    refine ⟨fun h0 => ?_, fun h0 => ⟨fits64 (by omega) (by omega), ?_⟩⟩
    · rw [if_pos h0] at hK
      have et : (insC s i).take (insC s i).length = insC s i := List.take_length
      refine ⟨⟨by omega, by omega, trivial⟩, by simp only [big, List.length_singleton]; omega, by simp, fits64 (by omega) (by omega), ?_⟩
      rw [List.drop_zero, et]
      exact hK
    · rw [if_neg h0] at hK; exact hK
  · intro K hp
    dsimp only
    rw [br_decide]
    refine ⟨fun h => absurd h (by omega), fun _ => ?_⟩
    obtain ⟨n, hn⟩ : ∃ n, s.length = n + 1 := ⟨s.length - 1, by omega⟩
    have hbx : bestTo cl s s.length = loIx cl s := by unfold bestTo loIx nextOf; rw [hlen]
    have ob : bestC (gtC cl) (outsC s s.length) = ((loIx cl s : Int), s.getD (loIx cl s) 0 + 1) := by
      rw [← hbx, hn]; exact outs_best cl s n
    have g1 : gt1 cl (outsC s s.length) = (loIx cl s : Int) := by unfold gt1; rw [ob]
    have g2 : gt2 cl (outsC s s.length) = s.getD (loIx cl s) 0 + 1 := by unfold gt2; rw [ob]
    have hlx : loIx cl s < cl.length := (nextOf_spec (fun i => (gs i).1) (by omega)).1
    have sl := gs (loIx cl s)
    have outIn : allC1 cl (outsC s s.length) := by
      intro a ha
      unfold outsC at ha
      obtain ⟨j, hj, rfl⟩ := List.mem_map.1 ha
      have := gs j
      have := List.mem_range.1 hj
      exact ⟨by show (0 : Int) ≤ (j : Int); omega, by show (j : Int) < (cl.length : Int); omega, by show 0 ≤ s.getD j 0 + 1; omega, by show s.getD j 0 + 1 ≤ 1000; omega⟩
    have insIn : allC1 cl (insC s s.length) := by
      intro a ha
      unfold insC at ha
      obtain ⟨j, hj, rfl⟩ := List.mem_map.1 ha
      have := gs j
      have := List.mem_range.1 (List.mem_filter.1 hj).1
      exact ⟨by show (0 : Int) ≤ (j : Int); omega, by show (j : Int) < (cl.length : Int); omega, by show 0 ≤ s.getD j 0; omega, by show s.getD j 0 ≤ 1000; omega⟩
    have eLx : at0 cl (loIx cl s : Int) = cl.getD (loIx cl s) 0 := at0_nat _ _
    have p71 : Farm.v71.p (pr, cl, (loIx cl s : Int), s.getD (loIx cl s) 0 + 1, ()) := ⟨⟨y1, y2⟩, ⟨by show (0 : Int) ≤ (loIx cl s : Int); omega, by show (loIx cl s : Int) < (cl.length : Int); omega, by show 0 ≤ s.getD (loIx cl s) 0 + 1; omega, by show s.getD (loIx cl s) 0 + 1 ≤ 1000; omega⟩, by show 1 ≤ s.getD (loIx cl s) 0 + 1; omega⟩
    have good : divBad cl s = false → k (.tup [two (byN (cl.getD (loIx cl s) 0) (s.getD (loIx cl s) 0 + 1)) (byD (cl.getD (loIx cl s) 0) (s.getD (loIx cl s) 0 + 1)), two (hiN cl s (hiUp cl s s.length)) (hiD cl s (hiUp cl s s.length)), rI 0]) [] := fun hb => by
      have e0 : divE pr cl s = 0 := by unfold divE; rw [if_neg (by omega), if_neg (by simp [hb])]
      have e1 : divLN pr cl s = byN (cl.getD (loIx cl s) 0) (s.getD (loIx cl s) 0 + 1) := by unfold divLN; rw [if_pos e0]
      have e2 : divLD pr cl s = byD (cl.getD (loIx cl s) 0) (s.getD (loIx cl s) 0 + 1) := by unfold divLD; rw [if_pos e0]
      have e3 : divHN pr cl s = hiN cl s (hiUp cl s s.length) := by unfold divHN; rw [if_pos e0]
      have e4 : divHD pr cl s = hiD cl s (hiUp cl s s.length) := by unfold divHD; rw [if_pos e0]
      rw [e0, e1, e2, e3, e4] at hk; exact hk
    refine ⟨⟨⟨y1, y2⟩, outIn, by show 0 < (outsC s s.length).length; rw [hol]; omega, by show (outsC s s.length).length ≤ 100; rw [hol]; omega⟩, ?_⟩
    rw [g1, g2, eLx]
    cases hu : hiUp cl s s.length with
    | none =>
      have e0 := (ins_best cl s s.length).1 hu
      rw [hu] at good
      rw [e0]
      refine br_intro (fun _ => ⟨p71, good (by unfold divBad; rw [hu])⟩) (fun h' => by cases h')
    | some u =>
      obtain ⟨g3, g4⟩ := (ins_best cl s s.length).2 u hu
      obtain ⟨b1, b2, b3⟩ := (hi_spec hclp s.length).2 u hu
      have g5 : lt1 cl (insC s s.length) = (u : Int) := by unfold lt1; rw [g4]
      have g6 : lt2 cl (insC s s.length) = s.getD u 0 := by unfold lt2; rw [g4]
      have hl0 : 0 < (insC s s.length).length := List.length_pos_iff.2 g3
      have su := gs u
      have eUx : at0 cl (u : Int) = cl.getD u 0 := at0_nat _ _
      have hil2 := hil s.length
      rw [hu] at good
      have hdb : divBad cl s = decide (cl.getD u 0 * (s.getD (loIx cl s) 0 + 1) ≤ cl.getD (loIx cl s) 0 * s.getD u 0) := by unfold divBad; rw [hu]
      have em : moreI cl (loIx cl s : Int) (s.getD (loIx cl s) 0 + 1) (u : Int) (s.getD u 0) = cmpI (cl.getD (loIx cl s) 0 * s.getD u 0) (cl.getD u 0 * (s.getD (loIx cl s) 0 + 1)) := by
        show cmpI (at0 cl (loIx cl s : Int) * s.getD u 0) (at0 cl (u : Int) * (s.getD (loIx cl s) 0 + 1)) = _
        rw [eLx, eUx]
      refine br_intro (fun h' => ?_) (fun _ => ?_)
      · have : ((insC s s.length).length : Int) = 0 := by simpa using h'
        omega
      rw [g5, g6, eUx, em]
      refine ⟨⟨⟨y1, y2⟩, insIn, hl0, by show (insC s s.length).length ≤ 100; omega⟩, ⟨⟨y1, y2⟩, p71.2.1, ⟨by show (0 : Int) ≤ (u : Int); omega, by show (u : Int) < (cl.length : Int); omega, by show 0 ≤ s.getD u 0; omega, by show s.getD u 0 ≤ 1000; omega⟩⟩, ?_⟩
      have cn := cmpI_neg (x := cl.getD (loIx cl s) 0 * s.getD u 0) (y := cl.getD u 0 * (s.getD (loIx cl s) 0 + 1))
      rw [br_decide]
      refine ⟨fun h2 => bad 24 (by omega) ?_, fun h2 => ⟨p71, ⟨⟨y1, y2⟩, ⟨by show (0 : Int) ≤ (u : Int); omega, by show (u : Int) < (cl.length : Int); omega, by show 0 ≤ s.getD u 0; omega, by show s.getD u 0 ≤ 1000; omega⟩, by show 1 ≤ s.getD u 0; omega⟩, good ?_⟩⟩
      · unfold divE
        rw [if_neg (by omega), if_pos]
        rw [hdb, decide_eq_true_eq]
        refine Int.not_lt.1 (fun h3 => ?_)
        have := cn.2 h3
        omega
      · rw [hdb, decide_eq_false_iff_not]
        intro h3
        have : ¬ (cmpI (cl.getD (loIx cl s) 0 * s.getD u 0) (cl.getD u 0 * (s.getD (loIx cl s) 0 + 1)) < 0) := mt cn.1 (Int.not_lt.2 h3)
        omega
end Go.Abs.Farm
end

section
/- The contracts of the farm's functions: the statements. -/
namespace Go.Abs.Farm
abbrev yes : RTree := one (.bool true)
abbrev isByte (n : Int) : Prop := 0 ≤ n ∧ n ≤ 255
abbrev isBytes (l : List Int) : Prop := ∀ x ∈ l, 0 ≤ x ∧ x ≤ 255
abbrev sU8 : VS := .int .u8
def v17 : Var := ⟨.nl, [], fun _ => True, fun _ => yes⟩
def v3 : Var := ⟨.cs sYr (.cs sI .nl), [], fun _ => True, fun _ => yes⟩
def v4 : Var := ⟨.cs sYr (.cs sL .nl), [], fun _ => True, fun _ => yes⟩
def v5 : Var := ⟨.cs sYr (.cs sL .nl), [], fun _ => True, fun _ => yes⟩
def v6 : Var := ⟨.cs sRg (.cs sI .nl), [], fun _ => True, fun _ => yes⟩
def v7 : Var := ⟨.cs sYr (.cs sU .nl), [], fun x => isBytes x.2.2.1, fun _ => yes⟩
def v8 : Var := ⟨.cs sYr (.cs sU .nl), [], fun x => isBytes x.2.2.1, fun _ => yes⟩
def v9 : Var := ⟨.cs sYr .nl, [], fun _ => True, fun _ => yes⟩
def v10 : Var := ⟨.cs sYr (.cs sU8 (.cs sU8 .nl)), [], fun x => isByte x.2.2.1 ∧ isByte x.2.2.2.1, fun _ => yes⟩
def v11 : Var := ⟨.cs sYr (.cs sU8 .nl), [], fun x => isByte x.2.2.1, fun _ => yes⟩
def v12 : Var := ⟨.cs sYr (.cs sU8 (.cs sU8 .nl)), [], fun x => isByte x.2.2.1 ∧ isByte x.2.2.2.1, fun _ => yes⟩
def v13 : Var := ⟨.cs sRg (.cs sU (.cs sU8 .nl)), [], fun x => isBytes x.2.2.1 ∧ isByte x.2.2.2.1, fun _ => yes⟩
def v14 : Var := ⟨.cs sYr (.cs sU8 (.cs sU8 .nl)), [], fun x => isByte x.2.2.1 ∧ isByte x.2.2.2.1, fun _ => yes⟩
def v15 : Var := ⟨.nl, [], fun _ => True, fun _ => yes⟩
end Go.Abs.Farm
end

section
/- Conditions and their equations, printed by a program. -/
open Go.Proofs
set_option maxRecDepth 100000
set_option linter.unusedVariables false
namespace Go.Abs.Farm
def vc17  (k : AVal → List Cont → Prop) : Prop :=
  (Go.Abs.Farm.v52.p ((10 : Int), (((53 : Int) :: ((24 : Int) :: ((23 : Int) :: ([] : List Int)))), ()))) ∧
  (Go.Abs.Farm.v54.p ((10 : Int), (((50 : Int) :: ((53 : Int) :: ((20 : Int) :: ((24 : Int) :: ((23 : Int) :: ((30 : Int) :: ([] : List Int))))))), ()))) ∧
  (Go.Abs.Farm.v18.p ((10 : Int), (((53 : Int) :: ((24 : Int) :: ((23 : Int) :: ([] : List Int)))), ((1 : Int), ())))) ∧
  (Go.Abs.Farm.v18.p ((10 : Int), (((53 : Int) :: ((24 : Int) :: ((23 : Int) :: ([] : List Int)))), ((3 : Int), ())))) ∧
  (Go.Abs.Farm.v20.p ((10 : Int), (((53 : Int) :: ((24 : Int) :: ((23 : Int) :: ([] : List Int)))), ()))) ∧
  (Go.Abs.Farm.v22.p ((10 : Int), (((53 : Int) :: ((24 : Int) :: ((23 : Int) :: ([] : List Int)))), ()))) ∧
  (Go.Abs.Farm.v49.p (((6 : Int) :: ((2 : Int) :: ((2 : Int) :: ([] : List Int)))), ())) ∧
  (Go.Abs.Farm.v33.p ((10 : Int), (((53 : Int) :: ((24 : Int) :: ((23 : Int) :: ([] : List Int)))), (((6 : Int) :: ((2 : Int) :: ((2 : Int) :: ([] : List Int)))), ())))) ∧
  (Go.Abs.Farm.v49.p (((5 : Int) :: ((3 : Int) :: ((2 : Int) :: ([] : List Int)))), ())) ∧
  (Go.Abs.Farm.v33.p ((10 : Int), (((53 : Int) :: ((24 : Int) :: ((23 : Int) :: ([] : List Int)))), (((5 : Int) :: ((3 : Int) :: ((2 : Int) :: ([] : List Int)))), ())))) ∧
  (Go.Abs.Farm.v49.p (((6 : Int) :: ((2 : Int) :: ([] : List Int))), ())) ∧
  (Go.Abs.Farm.v33.p ((10 : Int), (((53 : Int) :: ((24 : Int) :: ((23 : Int) :: ([] : List Int)))), (((6 : Int) :: ((2 : Int) :: ([] : List Int))), ())))) ∧
  (Go.Abs.Farm.v49.p (((6 : Int) :: ((2 : Int) :: ((1 : Int) :: ([] : List Int)))), ())) ∧
  (Go.Abs.Farm.v33.p ((10 : Int), (((53 : Int) :: ((24 : Int) :: ((23 : Int) :: ([] : List Int)))), (((6 : Int) :: ((2 : Int) :: ((1 : Int) :: ([] : List Int)))), ())))) ∧
  (Go.Abs.Farm.v49.p (((5 : Int) :: ((3 : Int) :: ((2 : Int) :: ([] : List Int)))), ())) ∧
  (Go.Abs.Farm.v29.p ((10 : Int), (((53 : Int) :: ((24 : Int) :: ((23 : Int) :: ([] : List Int)))), (((5 : Int) :: ((3 : Int) :: ((2 : Int) :: ([] : List Int)))), ())))) ∧
  (Go.Abs.Farm.v49.p (((6 : Int) :: ((2 : Int) :: ((2 : Int) :: ([] : List Int)))), ())) ∧
  (Go.Abs.Farm.v29.p ((10 : Int), (((53 : Int) :: ((24 : Int) :: ((23 : Int) :: ([] : List Int)))), (((6 : Int) :: ((2 : Int) :: ((2 : Int) :: ([] : List Int)))), ())))) ∧
  (Go.Abs.Farm.v49.p (((6 : Int) :: ((2 : Int) :: ((2 : Int) :: ([] : List Int)))), ())) ∧
  (Go.Abs.Farm.v35.p ((10 : Int), (((53 : Int) :: ((24 : Int) :: ((23 : Int) :: ([] : List Int)))), (((6 : Int) :: ((2 : Int) :: ((2 : Int) :: ([] : List Int)))), ())))) ∧
  (Go.Abs.Farm.v49.p (((5 : Int) :: ((3 : Int) :: ((2 : Int) :: ([] : List Int)))), ())) ∧
  (Go.Abs.Farm.v35.p ((10 : Int), (((53 : Int) :: ((24 : Int) :: ((23 : Int) :: ([] : List Int)))), (((5 : Int) :: ((3 : Int) :: ((2 : Int) :: ([] : List Int)))), ())))) ∧
  (Go.Abs.Farm.v24.p ((10 : Int), (((53 : Int) :: ((24 : Int) :: ((23 : Int) :: ([] : List Int)))), ()))) ∧
  (Go.Abs.Farm.v49.p (((5 : Int) :: ((3 : Int) :: ((2 : Int) :: ([] : List Int)))), ())) ∧
  (Go.Abs.Farm.v31.p ((10 : Int), (((53 : Int) :: ((24 : Int) :: ((23 : Int) :: ([] : List Int)))), (((5 : Int) :: ((3 : Int) :: ((2 : Int) :: ([] : List Int)))), ())))) ∧
  (Go.Abs.Farm.v49.p (((6 : Int) :: ((2 : Int) :: ((2 : Int) :: ([] : List Int)))), ())) ∧
  (Go.Abs.Farm.v31.p ((10 : Int), (((53 : Int) :: ((24 : Int) :: ((23 : Int) :: ([] : List Int)))), (((6 : Int) :: ((2 : Int) :: ((2 : Int) :: ([] : List Int)))), ())))) ∧
  (Go.Abs.Farm.v49.p (((7 : Int) :: ((2 : Int) :: ((1 : Int) :: ([] : List Int)))), ())) ∧
  (Go.Abs.Farm.v31.p ((10 : Int), (((53 : Int) :: ((24 : Int) :: ((23 : Int) :: ([] : List Int)))), (((7 : Int) :: ((2 : Int) :: ((1 : Int) :: ([] : List Int)))), ())))) ∧
  (Go.Abs.Farm.v38.p ((10 : Int), ((Go.Abs.Farm.pairsUp ((50 : Int) :: ((53 : Int) :: ((20 : Int) :: ((24 : Int) :: ((23 : Int) :: ((30 : Int) :: ([] : List Int)))))))), ((0 : Int), ())))) ∧
  (Go.Abs.Farm.v38.p ((10 : Int), ((Go.Abs.Farm.pairsUp ((50 : Int) :: ((53 : Int) :: ((20 : Int) :: ((24 : Int) :: ((23 : Int) :: ((30 : Int) :: ([] : List Int)))))))), ((2 : Int), ())))) ∧
  (Go.Abs.Farm.v38.p ((10 : Int), ((Go.Abs.Farm.pairsUp ((50 : Int) :: ((53 : Int) :: ((20 : Int) :: ((24 : Int) :: ((23 : Int) :: ((30 : Int) :: ([] : List Int)))))))), ((3 : Int), ())))) ∧
  (Go.Abs.Farm.v53.p ((12 : Int), ((5 : Int), ()))) ∧
  (Go.Abs.Farm.v49.p (((6 : Int) :: ((2 : Int) :: ((2 : Int) :: ([] : List Int)))), ())) ∧
  (Go.Abs.Farm.v28.p ((Go.Abs.Farm.fairL (10 : Int) ((53 : Int) :: ((24 : Int) :: ((23 : Int) :: ([] : List Int))))), (((6 : Int) :: ((2 : Int) :: ((2 : Int) :: ([] : List Int)))), ()))) ∧
  (Go.Abs.Farm.v53.p ((8 : Int), ((1 : Int), ()))) ∧
  (Go.Abs.Farm.v53.p ((53 : Int), ((6 : Int), ()))) ∧
  (Go.Abs.Farm.v49.p (((5 : Int) :: ((3 : Int) :: ((2 : Int) :: ([] : List Int)))), ())) ∧
  (Go.Abs.Farm.v28.p ((Go.Abs.Farm.nearL (10 : Int) ((53 : Int) :: ((24 : Int) :: ((23 : Int) :: ([] : List Int))))), (((5 : Int) :: ((3 : Int) :: ((2 : Int) :: ([] : List Int)))), ()))) ∧
  (k (Go.Abs.AVal.bool (((Go.Abs.Farm.spanLo (10 : Int) (Go.Abs.Farm.pairsUp ((50 : Int) :: ((53 : Int) :: ((20 : Int) :: ((24 : Int) :: ((23 : Int) :: ((30 : Int) :: ([] : List Int)))))))) (2 : Int)) == (2 : Int)) && ((Go.Abs.Farm.spanHi (10 : Int) (Go.Abs.Farm.pairsUp ((50 : Int) :: ((53 : Int) :: ((20 : Int) :: ((24 : Int) :: ((23 : Int) :: ((30 : Int) :: ([] : List Int)))))))) (2 : Int)) == (3 : Int)))) [])
theorem eq17  (k : AVal → List Cont → Prop) : awpF (envOf [(52, mkC [v52]), (54, mkC [v54]), (18, mkC [v18]), (20, mkC [v20]), (22, mkC [v22]), (49, mkC [v49]), (33, mkC [v33]), (29, mkC [v29]), (35, mkC [v35]), (24, mkC [v24]), (31, mkC [v31]), (38, mkC [v38]), (53, mkC [v53]), (28, mkC [v28])]) Try.prog kt 17 false Try.f17 (v17.args ()) (v17.conts ()) k = vc17  k := by kernel_rfl
theorem tx17 : (Try.f17.body.map Code.textsOk).getD true = true := by kernel_rfl

def vc3 (pr : Int) (cl : List Int) (f : Int) (k : AVal → List Cont → Prop) : Prop :=
  (Go.Abs.Farm.v16.p (pr, (cl, ()))) ∧
  br ((Go.Abs.Farm.great cl))
   ((Go.Abs.Farm.v17.p ()) ∧
   (k (Go.Abs.AVal.bool Bool.true) []))
   ((Go.Abs.Farm.v18.p (pr, (cl, (f, ())))) ∧
   (Go.Abs.Farm.v19.p (pr, (cl, (f, ())))) ∧
   (Go.Abs.Farm.v20.p (pr, (cl, ()))) ∧
   (Go.Abs.Farm.v21.p (pr, (cl, ()))) ∧
   (Go.Abs.Farm.v22.p (pr, (cl, ()))) ∧
   (Go.Abs.Farm.v23.p (pr, (cl, ()))) ∧
   (Go.Abs.Farm.v24.p (pr, (cl, ()))) ∧
   (Go.Abs.Farm.v25.p (pr, (cl, ()))) ∧
   (Go.Abs.Farm.v26.p (pr, (cl, ()))) ∧
   (Go.Abs.Farm.v27.p (pr, (cl, ()))) ∧
   br ((((Go.Abs.Farm.yearErr pr cl) == (Go.Abs.Farm.yearErr pr cl)) == Bool.true))
    (br (((((Go.Abs.Farm.quotaN pr cl f) == (Go.Abs.Farm.quotaN pr cl f)) && ((Go.Abs.Farm.quotaD pr cl f) == (Go.Abs.Farm.quotaD pr cl f))) == Bool.true))
     (br ((((Go.Abs.Farm.quotaE pr cl f) == (Go.Abs.Farm.quotaE pr cl f)) == Bool.true))
      ((Go.Abs.Farm.v28.p ((Go.Abs.Farm.fairL pr cl), ((Go.Abs.Farm.fairL pr cl), ()))) ∧
      br (((Go.Abs.Farm.eqL (Go.Abs.Farm.fairL pr cl) (Go.Abs.Farm.fairL pr cl)) == Bool.true))
       (br ((((Go.Abs.Farm.yearErr pr cl) == (Go.Abs.Farm.yearErr pr cl)) == Bool.true))
        (br ((((Go.Abs.Farm.nextN pr cl) == (Go.Abs.Farm.nextN pr cl)) == Bool.true))
         (br ((((Go.Abs.Farm.yearErr pr cl) == (Go.Abs.Farm.yearErr pr cl)) == Bool.true))
          ((Go.Abs.Farm.v28.p ((Go.Abs.Farm.nearL pr cl), ((Go.Abs.Farm.nearL pr cl), ()))) ∧
          br (((Go.Abs.Farm.eqL (Go.Abs.Farm.nearL pr cl) (Go.Abs.Farm.nearL pr cl)) == Bool.true))
           (br ((((Go.Abs.Farm.yearErr pr cl) == (Go.Abs.Farm.yearErr pr cl)) == Bool.true))
            ((Go.Abs.Farm.v17.p ()) ∧
            (k (Go.Abs.AVal.bool Bool.true) []))
            ((k (Go.Abs.AVal.bool Bool.false) [])))
           ((k (Go.Abs.AVal.bool Bool.false) [])))
          ((k (Go.Abs.AVal.bool Bool.false) [])))
         ((k (Go.Abs.AVal.bool Bool.false) [])))
        ((k (Go.Abs.AVal.bool Bool.false) [])))
       ((k (Go.Abs.AVal.bool Bool.false) [])))
      ((k (Go.Abs.AVal.bool Bool.false) [])))
     ((k (Go.Abs.AVal.bool Bool.false) [])))
    ((k (Go.Abs.AVal.bool Bool.false) [])))
theorem eq3 (pr : Int) (cl : List Int) (f : Int) (k : AVal → List Cont → Prop) : awpF (envOf [(16, mkC [v16]), (17, mkC [v17]), (18, mkC [v18]), (19, mkC [v19]), (20, mkC [v20]), (21, mkC [v21]), (22, mkC [v22]), (23, mkC [v23]), (24, mkC [v24]), (25, mkC [v25]), (26, mkC [v26]), (27, mkC [v27]), (28, mkC [v28])]) Try.prog kt 3 false Try.f3 (v3.args (pr, cl, f, ())) (v3.conts (pr, cl, f, ())) k = vc3 pr cl f k := by kernel_rfl
theorem tx3 : (Try.f3.body.map Code.textsOk).getD true = true := by kernel_rfl

def vc4 (pr : Int) (cl : List Int) (s : List Int) (k : AVal → List Cont → Prop) : Prop :=
  (Go.Abs.Farm.v16.p (pr, (cl, ()))) ∧
  br (((Go.Abs.Farm.great cl) == Bool.false))
   (br ((decide ((((List.length s) : Nat) : Int) > (14 : Int))))
    ((Go.Abs.Farm.v17.p ()) ∧
    (k (Go.Abs.AVal.bool Bool.true) []))
    ((Go.Abs.Farm.v29.p (pr, (cl, (s, ())))) ∧
    (Go.Abs.Farm.v30.p (pr, (cl, (s, ())))) ∧
    (Go.Abs.Farm.v31.p (pr, (cl, (s, ())))) ∧
    (Go.Abs.Farm.v32.p (pr, (cl, (s, ())))) ∧
    (Go.Abs.Farm.v33.p (pr, (cl, (s, ())))) ∧
    (Go.Abs.Farm.v34.p (pr, (cl, (s, ())))) ∧
    br ((((Go.Abs.Farm.fairE pr cl s) == (Go.Abs.Farm.fairE pr cl s)) == Bool.true))
     (br ((((Go.Abs.Farm.compA pr cl s) == (Go.Abs.Farm.compA pr cl s)) == Bool.true))
      (br ((((Go.Abs.Farm.compB pr cl s) == (Go.Abs.Farm.compB pr cl s)) == Bool.true))
       (br ((((Go.Abs.Farm.compE pr cl s) == (Go.Abs.Farm.compE pr cl s)) == Bool.true))
        (br ((((Go.Abs.Farm.nearOff pr cl s) == (Go.Abs.Farm.nearOff pr cl s)) == Bool.true))
         (br ((((Go.Abs.Farm.nearE pr cl s) == (Go.Abs.Farm.nearE pr cl s)) == Bool.true))
          ((Go.Abs.Farm.v17.p ()) ∧
          (k (Go.Abs.AVal.bool Bool.true) []))
          ((k (Go.Abs.AVal.bool Bool.false) [])))
         ((k (Go.Abs.AVal.bool Bool.false) [])))
        ((k (Go.Abs.AVal.bool Bool.false) [])))
       ((k (Go.Abs.AVal.bool Bool.false) [])))
      ((k (Go.Abs.AVal.bool Bool.false) [])))
     ((k (Go.Abs.AVal.bool Bool.false) []))))
   ((Go.Abs.Farm.v17.p ()) ∧
   (k (Go.Abs.AVal.bool Bool.true) []))
theorem eq4 (pr : Int) (cl : List Int) (s : List Int) (k : AVal → List Cont → Prop) : awpF (envOf [(16, mkC [v16]), (17, mkC [v17]), (29, mkC [v29]), (30, mkC [v30]), (31, mkC [v31]), (32, mkC [v32]), (33, mkC [v33]), (34, mkC [v34])]) Try.prog kt 4 false Try.f4 (v4.args (pr, cl, s, ())) (v4.conts (pr, cl, s, ())) k = vc4 pr cl s k := by kernel_rfl
theorem tx4 : (Try.f4.body.map Code.textsOk).getD true = true := by kernel_rfl

def vc5 (pr : Int) (cl : List Int) (s : List Int) (k : AVal → List Cont → Prop) : Prop :=
  (Go.Abs.Farm.v16.p (pr, (cl, ()))) ∧
  br (((Go.Abs.Farm.great cl) == Bool.false))
   (br ((decide ((((List.length s) : Nat) : Int) > (14 : Int))))
    ((Go.Abs.Farm.v17.p ()) ∧
    (k (Go.Abs.AVal.bool Bool.true) []))
    ((Go.Abs.Farm.v35.p (pr, (cl, (s, ())))) ∧
    (Go.Abs.Farm.v36.p (pr, (cl, (s, ())))) ∧
    br (((((Go.Abs.Farm.divLN pr cl s) == (Go.Abs.Farm.divLN pr cl s)) && ((Go.Abs.Farm.divLD pr cl s) == (Go.Abs.Farm.divLD pr cl s))) == Bool.true))
     (br (((((Go.Abs.Farm.divHN pr cl s) == (Go.Abs.Farm.divHN pr cl s)) && ((Go.Abs.Farm.divHD pr cl s) == (Go.Abs.Farm.divHD pr cl s))) == Bool.true))
      (br ((((Go.Abs.Farm.divE pr cl s) == (Go.Abs.Farm.divE pr cl s)) == Bool.true))
       ((Go.Abs.Farm.v17.p ()) ∧
       (k (Go.Abs.AVal.bool Bool.true) []))
       ((k (Go.Abs.AVal.bool Bool.false) [])))
      ((k (Go.Abs.AVal.bool Bool.false) [])))
     ((k (Go.Abs.AVal.bool Bool.false) []))))
   ((Go.Abs.Farm.v17.p ()) ∧
   (k (Go.Abs.AVal.bool Bool.true) []))
theorem eq5 (pr : Int) (cl : List Int) (s : List Int) (k : AVal → List Cont → Prop) : awpF (envOf [(16, mkC [v16]), (17, mkC [v17]), (35, mkC [v35]), (36, mkC [v36])]) Try.prog kt 5 false Try.f5 (v5.args (pr, cl, s, ())) (v5.conts (pr, cl, s, ())) k = vc5 pr cl s k := by kernel_rfl
theorem tx5 : (Try.f5.body.map Code.textsOk).getD true = true := by kernel_rfl

def vc6 (pr : Int) (rs : List (Int × Int)) (f : Int) (k : AVal → List Cont → Prop) : Prop :=
  (Go.Abs.Farm.v37.p (pr, (rs, ()))) ∧
  br ((Go.Abs.Farm.wide rs))
   ((Go.Abs.Farm.v17.p ()) ∧
   (k (Go.Abs.AVal.bool Bool.true) []))
   ((Go.Abs.Farm.v38.p (pr, (rs, (f, ())))) ∧
   (Go.Abs.Farm.v39.p (pr, (rs, (f, ())))) ∧
   (Go.Abs.Farm.v40.p (pr, (rs, ()))) ∧
   (Go.Abs.Farm.v41.p (pr, (rs, ()))) ∧
   br ((((Go.Abs.Farm.roughErr pr rs) == (Go.Abs.Farm.roughErr pr rs)) == Bool.true))
    (br (((((Go.Abs.Farm.spanLo pr rs f) == (Go.Abs.Farm.spanLo pr rs f)) && ((Go.Abs.Farm.spanHi pr rs f) == (Go.Abs.Farm.spanHi pr rs f))) == Bool.true))
     (br ((((Go.Abs.Farm.spanE pr rs f) == (Go.Abs.Farm.spanE pr rs f)) == Bool.true))
      ((Go.Abs.Farm.v17.p ()) ∧
      (k (Go.Abs.AVal.bool Bool.true) []))
      ((k (Go.Abs.AVal.bool Bool.false) [])))
     ((k (Go.Abs.AVal.bool Bool.false) [])))
    ((k (Go.Abs.AVal.bool Bool.false) [])))
theorem eq6 (pr : Int) (rs : List (Int × Int)) (f : Int) (k : AVal → List Cont → Prop) : awpF (envOf [(37, mkC [v37]), (17, mkC [v17]), (38, mkC [v38]), (39, mkC [v39]), (40, mkC [v40]), (41, mkC [v41])]) Try.prog kt 6 false Try.f6 (v6.args (pr, rs, f, ())) (v6.conts (pr, rs, f, ())) k = vc6 pr rs f k := by kernel_rfl
theorem tx6 : (Try.f6.body.map Code.textsOk).getD true = true := by kernel_rfl

def vc8 (pr : Int) (cl : List Int) (by8 : List Int) (k : AVal → List Cont → Prop) : Prop :=
  (Go.Abs.Farm.v42.p (pr, (cl, ()))) ∧
  br (((Bool.not (Go.Abs.Farm.fine pr cl)) == Bool.false))
   (br ((decide ((((List.length by8) : Nat) : Int) > (20 : Int))))
    ((Go.Abs.Farm.v17.p ()) ∧
    (k (Go.Abs.AVal.bool Bool.true) []))
    ((Go.Abs.Farm.v24.p (pr, (cl, ()))) ∧
    (Go.Abs.Farm.v43.p (pr, (cl, ()))) ∧
    (Go.Abs.Farm.v31.p (pr, (cl, ((Go.Abs.Farm.nearL pr cl), ())))) ∧
    br ((((Go.Abs.Farm.yearErr pr cl) != (0 : Int)) == Bool.false))
     (br ((((Go.Abs.Farm.nearE pr cl (Go.Abs.Farm.nearL pr cl)) != (0 : Int)) == Bool.false))
      ((Go.Abs.Farm.v45.p (pr, (cl, ((Go.Abs.Farm.nearL pr cl), ())))) ∧
      br ((((Go.Abs.Farm.sharesErr pr cl (Go.Abs.Farm.nearL pr cl)) != (0 : Int)) == Bool.false))
       ((Go.Abs.Farm.v46.p (pr, (cl, ((Go.Abs.Farm.nearL pr cl), ())))) ∧
       br ((((Go.Abs.Farm.nearOff pr cl (Go.Abs.Farm.nearL pr cl)) != (Go.Abs.Farm.offN pr cl (Go.Abs.Farm.nearL pr cl))) == Bool.false))
        ((Go.Abs.Farm.v44.p (pr, (cl, (by8, ())))) ∧
        (Go.Abs.Farm.v46.p (pr, (cl, ((Go.Abs.Farm.given pr cl by8), ())))) ∧
        br ((decide ((Go.Abs.Farm.nearOff pr cl (Go.Abs.Farm.nearL pr cl)) > (Go.Abs.Farm.offN pr cl (Go.Abs.Farm.given pr cl by8)))))
         ((k (Go.Abs.AVal.bool Bool.false) []))
         (Go.Abs.Loop (σ := (Int × (Int × ((List Int) × ((List Int) × ((List Int) × Unit)))))) (fun K4 x4 =>
           br ((decide (x4.1 < (((List.length x4.2.2.2.2.1) : Nat) : Int))))
            ((Go.Abs.Farm.v18.p (x4.2.1, (x4.2.2.1, (x4.1, ())))) ∧
            br ((((Go.Abs.Farm.quotaE x4.2.1 x4.2.2.1 x4.1) != (0 : Int)) == Bool.false))
             (br (((decide ((Go.Abs.Farm.quotaD x4.2.1 x4.2.2.1 x4.1) < (1 : Int))) == Bool.false))
              (br (((decide ((Go.Abs.Farm.quotaD x4.2.1 x4.2.2.1 x4.1) > (800 : Int))) == Bool.false))
               (br (((decide ((Go.Abs.Farm.quotaN x4.2.1 x4.2.2.1 x4.1) < (0 : Int))) == Bool.false))
                (br (((decide ((Go.Abs.Farm.quotaN x4.2.1 x4.2.2.1 x4.1) > (20000 : Int))) == Bool.false))
                 (∃ h6 : (((0 : Int) ≤ x4.1) ∧ ((Int.toNat x4.1) < (List.length x4.2.2.1))),
                 (Go.Abs.fitsK Go.IntKind.i64 ((x4.2.2.1[(Int.toNat x4.1)]'h6.2) * x4.2.1)) ∧
                 (Go.Abs.Farm.v48.p (x4.2.2.1, ())) ∧
                 (Go.Abs.Farm.v47.p (((x4.2.2.1[(Int.toNat x4.1)]'h6.2) * x4.2.1), ((Go.Abs.Farm.sumL x4.2.2.1), ()))) ∧
                 br (((Bool.not (((Go.Abs.Farm.quotaN x4.2.1 x4.2.2.1 x4.1) == (Go.Abs.Farm.byN ((x4.2.2.1[(Int.toNat x4.1)]'h6.2) * x4.2.1) (Go.Abs.Farm.sumL x4.2.2.1))) && ((Go.Abs.Farm.quotaD x4.2.1 x4.2.2.1 x4.1) == (Go.Abs.Farm.byD ((x4.2.2.1[(Int.toNat x4.1)]'h6.2) * x4.2.1) (Go.Abs.Farm.sumL x4.2.2.1))))) == Bool.false))
                  ((((0 : Int) ≤ x4.1) ∧ ((Int.toNat x4.1) < (List.length x4.2.2.2.2.1))) ∧
                  ∃ h7 : ((Int.toNat x4.1) < (List.length x4.2.2.2.2.1)),
                  (((0 : Int) ≤ (Go.Abs.Farm.quotaN x4.2.1 x4.2.2.1 x4.1)) ∧ (((0 : Int) < (Go.Abs.Farm.quotaD x4.2.1 x4.2.2.1 x4.1)) ∧ (Go.Abs.fitsK Go.IntKind.i64 (HDiv.hDiv (Go.Abs.Farm.quotaN x4.2.1 x4.2.2.1 x4.1) (Go.Abs.Farm.quotaD x4.2.1 x4.2.2.1 x4.1))))) ∧
                  br (((decide ((x4.2.2.2.2.1[(Int.toNat x4.1)]'h7) < (HDiv.hDiv (Go.Abs.Farm.quotaN x4.2.1 x4.2.2.1 x4.1) (Go.Abs.Farm.quotaD x4.2.1 x4.2.2.1 x4.1)))) == Bool.false))
                   ((((0 : Int) ≤ x4.1) ∧ ((Int.toNat x4.1) < (List.length x4.2.2.2.1))) ∧
                   ∃ h8 : ((Int.toNat x4.1) < (List.length x4.2.2.2.1)),
                   (((0 : Int) ≤ (Go.Abs.Farm.quotaN x4.2.1 x4.2.2.1 x4.1)) ∧ (((0 : Int) < (Go.Abs.Farm.quotaD x4.2.1 x4.2.2.1 x4.1)) ∧ (Go.Abs.fitsK Go.IntKind.i64 (HDiv.hDiv (Go.Abs.Farm.quotaN x4.2.1 x4.2.2.1 x4.1) (Go.Abs.Farm.quotaD x4.2.1 x4.2.2.1 x4.1))))) ∧
                   br (((decide ((x4.2.2.2.1[(Int.toNat x4.1)]'h8) < (HDiv.hDiv (Go.Abs.Farm.quotaN x4.2.1 x4.2.2.1 x4.1) (Go.Abs.Farm.quotaD x4.2.1 x4.2.2.1 x4.1)))) == Bool.false))
                    ((((0 : Int) ≤ x4.1) ∧ ((Int.toNat x4.1) < (List.length x4.2.2.2.1))) ∧
                    ∃ h9 : ((Int.toNat x4.1) < (List.length x4.2.2.2.1)),
                    (((0 : Int) ≤ (Go.Abs.Farm.quotaN x4.2.1 x4.2.2.1 x4.1)) ∧ (((0 : Int) < (Go.Abs.Farm.quotaD x4.2.1 x4.2.2.1 x4.1)) ∧ (Go.Abs.fitsK Go.IntKind.i64 (HDiv.hDiv (Go.Abs.Farm.quotaN x4.2.1 x4.2.2.1 x4.1) (Go.Abs.Farm.quotaD x4.2.1 x4.2.2.1 x4.1))))) ∧
                    (Go.Abs.fitsK Go.IntKind.i64 ((HDiv.hDiv (Go.Abs.Farm.quotaN x4.2.1 x4.2.2.1 x4.1) (Go.Abs.Farm.quotaD x4.2.1 x4.2.2.1 x4.1)) + (1 : Int))) ∧
                    br ((decide ((x4.2.2.2.1[(Int.toNat x4.1)]'h9) > ((HDiv.hDiv (Go.Abs.Farm.quotaN x4.2.1 x4.2.2.1 x4.1) (Go.Abs.Farm.quotaD x4.2.1 x4.2.2.1 x4.1)) + (1 : Int)))))
                     ((k (Go.Abs.AVal.bool Bool.false) []))
                     ((Go.Abs.fitsK Go.IntKind.i64 (x4.1 + (1 : Int))) ∧
                     (K4 ((x4.1 + (1 : Int)), (x4.2.1, (x4.2.2.1, (x4.2.2.2.1, (x4.2.2.2.2.1, ()))))))))
                    ((k (Go.Abs.AVal.bool Bool.false) [])))
                   ((k (Go.Abs.AVal.bool Bool.false) [])))
                  ((k (Go.Abs.AVal.bool Bool.false) [])))
                 ((k (Go.Abs.AVal.bool Bool.false) [])))
                ((k (Go.Abs.AVal.bool Bool.false) [])))
               ((k (Go.Abs.AVal.bool Bool.false) [])))
              ((k (Go.Abs.AVal.bool Bool.false) [])))
             ((k (Go.Abs.AVal.bool Bool.false) [])))
            ((Go.Abs.Farm.v17.p ()) ∧
            (k (Go.Abs.AVal.bool Bool.true) []))) (((0 : Int), (pr, (cl, ((Go.Abs.Farm.nearL pr cl), ((Go.Abs.Farm.fairOf pr cl), ()))))))))
        ((k (Go.Abs.AVal.bool Bool.false) [])))
       ((k (Go.Abs.AVal.bool Bool.false) [])))
      ((k (Go.Abs.AVal.bool Bool.false) [])))
     ((k (Go.Abs.AVal.bool Bool.false) []))))
   ((Go.Abs.Farm.v17.p ()) ∧
   (k (Go.Abs.AVal.bool Bool.true) []))
theorem eq8 (pr : Int) (cl : List Int) (by8 : List Int) (k : AVal → List Cont → Prop) : awpF (envOf [(42, mkC [v42]), (17, mkC [v17]), (24, mkC [v24]), (43, mkC [v43]), (31, mkC [v31]), (45, mkC [v45]), (46, mkC [v46]), (44, mkC [v44]), (18, mkC [v18]), (48, mkC [v48]), (47, mkC [v47])]) Try.prog kt 8 false Try.f8 (v8.args (pr, cl, by8, ())) (v8.conts (pr, cl, by8, ())) k = vc8 pr cl by8 k := by kernel_rfl
theorem tx8 : (Try.f8.body.map Code.textsOk).getD true = true := by kernel_rfl

def vc9 (pr : Int) (cl : List Int) (k : AVal → List Cont → Prop) : Prop :=
  (Go.Abs.Farm.v42.p (pr, (cl, ()))) ∧
  br (((Bool.not (Go.Abs.Farm.fine pr cl)) == Bool.false))
   (br ((decide (pr ≥ (200 : Int))))
    ((Go.Abs.Farm.v17.p ()) ∧
    (k (Go.Abs.AVal.bool Bool.true) []))
    ((Go.Abs.Farm.v43.p (pr, (cl, ()))) ∧
    (Go.Abs.Farm.v22.p (pr, (cl, ()))) ∧
    (Go.Abs.fitsK Go.IntKind.i64 (pr + (1 : Int))) ∧
    (Go.Abs.Farm.v43.p ((pr + (1 : Int)), (cl, ()))) ∧
    br ((((Go.Abs.Farm.yearErr pr cl) != (0 : Int)) == Bool.false))
     (br (((decide ((Go.Abs.Farm.nextN pr cl) < (0 : Int))) == Bool.false))
      (br (((decide ((Go.Abs.Farm.nextN pr cl) ≥ (((List.length (Go.Abs.Farm.fairOf pr cl)) : Nat) : Int))) == Bool.false))
       (∃ h3 : (((0 : Int) ≤ (Go.Abs.Farm.nextN pr cl)) ∧ ((Int.toNat (Go.Abs.Farm.nextN pr cl)) < (List.length cl))),
       br (((cl[(Int.toNat (Go.Abs.Farm.nextN pr cl))]'h3.2) == (0 : Int)))
        ((k (Go.Abs.AVal.bool Bool.false) []))
        (Go.Abs.Loop (σ := (Int × (Int × ((List Int) × ((List Int) × Unit))))) (fun K4 x4 =>
          br ((decide (x4.2.1 < (((List.length x4.2.2.1) : Nat) : Int))))
           ((((0 : Int) ≤ x4.2.1) ∧ ((Int.toNat x4.2.1) < (List.length x4.2.2.1))) ∧
           ∃ h6 : ((Int.toNat x4.2.1) < (List.length x4.2.2.1)),
           br ((x4.2.1 == x4.1))
            ((Go.Abs.fitsK Go.IntKind.i64 ((x4.2.2.1[(Int.toNat x4.2.1)]'h6) + (1 : Int))) ∧
            (((0 : Int) ≤ x4.2.1) ∧ ((Int.toNat x4.2.1) < (List.length x4.2.2.2.1))) ∧
            ∃ h7 : ((Int.toNat x4.2.1) < (List.length x4.2.2.2.1)),
            br (((x4.2.2.2.1[(Int.toNat x4.2.1)]'h7) != ((x4.2.2.1[(Int.toNat x4.2.1)]'h6) + (1 : Int))))
             ((k (Go.Abs.AVal.bool Bool.false) []))
             ((Go.Abs.fitsK Go.IntKind.i64 (x4.2.1 + (1 : Int))) ∧
             (K4 (x4.1, ((x4.2.1 + (1 : Int)), (x4.2.2.1, (x4.2.2.2.1, ())))))))
            ((((0 : Int) ≤ x4.2.1) ∧ ((Int.toNat x4.2.1) < (List.length x4.2.2.2.1))) ∧
            ∃ h7 : ((Int.toNat x4.2.1) < (List.length x4.2.2.2.1)),
            br (((x4.2.2.2.1[(Int.toNat x4.2.1)]'h7) != (x4.2.2.1[(Int.toNat x4.2.1)]'h6)))
             ((k (Go.Abs.AVal.bool Bool.false) []))
             ((Go.Abs.fitsK Go.IntKind.i64 (x4.2.1 + (1 : Int))) ∧
             (K4 (x4.1, ((x4.2.1 + (1 : Int)), (x4.2.2.1, (x4.2.2.2.1, ()))))))))
           ((Go.Abs.Farm.v17.p ()) ∧
           (k (Go.Abs.AVal.bool Bool.true) []))) (((Go.Abs.Farm.nextN pr cl), ((0 : Int), ((Go.Abs.Farm.fairOf pr cl), ((Go.Abs.Farm.fairOf (pr + (1 : Int)) cl), ())))))))
       ((k (Go.Abs.AVal.bool Bool.false) [])))
      ((k (Go.Abs.AVal.bool Bool.false) [])))
     ((k (Go.Abs.AVal.bool Bool.false) []))))
   ((Go.Abs.Farm.v17.p ()) ∧
   (k (Go.Abs.AVal.bool Bool.true) []))
theorem eq9 (pr : Int) (cl : List Int) (k : AVal → List Cont → Prop) : awpF (envOf [(42, mkC [v42]), (17, mkC [v17]), (43, mkC [v43]), (22, mkC [v22])]) Try.prog kt 9 false Try.f9 (v9.args (pr, cl, ())) (v9.conts (pr, cl, ())) k = vc9 pr cl k := by kernel_rfl
theorem tx9 : (Try.f9.body.map Code.textsOk).getD true = true := by kernel_rfl

def vc10 (pr : Int) (cl : List Int) (u w : Int) (k : AVal → List Cont → Prop) : Prop :=
  (Go.Abs.Farm.v42.p (pr, (cl, ()))) ∧
  br (((Bool.not (Go.Abs.Farm.fine pr cl)) == Bool.false))
   (br ((decide ((((List.length cl) : Nat) : Int) < (2 : Int))))
    ((Go.Abs.Farm.v17.p ()) ∧
    (k (Go.Abs.AVal.bool Bool.true) []))
    ((Go.Abs.fitsK Go.IntKind.i64 u) ∧
    (Go.Abs.fitsK Go.IntKind.i64 ((((List.length cl) : Nat) : Int) - (1 : Int))) ∧
    (((0 : Int) ≤ u) ∧ ((0 : Int) < ((((List.length cl) : Nat) : Int) - (1 : Int)))) ∧
    (Go.Abs.fitsK Go.IntKind.i64 ((HMod.hMod u ((((List.length cl) : Nat) : Int) - (1 : Int))) + (1 : Int))) ∧
    (Go.Abs.fitsK Go.IntKind.i64 w) ∧
    (Go.Abs.fitsK Go.IntKind.i64 ((((List.length cl) : Nat) : Int) - (1 : Int))) ∧
    (Go.Abs.fitsK Go.IntKind.i64 (((((List.length cl) : Nat) : Int) - (1 : Int)) - (HMod.hMod u ((((List.length cl) : Nat) : Int) - (1 : Int))))) ∧
    (((0 : Int) ≤ w) ∧ ((0 : Int) < (((((List.length cl) : Nat) : Int) - (1 : Int)) - (HMod.hMod u ((((List.length cl) : Nat) : Int) - (1 : Int)))))) ∧
    (Go.Abs.fitsK Go.IntKind.i64 (((HMod.hMod u ((((List.length cl) : Nat) : Int) - (1 : Int))) + (1 : Int)) + (HMod.hMod w (((((List.length cl) : Nat) : Int) - (1 : Int)) - (HMod.hMod u ((((List.length cl) : Nat) : Int) - (1 : Int))))))) ∧
    Go.Abs.Loop (σ := (Int × (Int × (Int × (Int × (Int × ((List Int) × (Int × ((List Int) × Unit))))))))) (fun K5 x5 =>
      br ((decide (x5.2.2.2.1 < x5.1)))
       (br ((x5.2.2.2.1 == x5.2.2.1))
        ((Go.Abs.fitsK Go.IntKind.i64 (x5.2.2.2.1 + (1 : Int))) ∧
        (K5 (x5.1, (x5.2.1, (x5.2.2.1, ((x5.2.2.2.1 + (1 : Int)), (x5.2.2.2.2.1, (x5.2.2.2.2.2.1, (x5.2.2.2.2.2.2.1, (x5.2.2.2.2.2.2.2.1, ()))))))))))
        (∃ h7 : (((0 : Int) ≤ x5.2.2.2.1) ∧ ((Int.toNat x5.2.2.2.1) < (List.length x5.2.2.2.2.2.1))),
        br ((x5.2.2.2.1 == x5.2.1))
         (∃ h8 : (((0 : Int) ≤ x5.2.2.1) ∧ ((Int.toNat x5.2.2.1) < (List.length x5.2.2.2.2.2.1))),
         (Go.Abs.fitsK Go.IntKind.i64 ((x5.2.2.2.2.2.1[(Int.toNat x5.2.2.2.1)]'h7.2) + (x5.2.2.2.2.2.1[(Int.toNat x5.2.2.1)]'h8.2))) ∧
         (((List.length x5.2.2.2.2.2.2.2.1) + (List.length (((x5.2.2.2.2.2.1[(Int.toNat x5.2.2.2.1)]'h7.2) + (x5.2.2.2.2.2.1[(Int.toNat x5.2.2.1)]'h8.2)) :: ([] : List Int)))) ≤ Go.Abs.big) ∧
         (Go.Abs.fitsK Go.IntKind.i64 (x5.2.2.2.1 + (1 : Int))) ∧
         (K5 (x5.1, (x5.2.1, (x5.2.2.1, ((x5.2.2.2.1 + (1 : Int)), (x5.2.2.2.2.1, (x5.2.2.2.2.2.1, (x5.2.2.2.2.2.2.1, ((x5.2.2.2.2.2.2.2.1 ++ (((x5.2.2.2.2.2.1[(Int.toNat x5.2.2.2.1)]'h7.2) + (x5.2.2.2.2.2.1[(Int.toNat x5.2.2.1)]'h8.2)) :: ([] : List Int))), ()))))))))))
         ((((List.length x5.2.2.2.2.2.2.2.1) + (List.length ((x5.2.2.2.2.2.1[(Int.toNat x5.2.2.2.1)]'h7.2) :: ([] : List Int)))) ≤ Go.Abs.big) ∧
         (Go.Abs.fitsK Go.IntKind.i64 (x5.2.2.2.1 + (1 : Int))) ∧
         (K5 (x5.1, (x5.2.1, (x5.2.2.1, ((x5.2.2.2.1 + (1 : Int)), (x5.2.2.2.2.1, (x5.2.2.2.2.2.1, (x5.2.2.2.2.2.2.1, ((x5.2.2.2.2.2.2.2.1 ++ ((x5.2.2.2.2.2.1[(Int.toNat x5.2.2.2.1)]'h7.2) :: ([] : List Int))), ()))))))))))))
       ((Go.Abs.Farm.v42.p (x5.2.2.2.2.2.2.1, (x5.2.2.2.2.2.2.2.1, ()))) ∧
       br ((Bool.not (Go.Abs.Farm.fine x5.2.2.2.2.2.2.1 x5.2.2.2.2.2.2.2.1)))
        ((Go.Abs.Farm.v17.p ()) ∧
        (k (Go.Abs.AVal.bool Bool.true) []))
        ((Go.Abs.Farm.v43.p (x5.2.2.2.2.1, (x5.2.2.2.2.2.1, ()))) ∧
        (Go.Abs.Farm.v43.p (x5.2.2.2.2.2.2.1, (x5.2.2.2.2.2.2.2.1, ()))) ∧
        (((0 : Int) ≤ x5.2.1) ∧ ((Int.toNat x5.2.1) < (List.length (Go.Abs.Farm.fairOf x5.2.2.2.2.2.2.1 x5.2.2.2.2.2.2.2.1)))) ∧
        ∃ h7 : ((Int.toNat x5.2.1) < (List.length (Go.Abs.Farm.fairOf x5.2.2.2.2.2.2.1 x5.2.2.2.2.2.2.2.1))),
        (((0 : Int) ≤ x5.2.1) ∧ ((Int.toNat x5.2.1) < (List.length (Go.Abs.Farm.fairOf x5.2.2.2.2.1 x5.2.2.2.2.2.1)))) ∧
        ∃ h8 : ((Int.toNat x5.2.1) < (List.length (Go.Abs.Farm.fairOf x5.2.2.2.2.1 x5.2.2.2.2.2.1))),
        (((0 : Int) ≤ x5.2.2.1) ∧ ((Int.toNat x5.2.2.1) < (List.length (Go.Abs.Farm.fairOf x5.2.2.2.2.1 x5.2.2.2.2.2.1)))) ∧
        ∃ h9 : ((Int.toNat x5.2.2.1) < (List.length (Go.Abs.Farm.fairOf x5.2.2.2.2.1 x5.2.2.2.2.2.1))),
        (Go.Abs.fitsK Go.IntKind.i64 (((Go.Abs.Farm.fairOf x5.2.2.2.2.1 x5.2.2.2.2.2.1)[(Int.toNat x5.2.1)]'h8) + ((Go.Abs.Farm.fairOf x5.2.2.2.2.1 x5.2.2.2.2.2.1)[(Int.toNat x5.2.2.1)]'h9))) ∧
        br (((decide (((Go.Abs.Farm.fairOf x5.2.2.2.2.2.2.1 x5.2.2.2.2.2.2.2.1)[(Int.toNat x5.2.1)]'h7) < (((Go.Abs.Farm.fairOf x5.2.2.2.2.1 x5.2.2.2.2.2.1)[(Int.toNat x5.2.1)]'h8) + ((Go.Abs.Farm.fairOf x5.2.2.2.2.1 x5.2.2.2.2.2.1)[(Int.toNat x5.2.2.1)]'h9)))) == Bool.false))
         ((((0 : Int) ≤ x5.2.1) ∧ ((Int.toNat x5.2.1) < (List.length (Go.Abs.Farm.fairOf x5.2.2.2.2.2.2.1 x5.2.2.2.2.2.2.2.1)))) ∧
         ∃ h10 : ((Int.toNat x5.2.1) < (List.length (Go.Abs.Farm.fairOf x5.2.2.2.2.2.2.1 x5.2.2.2.2.2.2.2.1))),
         (((0 : Int) ≤ x5.2.1) ∧ ((Int.toNat x5.2.1) < (List.length (Go.Abs.Farm.fairOf x5.2.2.2.2.1 x5.2.2.2.2.2.1)))) ∧
         ∃ h11 : ((Int.toNat x5.2.1) < (List.length (Go.Abs.Farm.fairOf x5.2.2.2.2.1 x5.2.2.2.2.2.1))),
         (((0 : Int) ≤ x5.2.2.1) ∧ ((Int.toNat x5.2.2.1) < (List.length (Go.Abs.Farm.fairOf x5.2.2.2.2.1 x5.2.2.2.2.2.1)))) ∧
         ∃ h12 : ((Int.toNat x5.2.2.1) < (List.length (Go.Abs.Farm.fairOf x5.2.2.2.2.1 x5.2.2.2.2.2.1))),
         (Go.Abs.fitsK Go.IntKind.i64 (((Go.Abs.Farm.fairOf x5.2.2.2.2.1 x5.2.2.2.2.2.1)[(Int.toNat x5.2.1)]'h11) + ((Go.Abs.Farm.fairOf x5.2.2.2.2.1 x5.2.2.2.2.2.1)[(Int.toNat x5.2.2.1)]'h12))) ∧
         (Go.Abs.fitsK Go.IntKind.i64 ((((Go.Abs.Farm.fairOf x5.2.2.2.2.1 x5.2.2.2.2.2.1)[(Int.toNat x5.2.1)]'h11) + ((Go.Abs.Farm.fairOf x5.2.2.2.2.1 x5.2.2.2.2.2.1)[(Int.toNat x5.2.2.1)]'h12)) + (1 : Int))) ∧
         br ((decide (((Go.Abs.Farm.fairOf x5.2.2.2.2.2.2.1 x5.2.2.2.2.2.2.2.1)[(Int.toNat x5.2.1)]'h10) > ((((Go.Abs.Farm.fairOf x5.2.2.2.2.1 x5.2.2.2.2.2.1)[(Int.toNat x5.2.1)]'h11) + ((Go.Abs.Farm.fairOf x5.2.2.2.2.1 x5.2.2.2.2.2.1)[(Int.toNat x5.2.2.1)]'h12)) + (1 : Int)))))
          ((k (Go.Abs.AVal.bool Bool.false) []))
          (Go.Abs.Loop (σ := (Int × (Int × (Int × (Int × ((List Int) × ((List Int) × Unit))))))) (fun K13 x13 =>
            br ((decide (x13.2.2.2.1 < x13.1)))
             (br ((decide (x13.2.2.2.1 > x13.2.2.1)))
              ((Go.Abs.fitsK Go.IntKind.i64 (x13.2.2.2.1 - (1 : Int))) ∧
              br (((x13.2.2.2.1 != x13.2.1) == Bool.true))
               (br (((x13.2.2.2.1 != x13.2.2.1) == Bool.true))
                ((((0 : Int) ≤ (x13.2.2.2.1 - (1 : Int))) ∧ ((Int.toNat (x13.2.2.2.1 - (1 : Int))) < (List.length x13.2.2.2.2.2.1))) ∧
                ∃ h15 : ((Int.toNat (x13.2.2.2.1 - (1 : Int))) < (List.length x13.2.2.2.2.2.1)),
                (((0 : Int) ≤ x13.2.2.2.1) ∧ ((Int.toNat x13.2.2.2.1) < (List.length x13.2.2.2.2.1))) ∧
                ∃ h16 : ((Int.toNat x13.2.2.2.1) < (List.length x13.2.2.2.2.1)),
                br ((decide ((x13.2.2.2.2.2.1[(Int.toNat (x13.2.2.2.1 - (1 : Int)))]'h15) > (x13.2.2.2.2.1[(Int.toNat x13.2.2.2.1)]'h16))))
                 ((k (Go.Abs.AVal.bool Bool.false) []))
                 ((Go.Abs.fitsK Go.IntKind.i64 (x13.2.2.2.1 + (1 : Int))) ∧
                 (K13 (x13.1, (x13.2.1, (x13.2.2.1, ((x13.2.2.2.1 + (1 : Int)), (x13.2.2.2.2.1, (x13.2.2.2.2.2.1, ())))))))))
                ((Go.Abs.fitsK Go.IntKind.i64 (x13.2.2.2.1 + (1 : Int))) ∧
                (K13 (x13.1, (x13.2.1, (x13.2.2.1, ((x13.2.2.2.1 + (1 : Int)), (x13.2.2.2.2.1, (x13.2.2.2.2.2.1, ())))))))))
               ((Go.Abs.fitsK Go.IntKind.i64 (x13.2.2.2.1 + (1 : Int))) ∧
               (K13 (x13.1, (x13.2.1, (x13.2.2.1, ((x13.2.2.2.1 + (1 : Int)), (x13.2.2.2.2.1, (x13.2.2.2.2.2.1, ())))))))))
              (br (((x13.2.2.2.1 != x13.2.1) == Bool.true))
               (br (((x13.2.2.2.1 != x13.2.2.1) == Bool.true))
                ((((0 : Int) ≤ x13.2.2.2.1) ∧ ((Int.toNat x13.2.2.2.1) < (List.length x13.2.2.2.2.2.1))) ∧
                ∃ h15 : ((Int.toNat x13.2.2.2.1) < (List.length x13.2.2.2.2.2.1)),
                (((0 : Int) ≤ x13.2.2.2.1) ∧ ((Int.toNat x13.2.2.2.1) < (List.length x13.2.2.2.2.1))) ∧
                ∃ h16 : ((Int.toNat x13.2.2.2.1) < (List.length x13.2.2.2.2.1)),
                br ((decide ((x13.2.2.2.2.2.1[(Int.toNat x13.2.2.2.1)]'h15) > (x13.2.2.2.2.1[(Int.toNat x13.2.2.2.1)]'h16))))
                 ((k (Go.Abs.AVal.bool Bool.false) []))
                 ((Go.Abs.fitsK Go.IntKind.i64 (x13.2.2.2.1 + (1 : Int))) ∧
                 (K13 (x13.1, (x13.2.1, (x13.2.2.1, ((x13.2.2.2.1 + (1 : Int)), (x13.2.2.2.2.1, (x13.2.2.2.2.2.1, ())))))))))
                ((Go.Abs.fitsK Go.IntKind.i64 (x13.2.2.2.1 + (1 : Int))) ∧
                (K13 (x13.1, (x13.2.1, (x13.2.2.1, ((x13.2.2.2.1 + (1 : Int)), (x13.2.2.2.2.1, (x13.2.2.2.2.2.1, ())))))))))
               ((Go.Abs.fitsK Go.IntKind.i64 (x13.2.2.2.1 + (1 : Int))) ∧
               (K13 (x13.1, (x13.2.1, (x13.2.2.1, ((x13.2.2.2.1 + (1 : Int)), (x13.2.2.2.2.1, (x13.2.2.2.2.2.1, ()))))))))))
             ((Go.Abs.Farm.v17.p ()) ∧
             (k (Go.Abs.AVal.bool Bool.true) []))) ((x5.1, (x5.2.1, (x5.2.2.1, ((0 : Int), ((Go.Abs.Farm.fairOf x5.2.2.2.2.1 x5.2.2.2.2.2.1), ((Go.Abs.Farm.fairOf x5.2.2.2.2.2.2.1 x5.2.2.2.2.2.2.2.1), ())))))))))
         ((k (Go.Abs.AVal.bool Bool.false) []))))) (((((List.length cl) : Nat) : Int), ((HMod.hMod u ((((List.length cl) : Nat) : Int) - (1 : Int))), ((((HMod.hMod u ((((List.length cl) : Nat) : Int) - (1 : Int))) + (1 : Int)) + (HMod.hMod w (((((List.length cl) : Nat) : Int) - (1 : Int)) - (HMod.hMod u ((((List.length cl) : Nat) : Int) - (1 : Int)))))), ((0 : Int), (pr, (cl, (pr, (([] : List Int), ())))))))))))
   ((Go.Abs.Farm.v17.p ()) ∧
   (k (Go.Abs.AVal.bool Bool.true) []))
theorem eq10 (pr : Int) (cl : List Int) (u w : Int) (k : AVal → List Cont → Prop) : awpF (envOf [(42, mkC [v42]), (17, mkC [v17]), (43, mkC [v43])]) Try.prog kt 10 false Try.f10 (v10.args (pr, cl, u, w, ())) (v10.conts (pr, cl, u, w, ())) k = vc10 pr cl u w k := by kernel_rfl
theorem tx10 : (Try.f10.body.map Code.textsOk).getD true = true := by kernel_rfl

def vc11 (pr : Int) (cl : List Int) (u : Int) (k : AVal → List Cont → Prop) : Prop :=
  (Go.Abs.Farm.v42.p (pr, (cl, ()))) ∧
  br ((Bool.not (Go.Abs.Farm.fine pr cl)))
   ((Go.Abs.Farm.v17.p ()) ∧
   (k (Go.Abs.AVal.bool Bool.true) []))
   ((((0 : Int) ≤ u) ∧ ((0 : Int) < (4 : Int))) ∧
   (Go.Abs.fitsK Go.IntKind.i64 (HMod.hMod u (4 : Int))) ∧
   (Go.Abs.fitsK Go.IntKind.i64 ((1 : Int) + (HMod.hMod u (4 : Int)))) ∧
   Go.Abs.Loop (σ := (Int × (Int × (Int × ((List Int) × (Int × ((List Int) × Unit))))))) (fun K4 x4 =>
     br ((decide (x4.2.1 < (((List.length x4.2.2.2.1) : Nat) : Int))))
      (∃ h6 : (((0 : Int) ≤ x4.2.1) ∧ ((Int.toNat x4.2.1) < (List.length x4.2.2.2.1))),
      (Go.Abs.fitsK Go.IntKind.i64 (x4.1 * (x4.2.2.2.1[(Int.toNat x4.2.1)]'h6.2))) ∧
      (((List.length x4.2.2.2.2.2.1) + (List.length ((x4.1 * (x4.2.2.2.1[(Int.toNat x4.2.1)]'h6.2)) :: ([] : List Int)))) ≤ Go.Abs.big) ∧
      (Go.Abs.fitsK Go.IntKind.i64 (x4.2.1 + (1 : Int))) ∧
      (K4 (x4.1, ((x4.2.1 + (1 : Int)), (x4.2.2.1, (x4.2.2.2.1, (x4.2.2.2.2.1, ((x4.2.2.2.2.2.1 ++ ((x4.1 * (x4.2.2.2.1[(Int.toNat x4.2.1)]'h6.2)) :: ([] : List Int))), ()))))))))
      ((Go.Abs.Farm.v42.p (x4.2.2.2.2.1, (x4.2.2.2.2.2.1, ()))) ∧
      br ((Bool.not (Go.Abs.Farm.fine x4.2.2.2.2.1 x4.2.2.2.2.2.1)))
       ((Go.Abs.Farm.v17.p ()) ∧
       (k (Go.Abs.AVal.bool Bool.true) []))
       ((Go.Abs.Farm.v43.p (x4.2.2.1, (x4.2.2.2.1, ()))) ∧
       (Go.Abs.Farm.v43.p (x4.2.2.2.2.1, (x4.2.2.2.2.2.1, ()))) ∧
       (Go.Abs.Farm.v24.p (x4.2.2.1, (x4.2.2.2.1, ()))) ∧
       (Go.Abs.Farm.v24.p (x4.2.2.2.2.1, (x4.2.2.2.2.2.1, ()))) ∧
       (Go.Abs.Farm.v22.p (x4.2.2.1, (x4.2.2.2.1, ()))) ∧
       (Go.Abs.Farm.v22.p (x4.2.2.2.2.1, (x4.2.2.2.2.2.1, ()))) ∧
       (Go.Abs.Farm.v28.p ((Go.Abs.Farm.fairOf x4.2.2.1 x4.2.2.2.1), ((Go.Abs.Farm.fairOf x4.2.2.2.2.1 x4.2.2.2.2.2.1), ()))) ∧
       br (((Go.Abs.Farm.eqL (Go.Abs.Farm.fairOf x4.2.2.1 x4.2.2.2.1) (Go.Abs.Farm.fairOf x4.2.2.2.2.1 x4.2.2.2.2.2.1)) == Bool.true))
        (br ((((Go.Abs.Farm.yearErr x4.2.2.1 x4.2.2.2.1) == (0 : Int)) == Bool.true))
         (br ((((Go.Abs.Farm.yearErr x4.2.2.2.2.1 x4.2.2.2.2.2.1) == (0 : Int)) == Bool.true))
          ((Go.Abs.Farm.v28.p ((Go.Abs.Farm.nearL x4.2.2.1 x4.2.2.2.1), ((Go.Abs.Farm.nearL x4.2.2.2.2.1 x4.2.2.2.2.2.1), ()))) ∧
          br (((Go.Abs.Farm.eqL (Go.Abs.Farm.nearL x4.2.2.1 x4.2.2.2.1) (Go.Abs.Farm.nearL x4.2.2.2.2.1 x4.2.2.2.2.2.1)) == Bool.true))
           (br ((((Go.Abs.Farm.yearErr x4.2.2.1 x4.2.2.2.1) == (0 : Int)) == Bool.true))
            (br ((((Go.Abs.Farm.yearErr x4.2.2.2.2.1 x4.2.2.2.2.2.1) == (0 : Int)) == Bool.true))
             (br ((((Go.Abs.Farm.nextN x4.2.2.1 x4.2.2.2.1) == (Go.Abs.Farm.nextN x4.2.2.2.2.1 x4.2.2.2.2.2.1)) == Bool.true))
              ((Go.Abs.Farm.v17.p ()) ∧
              (k (Go.Abs.AVal.bool Bool.true) []))
              ((k (Go.Abs.AVal.bool Bool.false) [])))
             ((k (Go.Abs.AVal.bool Bool.false) [])))
            ((k (Go.Abs.AVal.bool Bool.false) [])))
           ((k (Go.Abs.AVal.bool Bool.false) [])))
          ((k (Go.Abs.AVal.bool Bool.false) [])))
         ((k (Go.Abs.AVal.bool Bool.false) [])))
        ((k (Go.Abs.AVal.bool Bool.false) []))))) ((((1 : Int) + (HMod.hMod u (4 : Int))), ((0 : Int), (pr, (cl, (pr, (([] : List Int), ()))))))))
theorem eq11 (pr : Int) (cl : List Int) (u : Int) (k : AVal → List Cont → Prop) : awpF (envOf [(42, mkC [v42]), (17, mkC [v17]), (43, mkC [v43]), (24, mkC [v24]), (22, mkC [v22]), (28, mkC [v28])]) Try.prog kt 11 false Try.f11 (v11.args (pr, cl, u, ())) (v11.conts (pr, cl, u, ())) k = vc11 pr cl u k := by kernel_rfl
theorem tx11 : (Try.f11.body.map Code.textsOk).getD true = true := by kernel_rfl


def vc13 (pr : Int) (rs : List (Int × Int)) (by8 : List Int) (u : Int) (k : AVal → List Cont → Prop) : Prop :=
  (Go.Abs.Farm.v50.p (pr, (rs, ()))) ∧
  br (((Bool.not (Go.Abs.Farm.sound pr rs)) == Bool.false))
   (br ((decide ((((List.length by8) : Nat) : Int) > (20 : Int))))
    ((Go.Abs.Farm.v17.p ()) ∧
    (k (Go.Abs.AVal.bool Bool.true) []))
    ((Go.Abs.Farm.v51.p (pr, (rs, (by8, ())))) ∧
    (Go.Abs.fitsK Go.IntKind.i64 u) ∧
    (((0 : Int) ≤ u) ∧ ((0 : Int) < (((List.length rs) : Nat) : Int))) ∧
    (Go.Abs.Farm.v43.p (pr, ((Go.Abs.Farm.trueOf rs by8), ()))) ∧
    (Go.Abs.Farm.v38.p (pr, (rs, ((HMod.hMod u (((List.length rs) : Nat) : Int)), ())))) ∧
    (((List.length ([] : List (Int × Int))) + (List.length rs)) ≤ Go.Abs.big) ∧
    ∃ h5 : (((0 : Int) ≤ (HMod.hMod u (((List.length rs) : Nat) : Int))) ∧ ((Int.toNat (HMod.hMod u (((List.length rs) : Nat) : Int))) < (List.length (Go.Abs.Farm.trueOf rs by8)))),
    ∃ h6 : (((0 : Int) ≤ (HMod.hMod u (((List.length rs) : Nat) : Int))) ∧ ((Int.toNat (HMod.hMod u (((List.length rs) : Nat) : Int))) < (List.length (Go.Abs.Farm.trueOf rs by8)))),
    (((0 : Int) ≤ (HMod.hMod u (((List.length rs) : Nat) : Int))) ∧ ((Int.toNat (HMod.hMod u (((List.length rs) : Nat) : Int))) < (List.length (([] : List (Int × Int)) ++ rs)))) ∧
    ∃ h7 : ((Int.toNat (HMod.hMod u (((List.length rs) : Nat) : Int))) < (List.length (([] : List (Int × Int)) ++ rs))),
    (Go.Abs.Farm.v50.p (pr, ((List.set (([] : List (Int × Int)) ++ rs) (Int.toNat (HMod.hMod u (((List.length rs) : Nat) : Int))) (((Go.Abs.Farm.trueOf rs by8)[(Int.toNat (HMod.hMod u (((List.length rs) : Nat) : Int)))]'h5.2), ((Go.Abs.Farm.trueOf rs by8)[(Int.toNat (HMod.hMod u (((List.length rs) : Nat) : Int)))]'h6.2))), ()))) ∧
    br ((Bool.not (Go.Abs.Farm.sound pr (List.set (([] : List (Int × Int)) ++ rs) (Int.toNat (HMod.hMod u (((List.length rs) : Nat) : Int))) (((Go.Abs.Farm.trueOf rs by8)[(Int.toNat (HMod.hMod u (((List.length rs) : Nat) : Int)))]'h5.2), ((Go.Abs.Farm.trueOf rs by8)[(Int.toNat (HMod.hMod u (((List.length rs) : Nat) : Int)))]'h6.2))))))
     (br ((((Go.Abs.Farm.spanE pr rs (HMod.hMod u (((List.length rs) : Nat) : Int))) == (0 : Int)) == Bool.true))
      ((((0 : Int) ≤ (HMod.hMod u (((List.length rs) : Nat) : Int))) ∧ ((Int.toNat (HMod.hMod u (((List.length rs) : Nat) : Int))) < (List.length (Go.Abs.Farm.fairOf pr (Go.Abs.Farm.trueOf rs by8))))) ∧
      ∃ h8 : ((Int.toNat (HMod.hMod u (((List.length rs) : Nat) : Int))) < (List.length (Go.Abs.Farm.fairOf pr (Go.Abs.Farm.trueOf rs by8)))),
      br (((decide ((Go.Abs.Farm.spanLo pr rs (HMod.hMod u (((List.length rs) : Nat) : Int))) ≤ ((Go.Abs.Farm.fairOf pr (Go.Abs.Farm.trueOf rs by8))[(Int.toNat (HMod.hMod u (((List.length rs) : Nat) : Int)))]'h8))) == Bool.true))
       ((((0 : Int) ≤ (HMod.hMod u (((List.length rs) : Nat) : Int))) ∧ ((Int.toNat (HMod.hMod u (((List.length rs) : Nat) : Int))) < (List.length (Go.Abs.Farm.fairOf pr (Go.Abs.Farm.trueOf rs by8))))) ∧
       ∃ h9 : ((Int.toNat (HMod.hMod u (((List.length rs) : Nat) : Int))) < (List.length (Go.Abs.Farm.fairOf pr (Go.Abs.Farm.trueOf rs by8)))),
       br (((decide (((Go.Abs.Farm.fairOf pr (Go.Abs.Farm.trueOf rs by8))[(Int.toNat (HMod.hMod u (((List.length rs) : Nat) : Int)))]'h9) ≤ (Go.Abs.Farm.spanHi pr rs (HMod.hMod u (((List.length rs) : Nat) : Int))))) == Bool.true))
        ((Go.Abs.Farm.v17.p ()) ∧
        (k (Go.Abs.AVal.bool Bool.true) []))
        ((k (Go.Abs.AVal.bool Bool.false) [])))
       ((k (Go.Abs.AVal.bool Bool.false) [])))
      ((k (Go.Abs.AVal.bool Bool.false) [])))
     ((Go.Abs.Farm.v38.p (pr, ((List.set (([] : List (Int × Int)) ++ rs) (Int.toNat (HMod.hMod u (((List.length rs) : Nat) : Int))) (((Go.Abs.Farm.trueOf rs by8)[(Int.toNat (HMod.hMod u (((List.length rs) : Nat) : Int)))]'h5.2), ((Go.Abs.Farm.trueOf rs by8)[(Int.toNat (HMod.hMod u (((List.length rs) : Nat) : Int)))]'h6.2))), ((HMod.hMod u (((List.length rs) : Nat) : Int)), ())))) ∧
     br ((((Go.Abs.Farm.spanE pr rs (HMod.hMod u (((List.length rs) : Nat) : Int))) == (0 : Int)) == Bool.true))
      ((((0 : Int) ≤ (HMod.hMod u (((List.length rs) : Nat) : Int))) ∧ ((Int.toNat (HMod.hMod u (((List.length rs) : Nat) : Int))) < (List.length (Go.Abs.Farm.fairOf pr (Go.Abs.Farm.trueOf rs by8))))) ∧
      ∃ h8 : ((Int.toNat (HMod.hMod u (((List.length rs) : Nat) : Int))) < (List.length (Go.Abs.Farm.fairOf pr (Go.Abs.Farm.trueOf rs by8)))),
      br (((decide ((Go.Abs.Farm.spanLo pr rs (HMod.hMod u (((List.length rs) : Nat) : Int))) ≤ ((Go.Abs.Farm.fairOf pr (Go.Abs.Farm.trueOf rs by8))[(Int.toNat (HMod.hMod u (((List.length rs) : Nat) : Int)))]'h8))) == Bool.true))
       ((((0 : Int) ≤ (HMod.hMod u (((List.length rs) : Nat) : Int))) ∧ ((Int.toNat (HMod.hMod u (((List.length rs) : Nat) : Int))) < (List.length (Go.Abs.Farm.fairOf pr (Go.Abs.Farm.trueOf rs by8))))) ∧
       ∃ h9 : ((Int.toNat (HMod.hMod u (((List.length rs) : Nat) : Int))) < (List.length (Go.Abs.Farm.fairOf pr (Go.Abs.Farm.trueOf rs by8)))),
       br (((decide (((Go.Abs.Farm.fairOf pr (Go.Abs.Farm.trueOf rs by8))[(Int.toNat (HMod.hMod u (((List.length rs) : Nat) : Int)))]'h9) ≤ (Go.Abs.Farm.spanHi pr rs (HMod.hMod u (((List.length rs) : Nat) : Int))))) == Bool.true))
        (br ((((Go.Abs.Farm.spanE pr (List.set (([] : List (Int × Int)) ++ rs) (Int.toNat (HMod.hMod u (((List.length rs) : Nat) : Int))) (((Go.Abs.Farm.trueOf rs by8)[(Int.toNat (HMod.hMod u (((List.length rs) : Nat) : Int)))]'h5.2), ((Go.Abs.Farm.trueOf rs by8)[(Int.toNat (HMod.hMod u (((List.length rs) : Nat) : Int)))]'h6.2))) (HMod.hMod u (((List.length rs) : Nat) : Int))) == (0 : Int)) == Bool.true))
         (br (((decide ((Go.Abs.Farm.spanLo pr (List.set (([] : List (Int × Int)) ++ rs) (Int.toNat (HMod.hMod u (((List.length rs) : Nat) : Int))) (((Go.Abs.Farm.trueOf rs by8)[(Int.toNat (HMod.hMod u (((List.length rs) : Nat) : Int)))]'h5.2), ((Go.Abs.Farm.trueOf rs by8)[(Int.toNat (HMod.hMod u (((List.length rs) : Nat) : Int)))]'h6.2))) (HMod.hMod u (((List.length rs) : Nat) : Int))) ≥ (Go.Abs.Farm.spanLo pr rs (HMod.hMod u (((List.length rs) : Nat) : Int))))) == Bool.true))
          (br (((decide ((Go.Abs.Farm.spanHi pr (List.set (([] : List (Int × Int)) ++ rs) (Int.toNat (HMod.hMod u (((List.length rs) : Nat) : Int))) (((Go.Abs.Farm.trueOf rs by8)[(Int.toNat (HMod.hMod u (((List.length rs) : Nat) : Int)))]'h5.2), ((Go.Abs.Farm.trueOf rs by8)[(Int.toNat (HMod.hMod u (((List.length rs) : Nat) : Int)))]'h6.2))) (HMod.hMod u (((List.length rs) : Nat) : Int))) ≤ (Go.Abs.Farm.spanHi pr rs (HMod.hMod u (((List.length rs) : Nat) : Int))))) == Bool.true))
           ((((0 : Int) ≤ (HMod.hMod u (((List.length rs) : Nat) : Int))) ∧ ((Int.toNat (HMod.hMod u (((List.length rs) : Nat) : Int))) < (List.length (Go.Abs.Farm.fairOf pr (Go.Abs.Farm.trueOf rs by8))))) ∧
           ∃ h10 : ((Int.toNat (HMod.hMod u (((List.length rs) : Nat) : Int))) < (List.length (Go.Abs.Farm.fairOf pr (Go.Abs.Farm.trueOf rs by8)))),
           br (((decide ((Go.Abs.Farm.spanLo pr (List.set (([] : List (Int × Int)) ++ rs) (Int.toNat (HMod.hMod u (((List.length rs) : Nat) : Int))) (((Go.Abs.Farm.trueOf rs by8)[(Int.toNat (HMod.hMod u (((List.length rs) : Nat) : Int)))]'h5.2), ((Go.Abs.Farm.trueOf rs by8)[(Int.toNat (HMod.hMod u (((List.length rs) : Nat) : Int)))]'h6.2))) (HMod.hMod u (((List.length rs) : Nat) : Int))) ≤ ((Go.Abs.Farm.fairOf pr (Go.Abs.Farm.trueOf rs by8))[(Int.toNat (HMod.hMod u (((List.length rs) : Nat) : Int)))]'h10))) == Bool.true))
            ((((0 : Int) ≤ (HMod.hMod u (((List.length rs) : Nat) : Int))) ∧ ((Int.toNat (HMod.hMod u (((List.length rs) : Nat) : Int))) < (List.length (Go.Abs.Farm.fairOf pr (Go.Abs.Farm.trueOf rs by8))))) ∧
            ∃ h11 : ((Int.toNat (HMod.hMod u (((List.length rs) : Nat) : Int))) < (List.length (Go.Abs.Farm.fairOf pr (Go.Abs.Farm.trueOf rs by8)))),
            br (((decide (((Go.Abs.Farm.fairOf pr (Go.Abs.Farm.trueOf rs by8))[(Int.toNat (HMod.hMod u (((List.length rs) : Nat) : Int)))]'h11) ≤ (Go.Abs.Farm.spanHi pr (List.set (([] : List (Int × Int)) ++ rs) (Int.toNat (HMod.hMod u (((List.length rs) : Nat) : Int))) (((Go.Abs.Farm.trueOf rs by8)[(Int.toNat (HMod.hMod u (((List.length rs) : Nat) : Int)))]'h5.2), ((Go.Abs.Farm.trueOf rs by8)[(Int.toNat (HMod.hMod u (((List.length rs) : Nat) : Int)))]'h6.2))) (HMod.hMod u (((List.length rs) : Nat) : Int))))) == Bool.true))
             ((Go.Abs.Farm.v17.p ()) ∧
             (k (Go.Abs.AVal.bool Bool.true) []))
             ((k (Go.Abs.AVal.bool Bool.false) [])))
            ((k (Go.Abs.AVal.bool Bool.false) [])))
           ((k (Go.Abs.AVal.bool Bool.false) [])))
          ((k (Go.Abs.AVal.bool Bool.false) [])))
         ((k (Go.Abs.AVal.bool Bool.false) [])))
        ((k (Go.Abs.AVal.bool Bool.false) [])))
       ((k (Go.Abs.AVal.bool Bool.false) [])))
      ((k (Go.Abs.AVal.bool Bool.false) [])))))
   ((Go.Abs.Farm.v17.p ()) ∧
   (k (Go.Abs.AVal.bool Bool.true) []))
theorem eq13 (pr : Int) (rs : List (Int × Int)) (by8 : List Int) (u : Int) (k : AVal → List Cont → Prop) : awpF (envOf [(50, mkC [v50]), (17, mkC [v17]), (51, mkC [v51]), (43, mkC [v43]), (38, mkC [v38])]) Try.prog kt 13 false Try.f13 (v13.args (pr, rs, by8, u, ())) (v13.conts (pr, rs, by8, u, ())) k = vc13 pr rs by8 u k := by kernel_rfl
theorem tx13 : (Try.f13.body.map Code.textsOk).getD true = true := by kernel_rfl


def vc15  (k : AVal → List Cont → Prop) : Prop :=
  (Go.Abs.Farm.v52.p ((10 : Int), (((53 : Int) :: ((24 : Int) :: ((23 : Int) :: ([] : List Int)))), ()))) ∧
  (Go.Abs.Farm.v52.p ((0 : Int), (((3 : Int) :: ((5 : Int) :: ([] : List Int))), ()))) ∧
  (Go.Abs.Farm.v18.p ((10 : Int), (((53 : Int) :: ((24 : Int) :: ((23 : Int) :: ([] : List Int)))), ((0 : Int), ())))) ∧
  (Go.Abs.Farm.v49.p (((0 : Int) :: ((0 : Int) :: ([] : List Int))), ())) ∧
  (Go.Abs.Farm.v35.p ((0 : Int), (((3 : Int) :: ((5 : Int) :: ([] : List Int))), (((0 : Int) :: ((0 : Int) :: ([] : List Int))), ())))) ∧
  (Go.Abs.Farm.v53.p ((53 : Int), ((10 : Int), ()))) ∧
  (Go.Abs.Farm.v49.p (((7 : Int) :: ((4 : Int) :: ((-(1 : Int) : Int) :: ([] : List Int)))), ())) ∧
  (Go.Abs.Farm.v33.p ((10 : Int), (((53 : Int) :: ((24 : Int) :: ((23 : Int) :: ([] : List Int)))), (((7 : Int) :: ((4 : Int) :: ((-(1 : Int) : Int) :: ([] : List Int)))), ())))) ∧
  (Go.Abs.Farm.v53.p ((5 : Int), ((1 : Int), ()))) ∧
  (Go.Abs.Farm.v53.p ((0 : Int), ((1 : Int), ()))) ∧
  (Go.Abs.Farm.v26.p ((10 : Int), (((53 : Int) :: ((24 : Int) :: ((23 : Int) :: ([] : List Int)))), ()))) ∧
  (Go.Abs.Farm.v52.p ((5 : Int), (((0 : Int) :: ((0 : Int) :: ([] : List Int))), ()))) ∧
  (Go.Abs.Farm.v26.p ((5 : Int), (((0 : Int) :: ((0 : Int) :: ([] : List Int))), ()))) ∧
  (Go.Abs.Farm.v54.p ((10 : Int), (((50 : Int) :: ((53 : Int) :: ([] : List Int))), ()))) ∧
  (Go.Abs.Farm.v40.p ((10 : Int), ((Go.Abs.Farm.pairsUp ((50 : Int) :: ((53 : Int) :: ([] : List Int)))), ()))) ∧
  (Go.Abs.Farm.v17.p ()) ∧
  (k (Go.Abs.AVal.bool Bool.true) [])
theorem eq15  (k : AVal → List Cont → Prop) : awpF (envOf [(52, mkC [v52]), (18, mkC [v18]), (49, mkC [v49]), (35, mkC [v35]), (53, mkC [v53]), (33, mkC [v33]), (26, mkC [v26]), (54, mkC [v54]), (40, mkC [v40]), (17, mkC [v17])]) Try.prog kt 15 false Try.f15 (v15.args ()) (v15.conts ()) k = vc15  k := by kernel_rfl
theorem tx15 : (Try.f15.body.map Code.textsOk).getD true = true := by kernel_rfl

end Go.Abs.Farm
end

section
/- The contracts of the farm's functions: where it is known which errors can be. -/
namespace Go.Abs.Farm
def feZ (pr : Int) (cl s : List Int) : Bool := decide (fairE pr cl s = 0)
def dvZ (pr : Int) (cl s : List Int) : Bool := decide (divE pr cl s = 0)
abbrev SharesOk (pr : Int) (cl s : List Int) : Prop := sharesErr pr cl s = 0
def v33c : Var := ⟨sYS, [], fun x => SharesOk x.1 x.2.1 x.2.2.1, fun x => .br (feZ x.1 x.2.1 x.2.2.1) (one (rI 0)) (one (rI 24))⟩
def v34c : Var := ⟨sYS, [], fun x => SharesOk x.1 x.2.1 x.2.2.1, fun x => .br (feZ x.1 x.2.1 x.2.2.1) (one (rI 0)) (one (rI 24))⟩
def v29c : Var := ⟨sYS, [], fun x => SharesOk x.1 x.2.1 x.2.2.1, fun x => .br (feZ x.1 x.2.1 x.2.2.1) (r3 0 0 5) (r3 (compA x.1 x.2.1 x.2.2.1) (compB x.1 x.2.1 x.2.2.1) 0)⟩
def v35c : Var := ⟨sYS, [], fun x => SharesOk x.1 x.2.1 x.2.2.1, fun x => .br (dvZ x.1 x.2.1 x.2.2.1) (rB2 (divLN x.1 x.2.1 x.2.2.1) (divLD x.1 x.2.1 x.2.2.1) (divHN x.1 x.2.1 x.2.2.1) (divHD x.1 x.2.1 x.2.2.1) 0) (rB2 0 0 0 0 24)⟩
/- A list of no numbers, by no arguments. -/
def longsPre : List AVal → List Cont → Prop
  | [.imm (.int .i64) [] true], [] => True
  | _, _ => False
def cLongs : Contract := ⟨longsPre, fun _ _ => one (.imm (.int .i64) [] true), []⟩
end Go.Abs.Farm
end

section
/- Conditions and their equations, printed by a program. -/
open Go.Proofs
set_option maxRecDepth 100000
set_option linter.unusedVariables false
namespace Go.Abs.Farm
def vc7 (pr : Int) (cl : List Int) (by8 : List Int) (k : AVal → List Cont → Prop) : Prop :=
  (Go.Abs.Farm.v42.p (pr, (cl, ()))) ∧
  br (((Bool.not (Go.Abs.Farm.fine pr cl)) == Bool.false))
   (br ((decide ((((List.length by8) : Nat) : Int) > (20 : Int))))
    ((Go.Abs.Farm.v17.p ()) ∧
    (k (Go.Abs.AVal.bool Bool.true) []))
    ((Go.Abs.Farm.v43.p (pr, (cl, ()))) ∧
    (Go.Abs.Farm.v44.p (pr, (cl, (by8, ())))) ∧
    (Go.Abs.Farm.v33c.p (pr, (cl, ((Go.Abs.Farm.given pr cl by8), ())))) ∧
    br ((Go.Abs.Farm.feZ pr cl (Go.Abs.Farm.given pr cl by8)))
     ((Go.Abs.Farm.v29c.p (pr, (cl, ((Go.Abs.Farm.given pr cl by8), ())))) ∧
     br ((Go.Abs.Farm.feZ pr cl (Go.Abs.Farm.given pr cl by8)))
      ((Go.Abs.Farm.v35c.p (pr, (cl, ((Go.Abs.Farm.given pr cl by8), ())))) ∧
      br ((Go.Abs.Farm.dvZ pr cl (Go.Abs.Farm.given pr cl by8)))
       ((Go.Abs.Farm.v33c.p (pr, (cl, ((Go.Abs.Farm.fairOf pr cl), ())))) ∧
       br ((Go.Abs.Farm.feZ pr cl (Go.Abs.Farm.fairOf pr cl)))
        ((Go.Abs.Farm.v34c.p (pr, (cl, ((Go.Abs.Farm.fairOf pr cl), ())))) ∧
        br ((Go.Abs.Farm.feZ pr cl (Go.Abs.Farm.fairOf pr cl)))
         (Go.Abs.Loop (σ := ((List Int) × (Int × (Int × (Int × ((List Int) × ((List Int) × (Int × (Int × (Int × (Int × Unit))))))))))) (fun K4 x4 =>
           br ((decide (x4.2.2.1 < (((List.length x4.1) : Nat) : Int))))
            (∃ h6 : (((0 : Int) ≤ x4.2.2.1) ∧ ((Int.toNat x4.2.2.1) < (List.length x4.1))),
            (((0 : Int) ≤ x4.2.2.1) ∧ ((Int.toNat x4.2.2.1) < (List.length x4.2.2.2.2.2.1))) ∧
            ∃ h7 : ((Int.toNat x4.2.2.1) < (List.length x4.2.2.2.2.2.1)),
            (Go.Abs.fitsK Go.IntKind.i64 ((x4.1[(Int.toNat x4.2.2.1)]'h6.2) - (x4.2.2.2.2.2.1[(Int.toNat x4.2.2.1)]'h7))) ∧
            br (((decide (((x4.1[(Int.toNat x4.2.2.1)]'h6.2) - (x4.2.2.2.2.2.1[(Int.toNat x4.2.2.1)]'h7)) > (1 : Int))) == Bool.false))
             ((((0 : Int) ≤ x4.2.2.1) ∧ ((Int.toNat x4.2.2.1) < (List.length x4.2.2.2.2.2.1))) ∧
             ∃ h8 : ((Int.toNat x4.2.2.1) < (List.length x4.2.2.2.2.2.1)),
             ∃ h9 : (((0 : Int) ≤ x4.2.2.1) ∧ ((Int.toNat x4.2.2.1) < (List.length x4.1))),
             (Go.Abs.fitsK Go.IntKind.i64 ((x4.2.2.2.2.2.1[(Int.toNat x4.2.2.1)]'h8) - (x4.1[(Int.toNat x4.2.2.1)]'h9.2))) ∧
             br ((decide (((x4.2.2.2.2.2.1[(Int.toNat x4.2.2.1)]'h8) - (x4.1[(Int.toNat x4.2.2.1)]'h9.2)) > (1 : Int))))
              ((k (Go.Abs.AVal.bool Bool.false) []))
              ((Go.Abs.fitsK Go.IntKind.i64 (x4.2.2.1 + (1 : Int))) ∧
              (K4 (x4.1, (x4.2.1, ((x4.2.2.1 + (1 : Int)), (x4.2.2.2.1, (x4.2.2.2.2.1, (x4.2.2.2.2.2.1, (x4.2.2.2.2.2.2.1, (x4.2.2.2.2.2.2.2.1, (x4.2.2.2.2.2.2.2.2.1, (x4.2.2.2.2.2.2.2.2.2.1, ())))))))))))))
             ((k (Go.Abs.AVal.bool Bool.false) [])))
            (br (((x4.2.1 != (0 : Int)) == Bool.false))
             (br ((x4.2.2.2.1 == (0 : Int)))
              ((Go.Abs.Farm.v17.p ()) ∧
              (k (Go.Abs.AVal.bool Bool.true) []))
              (br (((decide (x4.2.2.2.2.2.2.2.2.1 < (1 : Int))) == Bool.false))
               (br (((decide (x4.2.2.2.2.2.2.2.2.1 > (100 : Int))) == Bool.false))
                (br (((decide (x4.2.2.2.2.2.2.2.2.2.1 < (1 : Int))) == Bool.false))
                 (br (((decide (x4.2.2.2.2.2.2.2.2.2.1 > (200 : Int))) == Bool.false))
                  (br (((decide (x4.2.2.2.2.2.2.1 < (0 : Int))) == Bool.false))
                   (br (((decide (x4.2.2.2.2.2.2.1 > (100 : Int))) == Bool.false))
                    (br (((decide (x4.2.2.2.2.2.2.2.1 < (1 : Int))) == Bool.false))
                     (br (((decide (x4.2.2.2.2.2.2.2.1 > (201 : Int))) == Bool.false))
                      ((Go.Abs.fitsK Go.IntKind.i64 (x4.2.2.2.2.2.2.1 * x4.2.2.2.2.2.2.2.2.2.1)) ∧
                      (Go.Abs.fitsK Go.IntKind.i64 (x4.2.2.2.2.2.2.2.2.1 * x4.2.2.2.2.2.2.2.1)) ∧
                      br ((decide ((x4.2.2.2.2.2.2.1 * x4.2.2.2.2.2.2.2.2.2.1) ≥ (x4.2.2.2.2.2.2.2.2.1 * x4.2.2.2.2.2.2.2.1))))
                       ((k (Go.Abs.AVal.bool Bool.false) []))
                       (Go.Abs.Loop (σ := ((List Int) × (Int × (Int × ((List Int) × (Int × (Int × (Int × (Int × Unit))))))))) (fun K6 x6 =>
                         br ((decide (x6.2.1 < (((List.length x6.1) : Nat) : Int))))
                          (∃ h8 : (((0 : Int) ≤ x6.2.1) ∧ ((Int.toNat x6.2.1) < (List.length x6.1))),
                          ∃ h9 : (((0 : Int) ≤ x6.2.1) ∧ ((Int.toNat x6.2.1) < (List.length x6.2.2.2.1))),
                          (Go.Abs.fitsK Go.IntKind.i64 ((x6.2.2.2.1[(Int.toNat x6.2.1)]'h9.2) * x6.2.2.2.2.2.2.2.1)) ∧
                          (((0 : Int) ≤ ((x6.2.2.2.1[(Int.toNat x6.2.1)]'h9.2) * x6.2.2.2.2.2.2.2.1)) ∧ (((0 : Int) < x6.2.2.2.2.2.2.1) ∧ (Go.Abs.fitsK Go.IntKind.i64 (HDiv.hDiv ((x6.2.2.2.1[(Int.toNat x6.2.1)]'h9.2) * x6.2.2.2.2.2.2.2.1) x6.2.2.2.2.2.2.1)))) ∧
                          br ((((x6.1[(Int.toNat x6.2.1)]'h8.2) != (HDiv.hDiv ((x6.2.2.2.1[(Int.toNat x6.2.1)]'h9.2) * x6.2.2.2.2.2.2.2.1) x6.2.2.2.2.2.2.1)) == Bool.false))
                           (br (((decide (x6.2.2.2.2.1 > (0 : Int))) == Bool.true))
                            (∃ h10 : (((0 : Int) ≤ x6.2.1) ∧ ((Int.toNat x6.2.1) < (List.length x6.2.2.2.1))),
                            (Go.Abs.fitsK Go.IntKind.i64 ((x6.2.2.2.1[(Int.toNat x6.2.1)]'h10.2) * x6.2.2.2.2.2.1)) ∧
                            (((0 : Int) ≤ ((x6.2.2.2.1[(Int.toNat x6.2.1)]'h10.2) * x6.2.2.2.2.2.1)) ∧ (((0 : Int) < x6.2.2.2.2.1) ∧ (Go.Abs.fitsK Go.IntKind.i64 (HDiv.hDiv ((x6.2.2.2.1[(Int.toNat x6.2.1)]'h10.2) * x6.2.2.2.2.2.1) x6.2.2.2.2.1)))) ∧
                            ∃ h11 : (((0 : Int) ≤ x6.2.1) ∧ ((Int.toNat x6.2.1) < (List.length x6.1))),
                            (Go.Abs.fitsK Go.IntKind.i64 ((x6.1[(Int.toNat x6.2.1)]'h11.2) + (1 : Int))) ∧
                            br ((decide ((HDiv.hDiv ((x6.2.2.2.1[(Int.toNat x6.2.1)]'h10.2) * x6.2.2.2.2.2.1) x6.2.2.2.2.1) > ((x6.1[(Int.toNat x6.2.1)]'h11.2) + (1 : Int)))))
                             ((k (Go.Abs.AVal.bool Bool.false) []))
                             ((Go.Abs.fitsK Go.IntKind.i64 (x6.2.1 + (1 : Int))) ∧
                             (K6 (x6.1, ((x6.2.1 + (1 : Int)), (x6.2.2.1, (x6.2.2.2.1, (x6.2.2.2.2.1, (x6.2.2.2.2.2.1, (x6.2.2.2.2.2.2.1, (x6.2.2.2.2.2.2.2.1, ())))))))))))
                            ((Go.Abs.fitsK Go.IntKind.i64 (x6.2.1 + (1 : Int))) ∧
                            (K6 (x6.1, ((x6.2.1 + (1 : Int)), (x6.2.2.1, (x6.2.2.2.1, (x6.2.2.2.2.1, (x6.2.2.2.2.2.1, (x6.2.2.2.2.2.2.1, (x6.2.2.2.2.2.2.2.1, ())))))))))))
                           ((k (Go.Abs.AVal.bool Bool.false) [])))
                          ((Go.Abs.Farm.v17.p ()) ∧
                          (k (Go.Abs.AVal.bool Bool.true) []))) ((x4.1, ((0 : Int), (x4.2.2.2.1, (x4.2.2.2.2.1, (x4.2.2.2.2.2.2.1, (x4.2.2.2.2.2.2.2.1, (x4.2.2.2.2.2.2.2.2.1, (x4.2.2.2.2.2.2.2.2.2.1, ())))))))))))
                      ((k (Go.Abs.AVal.bool Bool.false) [])))
                     ((k (Go.Abs.AVal.bool Bool.false) [])))
                    ((k (Go.Abs.AVal.bool Bool.false) [])))
                   ((k (Go.Abs.AVal.bool Bool.false) [])))
                  ((k (Go.Abs.AVal.bool Bool.false) [])))
                 ((k (Go.Abs.AVal.bool Bool.false) [])))
                ((k (Go.Abs.AVal.bool Bool.false) [])))
               ((k (Go.Abs.AVal.bool Bool.false) []))))
             ((Go.Abs.Farm.v17.p ()) ∧
             (k (Go.Abs.AVal.bool Bool.true) [])))) (((Go.Abs.Farm.given pr cl by8), ((0 : Int), ((0 : Int), (pr, (cl, ((Go.Abs.Farm.fairOf pr cl), ((Go.Abs.Farm.divLN pr cl (Go.Abs.Farm.given pr cl by8)), ((Go.Abs.Farm.divLD pr cl (Go.Abs.Farm.given pr cl by8)), ((Go.Abs.Farm.divHN pr cl (Go.Abs.Farm.given pr cl by8)), ((Go.Abs.Farm.divHD pr cl (Go.Abs.Farm.given pr cl by8)), ()))))))))))))
         ((k (Go.Abs.AVal.bool Bool.false) [])))
        ((k (Go.Abs.AVal.bool Bool.false) [])))
       ((Go.Abs.Farm.v33c.p (pr, (cl, ((Go.Abs.Farm.fairOf pr cl), ())))) ∧
       br ((Go.Abs.Farm.feZ pr cl (Go.Abs.Farm.fairOf pr cl)))
        ((Go.Abs.Farm.v34c.p (pr, (cl, ((Go.Abs.Farm.fairOf pr cl), ())))) ∧
        br ((Go.Abs.Farm.feZ pr cl (Go.Abs.Farm.fairOf pr cl)))
         (Go.Abs.Loop (σ := ((List Int) × (Int × (Int × (Int × ((List Int) × ((List Int) × (Int × (Int × (Int × (Int × Unit))))))))))) (fun K4 x4 =>
           br ((decide (x4.2.2.1 < (((List.length x4.1) : Nat) : Int))))
            (∃ h6 : (((0 : Int) ≤ x4.2.2.1) ∧ ((Int.toNat x4.2.2.1) < (List.length x4.1))),
            (((0 : Int) ≤ x4.2.2.1) ∧ ((Int.toNat x4.2.2.1) < (List.length x4.2.2.2.2.2.1))) ∧
            ∃ h7 : ((Int.toNat x4.2.2.1) < (List.length x4.2.2.2.2.2.1)),
            (Go.Abs.fitsK Go.IntKind.i64 ((x4.1[(Int.toNat x4.2.2.1)]'h6.2) - (x4.2.2.2.2.2.1[(Int.toNat x4.2.2.1)]'h7))) ∧
            br (((decide (((x4.1[(Int.toNat x4.2.2.1)]'h6.2) - (x4.2.2.2.2.2.1[(Int.toNat x4.2.2.1)]'h7)) > (1 : Int))) == Bool.false))
             ((((0 : Int) ≤ x4.2.2.1) ∧ ((Int.toNat x4.2.2.1) < (List.length x4.2.2.2.2.2.1))) ∧
             ∃ h8 : ((Int.toNat x4.2.2.1) < (List.length x4.2.2.2.2.2.1)),
             ∃ h9 : (((0 : Int) ≤ x4.2.2.1) ∧ ((Int.toNat x4.2.2.1) < (List.length x4.1))),
             (Go.Abs.fitsK Go.IntKind.i64 ((x4.2.2.2.2.2.1[(Int.toNat x4.2.2.1)]'h8) - (x4.1[(Int.toNat x4.2.2.1)]'h9.2))) ∧
             br ((decide (((x4.2.2.2.2.2.1[(Int.toNat x4.2.2.1)]'h8) - (x4.1[(Int.toNat x4.2.2.1)]'h9.2)) > (1 : Int))))
              ((k (Go.Abs.AVal.bool Bool.false) []))
              ((Go.Abs.fitsK Go.IntKind.i64 (x4.2.2.1 + (1 : Int))) ∧
              (K4 (x4.1, (x4.2.1, ((x4.2.2.1 + (1 : Int)), (x4.2.2.2.1, (x4.2.2.2.2.1, (x4.2.2.2.2.2.1, (x4.2.2.2.2.2.2.1, (x4.2.2.2.2.2.2.2.1, (x4.2.2.2.2.2.2.2.2.1, (x4.2.2.2.2.2.2.2.2.2.1, ())))))))))))))
             ((k (Go.Abs.AVal.bool Bool.false) [])))
            (br (((x4.2.1 != (0 : Int)) == Bool.false))
             (br ((x4.2.2.2.1 == (0 : Int)))
              ((Go.Abs.Farm.v17.p ()) ∧
              (k (Go.Abs.AVal.bool Bool.true) []))
              (br (((decide (x4.2.2.2.2.2.2.2.2.1 < (1 : Int))) == Bool.false))
               (br (((decide (x4.2.2.2.2.2.2.2.2.1 > (100 : Int))) == Bool.false))
                (br (((decide (x4.2.2.2.2.2.2.2.2.2.1 < (1 : Int))) == Bool.false))
                 (br (((decide (x4.2.2.2.2.2.2.2.2.2.1 > (200 : Int))) == Bool.false))
                  (br (((decide (x4.2.2.2.2.2.2.1 < (0 : Int))) == Bool.false))
                   (br (((decide (x4.2.2.2.2.2.2.1 > (100 : Int))) == Bool.false))
                    (br (((decide (x4.2.2.2.2.2.2.2.1 < (1 : Int))) == Bool.false))
                     (br (((decide (x4.2.2.2.2.2.2.2.1 > (201 : Int))) == Bool.false))
                      ((Go.Abs.fitsK Go.IntKind.i64 (x4.2.2.2.2.2.2.1 * x4.2.2.2.2.2.2.2.2.2.1)) ∧
                      (Go.Abs.fitsK Go.IntKind.i64 (x4.2.2.2.2.2.2.2.2.1 * x4.2.2.2.2.2.2.2.1)) ∧
                      br ((decide ((x4.2.2.2.2.2.2.1 * x4.2.2.2.2.2.2.2.2.2.1) ≥ (x4.2.2.2.2.2.2.2.2.1 * x4.2.2.2.2.2.2.2.1))))
                       ((k (Go.Abs.AVal.bool Bool.false) []))
                       (Go.Abs.Loop (σ := ((List Int) × (Int × (Int × ((List Int) × (Int × (Int × (Int × (Int × Unit))))))))) (fun K6 x6 =>
                         br ((decide (x6.2.1 < (((List.length x6.1) : Nat) : Int))))
                          (∃ h8 : (((0 : Int) ≤ x6.2.1) ∧ ((Int.toNat x6.2.1) < (List.length x6.1))),
                          ∃ h9 : (((0 : Int) ≤ x6.2.1) ∧ ((Int.toNat x6.2.1) < (List.length x6.2.2.2.1))),
                          (Go.Abs.fitsK Go.IntKind.i64 ((x6.2.2.2.1[(Int.toNat x6.2.1)]'h9.2) * x6.2.2.2.2.2.2.2.1)) ∧
                          (((0 : Int) ≤ ((x6.2.2.2.1[(Int.toNat x6.2.1)]'h9.2) * x6.2.2.2.2.2.2.2.1)) ∧ (((0 : Int) < x6.2.2.2.2.2.2.1) ∧ (Go.Abs.fitsK Go.IntKind.i64 (HDiv.hDiv ((x6.2.2.2.1[(Int.toNat x6.2.1)]'h9.2) * x6.2.2.2.2.2.2.2.1) x6.2.2.2.2.2.2.1)))) ∧
                          br ((((x6.1[(Int.toNat x6.2.1)]'h8.2) != (HDiv.hDiv ((x6.2.2.2.1[(Int.toNat x6.2.1)]'h9.2) * x6.2.2.2.2.2.2.2.1) x6.2.2.2.2.2.2.1)) == Bool.false))
                           (br (((decide (x6.2.2.2.2.1 > (0 : Int))) == Bool.true))
                            (∃ h10 : (((0 : Int) ≤ x6.2.1) ∧ ((Int.toNat x6.2.1) < (List.length x6.2.2.2.1))),
                            (Go.Abs.fitsK Go.IntKind.i64 ((x6.2.2.2.1[(Int.toNat x6.2.1)]'h10.2) * x6.2.2.2.2.2.1)) ∧
                            (((0 : Int) ≤ ((x6.2.2.2.1[(Int.toNat x6.2.1)]'h10.2) * x6.2.2.2.2.2.1)) ∧ (((0 : Int) < x6.2.2.2.2.1) ∧ (Go.Abs.fitsK Go.IntKind.i64 (HDiv.hDiv ((x6.2.2.2.1[(Int.toNat x6.2.1)]'h10.2) * x6.2.2.2.2.2.1) x6.2.2.2.2.1)))) ∧
                            ∃ h11 : (((0 : Int) ≤ x6.2.1) ∧ ((Int.toNat x6.2.1) < (List.length x6.1))),
                            (Go.Abs.fitsK Go.IntKind.i64 ((x6.1[(Int.toNat x6.2.1)]'h11.2) + (1 : Int))) ∧
                            br ((decide ((HDiv.hDiv ((x6.2.2.2.1[(Int.toNat x6.2.1)]'h10.2) * x6.2.2.2.2.2.1) x6.2.2.2.2.1) > ((x6.1[(Int.toNat x6.2.1)]'h11.2) + (1 : Int)))))
                             ((k (Go.Abs.AVal.bool Bool.false) []))
                             ((Go.Abs.fitsK Go.IntKind.i64 (x6.2.1 + (1 : Int))) ∧
                             (K6 (x6.1, ((x6.2.1 + (1 : Int)), (x6.2.2.1, (x6.2.2.2.1, (x6.2.2.2.2.1, (x6.2.2.2.2.2.1, (x6.2.2.2.2.2.2.1, (x6.2.2.2.2.2.2.2.1, ())))))))))))
                            ((Go.Abs.fitsK Go.IntKind.i64 (x6.2.1 + (1 : Int))) ∧
                            (K6 (x6.1, ((x6.2.1 + (1 : Int)), (x6.2.2.1, (x6.2.2.2.1, (x6.2.2.2.2.1, (x6.2.2.2.2.2.1, (x6.2.2.2.2.2.2.1, (x6.2.2.2.2.2.2.2.1, ())))))))))))
                           ((k (Go.Abs.AVal.bool Bool.false) [])))
                          ((Go.Abs.Farm.v17.p ()) ∧
                          (k (Go.Abs.AVal.bool Bool.true) []))) ((x4.1, ((0 : Int), (x4.2.2.2.1, (x4.2.2.2.2.1, (x4.2.2.2.2.2.2.1, (x4.2.2.2.2.2.2.2.1, (x4.2.2.2.2.2.2.2.2.1, (x4.2.2.2.2.2.2.2.2.2.1, ())))))))))))
                      ((k (Go.Abs.AVal.bool Bool.false) [])))
                     ((k (Go.Abs.AVal.bool Bool.false) [])))
                    ((k (Go.Abs.AVal.bool Bool.false) [])))
                   ((k (Go.Abs.AVal.bool Bool.false) [])))
                  ((k (Go.Abs.AVal.bool Bool.false) [])))
                 ((k (Go.Abs.AVal.bool Bool.false) [])))
                ((k (Go.Abs.AVal.bool Bool.false) [])))
               ((k (Go.Abs.AVal.bool Bool.false) []))))
             ((Go.Abs.Farm.v17.p ()) ∧
             (k (Go.Abs.AVal.bool Bool.true) [])))) (((Go.Abs.Farm.given pr cl by8), ((24 : Int), ((0 : Int), (pr, (cl, ((Go.Abs.Farm.fairOf pr cl), ((0 : Int), ((0 : Int), ((0 : Int), ((0 : Int), ()))))))))))))
         ((k (Go.Abs.AVal.bool Bool.false) [])))
        ((k (Go.Abs.AVal.bool Bool.false) []))))
      ((Go.Abs.Farm.v35c.p (pr, (cl, ((Go.Abs.Farm.given pr cl by8), ())))) ∧
      br ((Go.Abs.Farm.dvZ pr cl (Go.Abs.Farm.given pr cl by8)))
       ((Go.Abs.Farm.v33c.p (pr, (cl, ((Go.Abs.Farm.fairOf pr cl), ())))) ∧
       br ((Go.Abs.Farm.feZ pr cl (Go.Abs.Farm.fairOf pr cl)))
        ((Go.Abs.Farm.v34c.p (pr, (cl, ((Go.Abs.Farm.fairOf pr cl), ())))) ∧
        br ((Go.Abs.Farm.feZ pr cl (Go.Abs.Farm.fairOf pr cl)))
         ((k (Go.Abs.AVal.bool Bool.false) []))
         ((k (Go.Abs.AVal.bool Bool.false) [])))
        ((k (Go.Abs.AVal.bool Bool.false) [])))
       ((Go.Abs.Farm.v33c.p (pr, (cl, ((Go.Abs.Farm.fairOf pr cl), ())))) ∧
       br ((Go.Abs.Farm.feZ pr cl (Go.Abs.Farm.fairOf pr cl)))
        ((Go.Abs.Farm.v34c.p (pr, (cl, ((Go.Abs.Farm.fairOf pr cl), ())))) ∧
        br ((Go.Abs.Farm.feZ pr cl (Go.Abs.Farm.fairOf pr cl)))
         ((k (Go.Abs.AVal.bool Bool.false) []))
         ((k (Go.Abs.AVal.bool Bool.false) [])))
        ((k (Go.Abs.AVal.bool Bool.false) [])))))
     ((Go.Abs.Farm.v29c.p (pr, (cl, ((Go.Abs.Farm.given pr cl by8), ())))) ∧
     br ((Go.Abs.Farm.feZ pr cl (Go.Abs.Farm.given pr cl by8)))
      ((Go.Abs.Farm.v35c.p (pr, (cl, ((Go.Abs.Farm.given pr cl by8), ())))) ∧
      br ((Go.Abs.Farm.dvZ pr cl (Go.Abs.Farm.given pr cl by8)))
       ((Go.Abs.Farm.v33c.p (pr, (cl, ((Go.Abs.Farm.fairOf pr cl), ())))) ∧
       br ((Go.Abs.Farm.feZ pr cl (Go.Abs.Farm.fairOf pr cl)))
        ((Go.Abs.Farm.v34c.p (pr, (cl, ((Go.Abs.Farm.fairOf pr cl), ())))) ∧
        br ((Go.Abs.Farm.feZ pr cl (Go.Abs.Farm.fairOf pr cl)))
         ((k (Go.Abs.AVal.bool Bool.false) []))
         ((k (Go.Abs.AVal.bool Bool.false) [])))
        ((k (Go.Abs.AVal.bool Bool.false) [])))
       ((Go.Abs.Farm.v33c.p (pr, (cl, ((Go.Abs.Farm.fairOf pr cl), ())))) ∧
       br ((Go.Abs.Farm.feZ pr cl (Go.Abs.Farm.fairOf pr cl)))
        ((Go.Abs.Farm.v34c.p (pr, (cl, ((Go.Abs.Farm.fairOf pr cl), ())))) ∧
        br ((Go.Abs.Farm.feZ pr cl (Go.Abs.Farm.fairOf pr cl)))
         ((k (Go.Abs.AVal.bool Bool.false) []))
         ((k (Go.Abs.AVal.bool Bool.false) [])))
        ((k (Go.Abs.AVal.bool Bool.false) []))))
      ((Go.Abs.Farm.v35c.p (pr, (cl, ((Go.Abs.Farm.given pr cl by8), ())))) ∧
      br ((Go.Abs.Farm.dvZ pr cl (Go.Abs.Farm.given pr cl by8)))
       ((Go.Abs.Farm.v33c.p (pr, (cl, ((Go.Abs.Farm.fairOf pr cl), ())))) ∧
       br ((Go.Abs.Farm.feZ pr cl (Go.Abs.Farm.fairOf pr cl)))
        ((Go.Abs.Farm.v34c.p (pr, (cl, ((Go.Abs.Farm.fairOf pr cl), ())))) ∧
        br ((Go.Abs.Farm.feZ pr cl (Go.Abs.Farm.fairOf pr cl)))
         ((k (Go.Abs.AVal.bool Bool.false) []))
         ((k (Go.Abs.AVal.bool Bool.false) [])))
        ((k (Go.Abs.AVal.bool Bool.false) [])))
       ((Go.Abs.Farm.v33c.p (pr, (cl, ((Go.Abs.Farm.fairOf pr cl), ())))) ∧
       br ((Go.Abs.Farm.feZ pr cl (Go.Abs.Farm.fairOf pr cl)))
        ((Go.Abs.Farm.v34c.p (pr, (cl, ((Go.Abs.Farm.fairOf pr cl), ())))) ∧
        br ((Go.Abs.Farm.feZ pr cl (Go.Abs.Farm.fairOf pr cl)))
         (br (((decide ((Go.Abs.Farm.compA pr cl (Go.Abs.Farm.given pr cl by8)) ≥ (0 : Int))) == Bool.true))
          (br (((decide ((Go.Abs.Farm.compA pr cl (Go.Abs.Farm.given pr cl by8)) < (((List.length (Go.Abs.Farm.given pr cl by8)) : Nat) : Int))) == Bool.true))
           (br (((decide ((Go.Abs.Farm.compB pr cl (Go.Abs.Farm.given pr cl by8)) ≥ (0 : Int))) == Bool.true))
            (br (((decide ((Go.Abs.Farm.compB pr cl (Go.Abs.Farm.given pr cl by8)) < (((List.length (Go.Abs.Farm.given pr cl by8)) : Nat) : Int))) == Bool.true))
             (br ((((Go.Abs.Farm.compA pr cl (Go.Abs.Farm.given pr cl by8)) != (Go.Abs.Farm.compB pr cl (Go.Abs.Farm.given pr cl by8))) == Bool.true))
              (∃ h4 : (((0 : Int) ≤ (Go.Abs.Farm.compB pr cl (Go.Abs.Farm.given pr cl by8))) ∧ ((Int.toNat (Go.Abs.Farm.compB pr cl (Go.Abs.Farm.given pr cl by8))) < (List.length (Go.Abs.Farm.given pr cl by8)))),
              br (((decide (((Go.Abs.Farm.given pr cl by8)[(Int.toNat (Go.Abs.Farm.compB pr cl (Go.Abs.Farm.given pr cl by8)))]'h4.2) > (0 : Int))) == Bool.true))
               (∃ h5 : (((0 : Int) ≤ (Go.Abs.Farm.compA pr cl (Go.Abs.Farm.given pr cl by8))) ∧ ((Int.toNat (Go.Abs.Farm.compA pr cl (Go.Abs.Farm.given pr cl by8))) < (List.length cl))),
               ∃ h6 : (((0 : Int) ≤ (Go.Abs.Farm.compB pr cl (Go.Abs.Farm.given pr cl by8))) ∧ ((Int.toNat (Go.Abs.Farm.compB pr cl (Go.Abs.Farm.given pr cl by8))) < (List.length (Go.Abs.Farm.given pr cl by8)))),
               (Go.Abs.fitsK Go.IntKind.i64 ((cl[(Int.toNat (Go.Abs.Farm.compA pr cl (Go.Abs.Farm.given pr cl by8)))]'h5.2) * ((Go.Abs.Farm.given pr cl by8)[(Int.toNat (Go.Abs.Farm.compB pr cl (Go.Abs.Farm.given pr cl by8)))]'h6.2))) ∧
               ∃ h7 : (((0 : Int) ≤ (Go.Abs.Farm.compB pr cl (Go.Abs.Farm.given pr cl by8))) ∧ ((Int.toNat (Go.Abs.Farm.compB pr cl (Go.Abs.Farm.given pr cl by8))) < (List.length cl))),
               ∃ h8 : (((0 : Int) ≤ (Go.Abs.Farm.compA pr cl (Go.Abs.Farm.given pr cl by8))) ∧ ((Int.toNat (Go.Abs.Farm.compA pr cl (Go.Abs.Farm.given pr cl by8))) < (List.length (Go.Abs.Farm.given pr cl by8)))),
               (Go.Abs.fitsK Go.IntKind.i64 (((Go.Abs.Farm.given pr cl by8)[(Int.toNat (Go.Abs.Farm.compA pr cl (Go.Abs.Farm.given pr cl by8)))]'h8.2) + (1 : Int))) ∧
               (Go.Abs.fitsK Go.IntKind.i64 ((cl[(Int.toNat (Go.Abs.Farm.compB pr cl (Go.Abs.Farm.given pr cl by8)))]'h7.2) * (((Go.Abs.Farm.given pr cl by8)[(Int.toNat (Go.Abs.Farm.compA pr cl (Go.Abs.Farm.given pr cl by8)))]'h8.2) + (1 : Int)))) ∧
               br (((decide (((cl[(Int.toNat (Go.Abs.Farm.compA pr cl (Go.Abs.Farm.given pr cl by8)))]'h5.2) * ((Go.Abs.Farm.given pr cl by8)[(Int.toNat (Go.Abs.Farm.compB pr cl (Go.Abs.Farm.given pr cl by8)))]'h6.2)) > ((cl[(Int.toNat (Go.Abs.Farm.compB pr cl (Go.Abs.Farm.given pr cl by8)))]'h7.2) * (((Go.Abs.Farm.given pr cl by8)[(Int.toNat (Go.Abs.Farm.compA pr cl (Go.Abs.Farm.given pr cl by8)))]'h8.2) + (1 : Int))))) == Bool.true))
                ((Go.Abs.Farm.v17.p ()) ∧
                (k (Go.Abs.AVal.bool Bool.true) []))
                ((k (Go.Abs.AVal.bool Bool.false) [])))
               ((k (Go.Abs.AVal.bool Bool.false) [])))
              ((k (Go.Abs.AVal.bool Bool.false) [])))
             ((k (Go.Abs.AVal.bool Bool.false) [])))
            ((k (Go.Abs.AVal.bool Bool.false) [])))
           ((k (Go.Abs.AVal.bool Bool.false) [])))
          ((k (Go.Abs.AVal.bool Bool.false) [])))
         ((k (Go.Abs.AVal.bool Bool.false) [])))
        ((k (Go.Abs.AVal.bool Bool.false) [])))))))
   ((Go.Abs.Farm.v17.p ()) ∧
   (k (Go.Abs.AVal.bool Bool.true) []))
theorem eq7 (pr : Int) (cl : List Int) (by8 : List Int) (k : AVal → List Cont → Prop) : awpF (envOf [(42, mkC [v42]), (17, mkC [v17]), (43, mkC [v43]), (44, mkC [v44]), (33, mkC [v33c]), (29, mkC [v29c]), (35, mkC [v35c]), (34, mkC [v34c])]) Try.prog kt 7 false Try.f7 (v7.args (pr, cl, by8, ())) (v7.conts (pr, cl, by8, ())) k = vc7 pr cl by8 k := by kernel_rfl
theorem tx7 : (Try.f7.body.map Code.textsOk).getD true = true := by kernel_rfl

def vc12 (pr : Int) (cl : List Int) (u w : Int) (k : AVal → List Cont → Prop) : Prop :=
  (Go.Abs.Farm.v42.p (pr, (cl, ()))) ∧
  br ((Bool.not (Go.Abs.Farm.fine pr cl)))
   ((Go.Abs.Farm.v17.p ()) ∧
   (k (Go.Abs.AVal.bool Bool.true) []))
   ((Go.Abs.fitsK Go.IntKind.i64 u) ∧
   (((0 : Int) ≤ u) ∧ ((0 : Int) < (((List.length cl) : Nat) : Int))) ∧
   True ∧
   (((List.length ([] : List Int)) + (List.length cl)) ≤ Go.Abs.big) ∧
   ((0 : Nat) < (List.length cl)) ∧
   (((0 : Int) ≤ (HMod.hMod u (((List.length cl) : Nat) : Int))) ∧ ((Int.toNat (HMod.hMod u (((List.length cl) : Nat) : Int))) < (List.length (([] : List Int) ++ cl)))) ∧
   ∃ h5 : ((Int.toNat (HMod.hMod u (((List.length cl) : Nat) : Int))) < (List.length (([] : List Int) ++ cl))),
   (Go.Abs.fitsK Go.IntKind.i64 w) ∧
   (Go.Abs.fitsK Go.IntKind.i64 (((([] : List Int) ++ cl)[(Int.toNat (HMod.hMod u (((List.length cl) : Nat) : Int)))]'h5) + w)) ∧
   (((0 : Int) ≤ (HMod.hMod u (((List.length cl) : Nat) : Int))) ∧ ((Int.toNat (HMod.hMod u (((List.length cl) : Nat) : Int))) < (List.length (([] : List Int) ++ cl)))) ∧
   ∃ h6 : ((Int.toNat (HMod.hMod u (((List.length cl) : Nat) : Int))) < (List.length (([] : List Int) ++ cl))),
   (Go.Abs.Farm.v43.p (pr, (cl, ()))) ∧
   (Go.Abs.Farm.v43.p (pr, ((List.set (([] : List Int) ++ cl) (Int.toNat (HMod.hMod u (((List.length cl) : Nat) : Int))) (ite ((((([] : List Int) ++ cl)[(Int.toNat (HMod.hMod u (((List.length cl) : Nat) : Int)))]'h5) + w) < (100 : Int)) (((([] : List Int) ++ cl)[(Int.toNat (HMod.hMod u (((List.length cl) : Nat) : Int)))]'h5) + w) (100 : Int))), ()))) ∧
   (((0 : Int) ≤ (HMod.hMod u (((List.length cl) : Nat) : Int))) ∧ ((Int.toNat (HMod.hMod u (((List.length cl) : Nat) : Int))) < (List.length (Go.Abs.Farm.fairOf pr (List.set (([] : List Int) ++ cl) (Int.toNat (HMod.hMod u (((List.length cl) : Nat) : Int))) (ite ((((([] : List Int) ++ cl)[(Int.toNat (HMod.hMod u (((List.length cl) : Nat) : Int)))]'h5) + w) < (100 : Int)) (((([] : List Int) ++ cl)[(Int.toNat (HMod.hMod u (((List.length cl) : Nat) : Int)))]'h5) + w) (100 : Int))))))) ∧
   ∃ h7 : ((Int.toNat (HMod.hMod u (((List.length cl) : Nat) : Int))) < (List.length (Go.Abs.Farm.fairOf pr (List.set (([] : List Int) ++ cl) (Int.toNat (HMod.hMod u (((List.length cl) : Nat) : Int))) (ite ((((([] : List Int) ++ cl)[(Int.toNat (HMod.hMod u (((List.length cl) : Nat) : Int)))]'h5) + w) < (100 : Int)) (((([] : List Int) ++ cl)[(Int.toNat (HMod.hMod u (((List.length cl) : Nat) : Int)))]'h5) + w) (100 : Int)))))),
   (((0 : Int) ≤ (HMod.hMod u (((List.length cl) : Nat) : Int))) ∧ ((Int.toNat (HMod.hMod u (((List.length cl) : Nat) : Int))) < (List.length (Go.Abs.Farm.fairOf pr cl)))) ∧
   ∃ h8 : ((Int.toNat (HMod.hMod u (((List.length cl) : Nat) : Int))) < (List.length (Go.Abs.Farm.fairOf pr cl))),
   br ((decide (((Go.Abs.Farm.fairOf pr (List.set (([] : List Int) ++ cl) (Int.toNat (HMod.hMod u (((List.length cl) : Nat) : Int))) (ite ((((([] : List Int) ++ cl)[(Int.toNat (HMod.hMod u (((List.length cl) : Nat) : Int)))]'h5) + w) < (100 : Int)) (((([] : List Int) ++ cl)[(Int.toNat (HMod.hMod u (((List.length cl) : Nat) : Int)))]'h5) + w) (100 : Int))))[(Int.toNat (HMod.hMod u (((List.length cl) : Nat) : Int)))]'h7) < ((Go.Abs.Farm.fairOf pr cl)[(Int.toNat (HMod.hMod u (((List.length cl) : Nat) : Int)))]'h8))))
    ((k (Go.Abs.AVal.bool Bool.false) []))
    (Go.Abs.Loop (σ := (Int × (Int × ((List Int) × ((List Int) × Unit))))) (fun K9 x9 =>
      br ((decide (x9.2.1 < (((List.length x9.2.2.1) : Nat) : Int))))
       (br (((x9.2.1 != x9.1) == Bool.true))
        ((((0 : Int) ≤ x9.2.1) ∧ ((Int.toNat x9.2.1) < (List.length x9.2.2.2.1))) ∧
        ∃ h11 : ((Int.toNat x9.2.1) < (List.length x9.2.2.2.1)),
        (((0 : Int) ≤ x9.2.1) ∧ ((Int.toNat x9.2.1) < (List.length x9.2.2.1))) ∧
        ∃ h12 : ((Int.toNat x9.2.1) < (List.length x9.2.2.1)),
        br ((decide ((x9.2.2.2.1[(Int.toNat x9.2.1)]'h11) > (x9.2.2.1[(Int.toNat x9.2.1)]'h12))))
         ((k (Go.Abs.AVal.bool Bool.false) []))
         ((Go.Abs.fitsK Go.IntKind.i64 (x9.2.1 + (1 : Int))) ∧
         (K9 (x9.1, ((x9.2.1 + (1 : Int)), (x9.2.2.1, (x9.2.2.2.1, ())))))))
        ((Go.Abs.fitsK Go.IntKind.i64 (x9.2.1 + (1 : Int))) ∧
        (K9 (x9.1, ((x9.2.1 + (1 : Int)), (x9.2.2.1, (x9.2.2.2.1, ())))))))
       ((Go.Abs.Farm.v17.p ()) ∧
       (k (Go.Abs.AVal.bool Bool.true) []))) (((HMod.hMod u (((List.length cl) : Nat) : Int)), ((0 : Int), ((Go.Abs.Farm.fairOf pr cl), ((Go.Abs.Farm.fairOf pr (List.set (([] : List Int) ++ cl) (Int.toNat (HMod.hMod u (((List.length cl) : Nat) : Int))) (ite ((((([] : List Int) ++ cl)[(Int.toNat (HMod.hMod u (((List.length cl) : Nat) : Int)))]'h5) + w) < (100 : Int)) (((([] : List Int) ++ cl)[(Int.toNat (HMod.hMod u (((List.length cl) : Nat) : Int)))]'h5) + w) (100 : Int)))), ())))))))
theorem eq12 (pr : Int) (cl : List Int) (u w : Int) (k : AVal → List Cont → Prop) : awpF (envOf [(42, mkC [v42]), (17, mkC [v17]), (49, cLongs), (43, mkC [v43])]) Try.prog kt 12 false Try.f12 (v12.args (pr, cl, u, w, ())) (v12.conts (pr, cl, u, w, ())) k = vc12 pr cl u w k := by kernel_rfl
theorem tx12 : (Try.f12.body.map Code.textsOk).getD true = true := by kernel_rfl

def vc14 (pr : Int) (cl : List Int) (u w : Int) (k : AVal → List Cont → Prop) : Prop :=
  (Go.Abs.Farm.v42.p (pr, (cl, ()))) ∧
  br (((Bool.not (Go.Abs.Farm.fine pr cl)) == Bool.false))
   (br ((decide ((((List.length cl) : Nat) : Int) < (2 : Int))))
    ((Go.Abs.Farm.v17.p ()) ∧
    (k (Go.Abs.AVal.bool Bool.true) []))
    ((Go.Abs.fitsK Go.IntKind.i64 u) ∧
    (Go.Abs.fitsK Go.IntKind.i64 ((((List.length cl) : Nat) : Int) - (1 : Int))) ∧
    (((0 : Int) ≤ u) ∧ ((0 : Int) < ((((List.length cl) : Nat) : Int) - (1 : Int)))) ∧
    (Go.Abs.fitsK Go.IntKind.i64 ((HMod.hMod u ((((List.length cl) : Nat) : Int) - (1 : Int))) + (1 : Int))) ∧
    (Go.Abs.fitsK Go.IntKind.i64 w) ∧
    (Go.Abs.fitsK Go.IntKind.i64 ((((List.length cl) : Nat) : Int) - (1 : Int))) ∧
    (Go.Abs.fitsK Go.IntKind.i64 (((((List.length cl) : Nat) : Int) - (1 : Int)) - (HMod.hMod u ((((List.length cl) : Nat) : Int) - (1 : Int))))) ∧
    (((0 : Int) ≤ w) ∧ ((0 : Int) < (((((List.length cl) : Nat) : Int) - (1 : Int)) - (HMod.hMod u ((((List.length cl) : Nat) : Int) - (1 : Int)))))) ∧
    (Go.Abs.fitsK Go.IntKind.i64 (((HMod.hMod u ((((List.length cl) : Nat) : Int) - (1 : Int))) + (1 : Int)) + (HMod.hMod w (((((List.length cl) : Nat) : Int) - (1 : Int)) - (HMod.hMod u ((((List.length cl) : Nat) : Int) - (1 : Int))))))) ∧
    True ∧
    (((List.length ([] : List Int)) + (List.length cl)) ≤ Go.Abs.big) ∧
    ((0 : Nat) < (List.length cl)) ∧
    (((0 : Int) ≤ (HMod.hMod u ((((List.length cl) : Nat) : Int) - (1 : Int)))) ∧ ((Int.toNat (HMod.hMod u ((((List.length cl) : Nat) : Int) - (1 : Int)))) < (List.length (([] : List Int) ++ cl)))) ∧
    ∃ h5 : ((Int.toNat (HMod.hMod u ((((List.length cl) : Nat) : Int) - (1 : Int)))) < (List.length (([] : List Int) ++ cl))),
    (((0 : Int) ≤ (((HMod.hMod u ((((List.length cl) : Nat) : Int) - (1 : Int))) + (1 : Int)) + (HMod.hMod w (((((List.length cl) : Nat) : Int) - (1 : Int)) - (HMod.hMod u ((((List.length cl) : Nat) : Int) - (1 : Int))))))) ∧ ((Int.toNat (((HMod.hMod u ((((List.length cl) : Nat) : Int) - (1 : Int))) + (1 : Int)) + (HMod.hMod w (((((List.length cl) : Nat) : Int) - (1 : Int)) - (HMod.hMod u ((((List.length cl) : Nat) : Int) - (1 : Int))))))) < (List.length (([] : List Int) ++ cl)))) ∧
    ∃ h6 : ((Int.toNat (((HMod.hMod u ((((List.length cl) : Nat) : Int) - (1 : Int))) + (1 : Int)) + (HMod.hMod w (((((List.length cl) : Nat) : Int) - (1 : Int)) - (HMod.hMod u ((((List.length cl) : Nat) : Int) - (1 : Int))))))) < (List.length (([] : List Int) ++ cl))),
    (Go.Abs.Farm.v42.p (pr, ((List.set (([] : List Int) ++ cl) (Int.toNat (((HMod.hMod u ((((List.length cl) : Nat) : Int) - (1 : Int))) + (1 : Int)) + (HMod.hMod w (((((List.length cl) : Nat) : Int) - (1 : Int)) - (HMod.hMod u ((((List.length cl) : Nat) : Int) - (1 : Int))))))) ((([] : List Int) ++ cl)[(Int.toNat (HMod.hMod u ((((List.length cl) : Nat) : Int) - (1 : Int))))]'h5)), ()))) ∧
    br ((Bool.not (Go.Abs.Farm.fine pr (List.set (([] : List Int) ++ cl) (Int.toNat (((HMod.hMod u ((((List.length cl) : Nat) : Int) - (1 : Int))) + (1 : Int)) + (HMod.hMod w (((((List.length cl) : Nat) : Int) - (1 : Int)) - (HMod.hMod u ((((List.length cl) : Nat) : Int) - (1 : Int))))))) ((([] : List Int) ++ cl)[(Int.toNat (HMod.hMod u ((((List.length cl) : Nat) : Int) - (1 : Int))))]'h5)))))
     ((Go.Abs.Farm.v17.p ()) ∧
     (k (Go.Abs.AVal.bool Bool.true) []))
     ((Go.Abs.Farm.v43.p (pr, ((List.set (([] : List Int) ++ cl) (Int.toNat (((HMod.hMod u ((((List.length cl) : Nat) : Int) - (1 : Int))) + (1 : Int)) + (HMod.hMod w (((((List.length cl) : Nat) : Int) - (1 : Int)) - (HMod.hMod u ((((List.length cl) : Nat) : Int) - (1 : Int))))))) ((([] : List Int) ++ cl)[(Int.toNat (HMod.hMod u ((((List.length cl) : Nat) : Int) - (1 : Int))))]'h5)), ()))) ∧
     (Go.Abs.Farm.v24.p (pr, ((List.set (([] : List Int) ++ cl) (Int.toNat (((HMod.hMod u ((((List.length cl) : Nat) : Int) - (1 : Int))) + (1 : Int)) + (HMod.hMod w (((((List.length cl) : Nat) : Int) - (1 : Int)) - (HMod.hMod u ((((List.length cl) : Nat) : Int) - (1 : Int))))))) ((([] : List Int) ++ cl)[(Int.toNat (HMod.hMod u ((((List.length cl) : Nat) : Int) - (1 : Int))))]'h5)), ()))) ∧
     (Go.Abs.Farm.v43.p (pr, (cl, ()))) ∧
     br ((((Go.Abs.Farm.yearErr pr (List.set (([] : List Int) ++ cl) (Int.toNat (((HMod.hMod u ((((List.length cl) : Nat) : Int) - (1 : Int))) + (1 : Int)) + (HMod.hMod w (((((List.length cl) : Nat) : Int) - (1 : Int)) - (HMod.hMod u ((((List.length cl) : Nat) : Int) - (1 : Int))))))) ((([] : List Int) ++ cl)[(Int.toNat (HMod.hMod u ((((List.length cl) : Nat) : Int) - (1 : Int))))]'h5))) != (0 : Int)) == Bool.false))
      (br ((((((List.length (Go.Abs.Farm.nearL pr (List.set (([] : List Int) ++ cl) (Int.toNat (((HMod.hMod u ((((List.length cl) : Nat) : Int) - (1 : Int))) + (1 : Int)) + (HMod.hMod w (((((List.length cl) : Nat) : Int) - (1 : Int)) - (HMod.hMod u ((((List.length cl) : Nat) : Int) - (1 : Int))))))) ((([] : List Int) ++ cl)[(Int.toNat (HMod.hMod u ((((List.length cl) : Nat) : Int) - (1 : Int))))]'h5)))) : Nat) : Int) != (((List.length cl) : Nat) : Int)) == Bool.false))
       ((((0 : Int) ≤ (HMod.hMod u ((((List.length cl) : Nat) : Int) - (1 : Int)))) ∧ ((Int.toNat (HMod.hMod u ((((List.length cl) : Nat) : Int) - (1 : Int)))) < (List.length (Go.Abs.Farm.fairOf pr (List.set (([] : List Int) ++ cl) (Int.toNat (((HMod.hMod u ((((List.length cl) : Nat) : Int) - (1 : Int))) + (1 : Int)) + (HMod.hMod w (((((List.length cl) : Nat) : Int) - (1 : Int)) - (HMod.hMod u ((((List.length cl) : Nat) : Int) - (1 : Int))))))) ((([] : List Int) ++ cl)[(Int.toNat (HMod.hMod u ((((List.length cl) : Nat) : Int) - (1 : Int))))]'h5)))))) ∧
       ∃ h7 : ((Int.toNat (HMod.hMod u ((((List.length cl) : Nat) : Int) - (1 : Int)))) < (List.length (Go.Abs.Farm.fairOf pr (List.set (([] : List Int) ++ cl) (Int.toNat (((HMod.hMod u ((((List.length cl) : Nat) : Int) - (1 : Int))) + (1 : Int)) + (HMod.hMod w (((((List.length cl) : Nat) : Int) - (1 : Int)) - (HMod.hMod u ((((List.length cl) : Nat) : Int) - (1 : Int))))))) ((([] : List Int) ++ cl)[(Int.toNat (HMod.hMod u ((((List.length cl) : Nat) : Int) - (1 : Int))))]'h5))))),
       (((0 : Int) ≤ (((HMod.hMod u ((((List.length cl) : Nat) : Int) - (1 : Int))) + (1 : Int)) + (HMod.hMod w (((((List.length cl) : Nat) : Int) - (1 : Int)) - (HMod.hMod u ((((List.length cl) : Nat) : Int) - (1 : Int))))))) ∧ ((Int.toNat (((HMod.hMod u ((((List.length cl) : Nat) : Int) - (1 : Int))) + (1 : Int)) + (HMod.hMod w (((((List.length cl) : Nat) : Int) - (1 : Int)) - (HMod.hMod u ((((List.length cl) : Nat) : Int) - (1 : Int))))))) < (List.length (Go.Abs.Farm.fairOf pr (List.set (([] : List Int) ++ cl) (Int.toNat (((HMod.hMod u ((((List.length cl) : Nat) : Int) - (1 : Int))) + (1 : Int)) + (HMod.hMod w (((((List.length cl) : Nat) : Int) - (1 : Int)) - (HMod.hMod u ((((List.length cl) : Nat) : Int) - (1 : Int))))))) ((([] : List Int) ++ cl)[(Int.toNat (HMod.hMod u ((((List.length cl) : Nat) : Int) - (1 : Int))))]'h5)))))) ∧
       ∃ h8 : ((Int.toNat (((HMod.hMod u ((((List.length cl) : Nat) : Int) - (1 : Int))) + (1 : Int)) + (HMod.hMod w (((((List.length cl) : Nat) : Int) - (1 : Int)) - (HMod.hMod u ((((List.length cl) : Nat) : Int) - (1 : Int))))))) < (List.length (Go.Abs.Farm.fairOf pr (List.set (([] : List Int) ++ cl) (Int.toNat (((HMod.hMod u ((((List.length cl) : Nat) : Int) - (1 : Int))) + (1 : Int)) + (HMod.hMod w (((((List.length cl) : Nat) : Int) - (1 : Int)) - (HMod.hMod u ((((List.length cl) : Nat) : Int) - (1 : Int))))))) ((([] : List Int) ++ cl)[(Int.toNat (HMod.hMod u ((((List.length cl) : Nat) : Int) - (1 : Int))))]'h5))))),
       br (((decide (((Go.Abs.Farm.fairOf pr (List.set (([] : List Int) ++ cl) (Int.toNat (((HMod.hMod u ((((List.length cl) : Nat) : Int) - (1 : Int))) + (1 : Int)) + (HMod.hMod w (((((List.length cl) : Nat) : Int) - (1 : Int)) - (HMod.hMod u ((((List.length cl) : Nat) : Int) - (1 : Int))))))) ((([] : List Int) ++ cl)[(Int.toNat (HMod.hMod u ((((List.length cl) : Nat) : Int) - (1 : Int))))]'h5)))[(Int.toNat (HMod.hMod u ((((List.length cl) : Nat) : Int) - (1 : Int))))]'h7) < ((Go.Abs.Farm.fairOf pr (List.set (([] : List Int) ++ cl) (Int.toNat (((HMod.hMod u ((((List.length cl) : Nat) : Int) - (1 : Int))) + (1 : Int)) + (HMod.hMod w (((((List.length cl) : Nat) : Int) - (1 : Int)) - (HMod.hMod u ((((List.length cl) : Nat) : Int) - (1 : Int))))))) ((([] : List Int) ++ cl)[(Int.toNat (HMod.hMod u ((((List.length cl) : Nat) : Int) - (1 : Int))))]'h5)))[(Int.toNat (((HMod.hMod u ((((List.length cl) : Nat) : Int) - (1 : Int))) + (1 : Int)) + (HMod.hMod w (((((List.length cl) : Nat) : Int) - (1 : Int)) - (HMod.hMod u ((((List.length cl) : Nat) : Int) - (1 : Int)))))))]'h8))) == Bool.false))
        ((((0 : Int) ≤ (HMod.hMod u ((((List.length cl) : Nat) : Int) - (1 : Int)))) ∧ ((Int.toNat (HMod.hMod u ((((List.length cl) : Nat) : Int) - (1 : Int)))) < (List.length (Go.Abs.Farm.fairOf pr (List.set (([] : List Int) ++ cl) (Int.toNat (((HMod.hMod u ((((List.length cl) : Nat) : Int) - (1 : Int))) + (1 : Int)) + (HMod.hMod w (((((List.length cl) : Nat) : Int) - (1 : Int)) - (HMod.hMod u ((((List.length cl) : Nat) : Int) - (1 : Int))))))) ((([] : List Int) ++ cl)[(Int.toNat (HMod.hMod u ((((List.length cl) : Nat) : Int) - (1 : Int))))]'h5)))))) ∧
        ∃ h9 : ((Int.toNat (HMod.hMod u ((((List.length cl) : Nat) : Int) - (1 : Int)))) < (List.length (Go.Abs.Farm.fairOf pr (List.set (([] : List Int) ++ cl) (Int.toNat (((HMod.hMod u ((((List.length cl) : Nat) : Int) - (1 : Int))) + (1 : Int)) + (HMod.hMod w (((((List.length cl) : Nat) : Int) - (1 : Int)) - (HMod.hMod u ((((List.length cl) : Nat) : Int) - (1 : Int))))))) ((([] : List Int) ++ cl)[(Int.toNat (HMod.hMod u ((((List.length cl) : Nat) : Int) - (1 : Int))))]'h5))))),
        (((0 : Int) ≤ (((HMod.hMod u ((((List.length cl) : Nat) : Int) - (1 : Int))) + (1 : Int)) + (HMod.hMod w (((((List.length cl) : Nat) : Int) - (1 : Int)) - (HMod.hMod u ((((List.length cl) : Nat) : Int) - (1 : Int))))))) ∧ ((Int.toNat (((HMod.hMod u ((((List.length cl) : Nat) : Int) - (1 : Int))) + (1 : Int)) + (HMod.hMod w (((((List.length cl) : Nat) : Int) - (1 : Int)) - (HMod.hMod u ((((List.length cl) : Nat) : Int) - (1 : Int))))))) < (List.length (Go.Abs.Farm.fairOf pr (List.set (([] : List Int) ++ cl) (Int.toNat (((HMod.hMod u ((((List.length cl) : Nat) : Int) - (1 : Int))) + (1 : Int)) + (HMod.hMod w (((((List.length cl) : Nat) : Int) - (1 : Int)) - (HMod.hMod u ((((List.length cl) : Nat) : Int) - (1 : Int))))))) ((([] : List Int) ++ cl)[(Int.toNat (HMod.hMod u ((((List.length cl) : Nat) : Int) - (1 : Int))))]'h5)))))) ∧
        ∃ h10 : ((Int.toNat (((HMod.hMod u ((((List.length cl) : Nat) : Int) - (1 : Int))) + (1 : Int)) + (HMod.hMod w (((((List.length cl) : Nat) : Int) - (1 : Int)) - (HMod.hMod u ((((List.length cl) : Nat) : Int) - (1 : Int))))))) < (List.length (Go.Abs.Farm.fairOf pr (List.set (([] : List Int) ++ cl) (Int.toNat (((HMod.hMod u ((((List.length cl) : Nat) : Int) - (1 : Int))) + (1 : Int)) + (HMod.hMod w (((((List.length cl) : Nat) : Int) - (1 : Int)) - (HMod.hMod u ((((List.length cl) : Nat) : Int) - (1 : Int))))))) ((([] : List Int) ++ cl)[(Int.toNat (HMod.hMod u ((((List.length cl) : Nat) : Int) - (1 : Int))))]'h5))))),
        (Go.Abs.fitsK Go.IntKind.i64 (((Go.Abs.Farm.fairOf pr (List.set (([] : List Int) ++ cl) (Int.toNat (((HMod.hMod u ((((List.length cl) : Nat) : Int) - (1 : Int))) + (1 : Int)) + (HMod.hMod w (((((List.length cl) : Nat) : Int) - (1 : Int)) - (HMod.hMod u ((((List.length cl) : Nat) : Int) - (1 : Int))))))) ((([] : List Int) ++ cl)[(Int.toNat (HMod.hMod u ((((List.length cl) : Nat) : Int) - (1 : Int))))]'h5)))[(Int.toNat (((HMod.hMod u ((((List.length cl) : Nat) : Int) - (1 : Int))) + (1 : Int)) + (HMod.hMod w (((((List.length cl) : Nat) : Int) - (1 : Int)) - (HMod.hMod u ((((List.length cl) : Nat) : Int) - (1 : Int)))))))]'h10) + (1 : Int))) ∧
        br (((decide (((Go.Abs.Farm.fairOf pr (List.set (([] : List Int) ++ cl) (Int.toNat (((HMod.hMod u ((((List.length cl) : Nat) : Int) - (1 : Int))) + (1 : Int)) + (HMod.hMod w (((((List.length cl) : Nat) : Int) - (1 : Int)) - (HMod.hMod u ((((List.length cl) : Nat) : Int) - (1 : Int))))))) ((([] : List Int) ++ cl)[(Int.toNat (HMod.hMod u ((((List.length cl) : Nat) : Int) - (1 : Int))))]'h5)))[(Int.toNat (HMod.hMod u ((((List.length cl) : Nat) : Int) - (1 : Int))))]'h9) > (((Go.Abs.Farm.fairOf pr (List.set (([] : List Int) ++ cl) (Int.toNat (((HMod.hMod u ((((List.length cl) : Nat) : Int) - (1 : Int))) + (1 : Int)) + (HMod.hMod w (((((List.length cl) : Nat) : Int) - (1 : Int)) - (HMod.hMod u ((((List.length cl) : Nat) : Int) - (1 : Int))))))) ((([] : List Int) ++ cl)[(Int.toNat (HMod.hMod u ((((List.length cl) : Nat) : Int) - (1 : Int))))]'h5)))[(Int.toNat (((HMod.hMod u ((((List.length cl) : Nat) : Int) - (1 : Int))) + (1 : Int)) + (HMod.hMod w (((((List.length cl) : Nat) : Int) - (1 : Int)) - (HMod.hMod u ((((List.length cl) : Nat) : Int) - (1 : Int)))))))]'h10) + (1 : Int)))) == Bool.false))
         ((((0 : Int) ≤ (HMod.hMod u ((((List.length cl) : Nat) : Int) - (1 : Int)))) ∧ ((Int.toNat (HMod.hMod u ((((List.length cl) : Nat) : Int) - (1 : Int)))) < (List.length (Go.Abs.Farm.nearL pr (List.set (([] : List Int) ++ cl) (Int.toNat (((HMod.hMod u ((((List.length cl) : Nat) : Int) - (1 : Int))) + (1 : Int)) + (HMod.hMod w (((((List.length cl) : Nat) : Int) - (1 : Int)) - (HMod.hMod u ((((List.length cl) : Nat) : Int) - (1 : Int))))))) ((([] : List Int) ++ cl)[(Int.toNat (HMod.hMod u ((((List.length cl) : Nat) : Int) - (1 : Int))))]'h5)))))) ∧
         ∃ h11 : ((Int.toNat (HMod.hMod u ((((List.length cl) : Nat) : Int) - (1 : Int)))) < (List.length (Go.Abs.Farm.nearL pr (List.set (([] : List Int) ++ cl) (Int.toNat (((HMod.hMod u ((((List.length cl) : Nat) : Int) - (1 : Int))) + (1 : Int)) + (HMod.hMod w (((((List.length cl) : Nat) : Int) - (1 : Int)) - (HMod.hMod u ((((List.length cl) : Nat) : Int) - (1 : Int))))))) ((([] : List Int) ++ cl)[(Int.toNat (HMod.hMod u ((((List.length cl) : Nat) : Int) - (1 : Int))))]'h5))))),
         (((0 : Int) ≤ (((HMod.hMod u ((((List.length cl) : Nat) : Int) - (1 : Int))) + (1 : Int)) + (HMod.hMod w (((((List.length cl) : Nat) : Int) - (1 : Int)) - (HMod.hMod u ((((List.length cl) : Nat) : Int) - (1 : Int))))))) ∧ ((Int.toNat (((HMod.hMod u ((((List.length cl) : Nat) : Int) - (1 : Int))) + (1 : Int)) + (HMod.hMod w (((((List.length cl) : Nat) : Int) - (1 : Int)) - (HMod.hMod u ((((List.length cl) : Nat) : Int) - (1 : Int))))))) < (List.length (Go.Abs.Farm.nearL pr (List.set (([] : List Int) ++ cl) (Int.toNat (((HMod.hMod u ((((List.length cl) : Nat) : Int) - (1 : Int))) + (1 : Int)) + (HMod.hMod w (((((List.length cl) : Nat) : Int) - (1 : Int)) - (HMod.hMod u ((((List.length cl) : Nat) : Int) - (1 : Int))))))) ((([] : List Int) ++ cl)[(Int.toNat (HMod.hMod u ((((List.length cl) : Nat) : Int) - (1 : Int))))]'h5)))))) ∧
         ∃ h12 : ((Int.toNat (((HMod.hMod u ((((List.length cl) : Nat) : Int) - (1 : Int))) + (1 : Int)) + (HMod.hMod w (((((List.length cl) : Nat) : Int) - (1 : Int)) - (HMod.hMod u ((((List.length cl) : Nat) : Int) - (1 : Int))))))) < (List.length (Go.Abs.Farm.nearL pr (List.set (([] : List Int) ++ cl) (Int.toNat (((HMod.hMod u ((((List.length cl) : Nat) : Int) - (1 : Int))) + (1 : Int)) + (HMod.hMod w (((((List.length cl) : Nat) : Int) - (1 : Int)) - (HMod.hMod u ((((List.length cl) : Nat) : Int) - (1 : Int))))))) ((([] : List Int) ++ cl)[(Int.toNat (HMod.hMod u ((((List.length cl) : Nat) : Int) - (1 : Int))))]'h5))))),
         br (((decide (((Go.Abs.Farm.nearL pr (List.set (([] : List Int) ++ cl) (Int.toNat (((HMod.hMod u ((((List.length cl) : Nat) : Int) - (1 : Int))) + (1 : Int)) + (HMod.hMod w (((((List.length cl) : Nat) : Int) - (1 : Int)) - (HMod.hMod u ((((List.length cl) : Nat) : Int) - (1 : Int))))))) ((([] : List Int) ++ cl)[(Int.toNat (HMod.hMod u ((((List.length cl) : Nat) : Int) - (1 : Int))))]'h5)))[(Int.toNat (HMod.hMod u ((((List.length cl) : Nat) : Int) - (1 : Int))))]'h11) < ((Go.Abs.Farm.nearL pr (List.set (([] : List Int) ++ cl) (Int.toNat (((HMod.hMod u ((((List.length cl) : Nat) : Int) - (1 : Int))) + (1 : Int)) + (HMod.hMod w (((((List.length cl) : Nat) : Int) - (1 : Int)) - (HMod.hMod u ((((List.length cl) : Nat) : Int) - (1 : Int))))))) ((([] : List Int) ++ cl)[(Int.toNat (HMod.hMod u ((((List.length cl) : Nat) : Int) - (1 : Int))))]'h5)))[(Int.toNat (((HMod.hMod u ((((List.length cl) : Nat) : Int) - (1 : Int))) + (1 : Int)) + (HMod.hMod w (((((List.length cl) : Nat) : Int) - (1 : Int)) - (HMod.hMod u ((((List.length cl) : Nat) : Int) - (1 : Int)))))))]'h12))) == Bool.false))
          ((((0 : Int) ≤ (HMod.hMod u ((((List.length cl) : Nat) : Int) - (1 : Int)))) ∧ ((Int.toNat (HMod.hMod u ((((List.length cl) : Nat) : Int) - (1 : Int)))) < (List.length (Go.Abs.Farm.nearL pr (List.set (([] : List Int) ++ cl) (Int.toNat (((HMod.hMod u ((((List.length cl) : Nat) : Int) - (1 : Int))) + (1 : Int)) + (HMod.hMod w (((((List.length cl) : Nat) : Int) - (1 : Int)) - (HMod.hMod u ((((List.length cl) : Nat) : Int) - (1 : Int))))))) ((([] : List Int) ++ cl)[(Int.toNat (HMod.hMod u ((((List.length cl) : Nat) : Int) - (1 : Int))))]'h5)))))) ∧
          ∃ h13 : ((Int.toNat (HMod.hMod u ((((List.length cl) : Nat) : Int) - (1 : Int)))) < (List.length (Go.Abs.Farm.nearL pr (List.set (([] : List Int) ++ cl) (Int.toNat (((HMod.hMod u ((((List.length cl) : Nat) : Int) - (1 : Int))) + (1 : Int)) + (HMod.hMod w (((((List.length cl) : Nat) : Int) - (1 : Int)) - (HMod.hMod u ((((List.length cl) : Nat) : Int) - (1 : Int))))))) ((([] : List Int) ++ cl)[(Int.toNat (HMod.hMod u ((((List.length cl) : Nat) : Int) - (1 : Int))))]'h5))))),
          (((0 : Int) ≤ (((HMod.hMod u ((((List.length cl) : Nat) : Int) - (1 : Int))) + (1 : Int)) + (HMod.hMod w (((((List.length cl) : Nat) : Int) - (1 : Int)) - (HMod.hMod u ((((List.length cl) : Nat) : Int) - (1 : Int))))))) ∧ ((Int.toNat (((HMod.hMod u ((((List.length cl) : Nat) : Int) - (1 : Int))) + (1 : Int)) + (HMod.hMod w (((((List.length cl) : Nat) : Int) - (1 : Int)) - (HMod.hMod u ((((List.length cl) : Nat) : Int) - (1 : Int))))))) < (List.length (Go.Abs.Farm.nearL pr (List.set (([] : List Int) ++ cl) (Int.toNat (((HMod.hMod u ((((List.length cl) : Nat) : Int) - (1 : Int))) + (1 : Int)) + (HMod.hMod w (((((List.length cl) : Nat) : Int) - (1 : Int)) - (HMod.hMod u ((((List.length cl) : Nat) : Int) - (1 : Int))))))) ((([] : List Int) ++ cl)[(Int.toNat (HMod.hMod u ((((List.length cl) : Nat) : Int) - (1 : Int))))]'h5)))))) ∧
          ∃ h14 : ((Int.toNat (((HMod.hMod u ((((List.length cl) : Nat) : Int) - (1 : Int))) + (1 : Int)) + (HMod.hMod w (((((List.length cl) : Nat) : Int) - (1 : Int)) - (HMod.hMod u ((((List.length cl) : Nat) : Int) - (1 : Int))))))) < (List.length (Go.Abs.Farm.nearL pr (List.set (([] : List Int) ++ cl) (Int.toNat (((HMod.hMod u ((((List.length cl) : Nat) : Int) - (1 : Int))) + (1 : Int)) + (HMod.hMod w (((((List.length cl) : Nat) : Int) - (1 : Int)) - (HMod.hMod u ((((List.length cl) : Nat) : Int) - (1 : Int))))))) ((([] : List Int) ++ cl)[(Int.toNat (HMod.hMod u ((((List.length cl) : Nat) : Int) - (1 : Int))))]'h5))))),
          (Go.Abs.fitsK Go.IntKind.i64 (((Go.Abs.Farm.nearL pr (List.set (([] : List Int) ++ cl) (Int.toNat (((HMod.hMod u ((((List.length cl) : Nat) : Int) - (1 : Int))) + (1 : Int)) + (HMod.hMod w (((((List.length cl) : Nat) : Int) - (1 : Int)) - (HMod.hMod u ((((List.length cl) : Nat) : Int) - (1 : Int))))))) ((([] : List Int) ++ cl)[(Int.toNat (HMod.hMod u ((((List.length cl) : Nat) : Int) - (1 : Int))))]'h5)))[(Int.toNat (((HMod.hMod u ((((List.length cl) : Nat) : Int) - (1 : Int))) + (1 : Int)) + (HMod.hMod w (((((List.length cl) : Nat) : Int) - (1 : Int)) - (HMod.hMod u ((((List.length cl) : Nat) : Int) - (1 : Int)))))))]'h14) + (1 : Int))) ∧
          br ((decide (((Go.Abs.Farm.nearL pr (List.set (([] : List Int) ++ cl) (Int.toNat (((HMod.hMod u ((((List.length cl) : Nat) : Int) - (1 : Int))) + (1 : Int)) + (HMod.hMod w (((((List.length cl) : Nat) : Int) - (1 : Int)) - (HMod.hMod u ((((List.length cl) : Nat) : Int) - (1 : Int))))))) ((([] : List Int) ++ cl)[(Int.toNat (HMod.hMod u ((((List.length cl) : Nat) : Int) - (1 : Int))))]'h5)))[(Int.toNat (HMod.hMod u ((((List.length cl) : Nat) : Int) - (1 : Int))))]'h13) > (((Go.Abs.Farm.nearL pr (List.set (([] : List Int) ++ cl) (Int.toNat (((HMod.hMod u ((((List.length cl) : Nat) : Int) - (1 : Int))) + (1 : Int)) + (HMod.hMod w (((((List.length cl) : Nat) : Int) - (1 : Int)) - (HMod.hMod u ((((List.length cl) : Nat) : Int) - (1 : Int))))))) ((([] : List Int) ++ cl)[(Int.toNat (HMod.hMod u ((((List.length cl) : Nat) : Int) - (1 : Int))))]'h5)))[(Int.toNat (((HMod.hMod u ((((List.length cl) : Nat) : Int) - (1 : Int))) + (1 : Int)) + (HMod.hMod w (((((List.length cl) : Nat) : Int) - (1 : Int)) - (HMod.hMod u ((((List.length cl) : Nat) : Int) - (1 : Int)))))))]'h14) + (1 : Int)))))
           ((k (Go.Abs.AVal.bool Bool.false) []))
           (∃ h15 : (((0 : Int) ≤ (HMod.hMod u ((((List.length cl) : Nat) : Int) - (1 : Int)))) ∧ ((Int.toNat (HMod.hMod u ((((List.length cl) : Nat) : Int) - (1 : Int)))) < (List.length cl))),
           ∃ h16 : (((0 : Int) ≤ (((HMod.hMod u ((((List.length cl) : Nat) : Int) - (1 : Int))) + (1 : Int)) + (HMod.hMod w (((((List.length cl) : Nat) : Int) - (1 : Int)) - (HMod.hMod u ((((List.length cl) : Nat) : Int) - (1 : Int))))))) ∧ ((Int.toNat (((HMod.hMod u ((((List.length cl) : Nat) : Int) - (1 : Int))) + (1 : Int)) + (HMod.hMod w (((((List.length cl) : Nat) : Int) - (1 : Int)) - (HMod.hMod u ((((List.length cl) : Nat) : Int) - (1 : Int))))))) < (List.length cl))),
           br (((decide ((cl[(Int.toNat (HMod.hMod u ((((List.length cl) : Nat) : Int) - (1 : Int))))]'h15.2) ≤ (cl[(Int.toNat (((HMod.hMod u ((((List.length cl) : Nat) : Int) - (1 : Int))) + (1 : Int)) + (HMod.hMod w (((((List.length cl) : Nat) : Int) - (1 : Int)) - (HMod.hMod u ((((List.length cl) : Nat) : Int) - (1 : Int)))))))]'h16.2))) == Bool.false))
            ((((0 : Int) ≤ (HMod.hMod u ((((List.length cl) : Nat) : Int) - (1 : Int)))) ∧ ((Int.toNat (HMod.hMod u ((((List.length cl) : Nat) : Int) - (1 : Int)))) < (List.length (Go.Abs.Farm.fairOf pr cl)))) ∧
            ∃ h17 : ((Int.toNat (HMod.hMod u ((((List.length cl) : Nat) : Int) - (1 : Int)))) < (List.length (Go.Abs.Farm.fairOf pr cl))),
            (((0 : Int) ≤ (((HMod.hMod u ((((List.length cl) : Nat) : Int) - (1 : Int))) + (1 : Int)) + (HMod.hMod w (((((List.length cl) : Nat) : Int) - (1 : Int)) - (HMod.hMod u ((((List.length cl) : Nat) : Int) - (1 : Int))))))) ∧ ((Int.toNat (((HMod.hMod u ((((List.length cl) : Nat) : Int) - (1 : Int))) + (1 : Int)) + (HMod.hMod w (((((List.length cl) : Nat) : Int) - (1 : Int)) - (HMod.hMod u ((((List.length cl) : Nat) : Int) - (1 : Int))))))) < (List.length (Go.Abs.Farm.fairOf pr cl)))) ∧
            ∃ h18 : ((Int.toNat (((HMod.hMod u ((((List.length cl) : Nat) : Int) - (1 : Int))) + (1 : Int)) + (HMod.hMod w (((((List.length cl) : Nat) : Int) - (1 : Int)) - (HMod.hMod u ((((List.length cl) : Nat) : Int) - (1 : Int))))))) < (List.length (Go.Abs.Farm.fairOf pr cl))),
            br (((decide (((Go.Abs.Farm.fairOf pr cl)[(Int.toNat (HMod.hMod u ((((List.length cl) : Nat) : Int) - (1 : Int))))]'h17) ≥ ((Go.Abs.Farm.fairOf pr cl)[(Int.toNat (((HMod.hMod u ((((List.length cl) : Nat) : Int) - (1 : Int))) + (1 : Int)) + (HMod.hMod w (((((List.length cl) : Nat) : Int) - (1 : Int)) - (HMod.hMod u ((((List.length cl) : Nat) : Int) - (1 : Int)))))))]'h18))) == Bool.true))
             (∃ h19 : (((0 : Int) ≤ (((HMod.hMod u ((((List.length cl) : Nat) : Int) - (1 : Int))) + (1 : Int)) + (HMod.hMod w (((((List.length cl) : Nat) : Int) - (1 : Int)) - (HMod.hMod u ((((List.length cl) : Nat) : Int) - (1 : Int))))))) ∧ ((Int.toNat (((HMod.hMod u ((((List.length cl) : Nat) : Int) - (1 : Int))) + (1 : Int)) + (HMod.hMod w (((((List.length cl) : Nat) : Int) - (1 : Int)) - (HMod.hMod u ((((List.length cl) : Nat) : Int) - (1 : Int))))))) < (List.length cl))),
             ∃ h20 : (((0 : Int) ≤ (HMod.hMod u ((((List.length cl) : Nat) : Int) - (1 : Int)))) ∧ ((Int.toNat (HMod.hMod u ((((List.length cl) : Nat) : Int) - (1 : Int)))) < (List.length cl))),
             br (((decide ((cl[(Int.toNat (((HMod.hMod u ((((List.length cl) : Nat) : Int) - (1 : Int))) + (1 : Int)) + (HMod.hMod w (((((List.length cl) : Nat) : Int) - (1 : Int)) - (HMod.hMod u ((((List.length cl) : Nat) : Int) - (1 : Int)))))))]'h19.2) ≤ (cl[(Int.toNat (HMod.hMod u ((((List.length cl) : Nat) : Int) - (1 : Int))))]'h20.2))) == Bool.false))
              ((((0 : Int) ≤ (((HMod.hMod u ((((List.length cl) : Nat) : Int) - (1 : Int))) + (1 : Int)) + (HMod.hMod w (((((List.length cl) : Nat) : Int) - (1 : Int)) - (HMod.hMod u ((((List.length cl) : Nat) : Int) - (1 : Int))))))) ∧ ((Int.toNat (((HMod.hMod u ((((List.length cl) : Nat) : Int) - (1 : Int))) + (1 : Int)) + (HMod.hMod w (((((List.length cl) : Nat) : Int) - (1 : Int)) - (HMod.hMod u ((((List.length cl) : Nat) : Int) - (1 : Int))))))) < (List.length (Go.Abs.Farm.fairOf pr cl)))) ∧
              ∃ h21 : ((Int.toNat (((HMod.hMod u ((((List.length cl) : Nat) : Int) - (1 : Int))) + (1 : Int)) + (HMod.hMod w (((((List.length cl) : Nat) : Int) - (1 : Int)) - (HMod.hMod u ((((List.length cl) : Nat) : Int) - (1 : Int))))))) < (List.length (Go.Abs.Farm.fairOf pr cl))),
              (((0 : Int) ≤ (HMod.hMod u ((((List.length cl) : Nat) : Int) - (1 : Int)))) ∧ ((Int.toNat (HMod.hMod u ((((List.length cl) : Nat) : Int) - (1 : Int)))) < (List.length (Go.Abs.Farm.fairOf pr cl)))) ∧
              ∃ h22 : ((Int.toNat (HMod.hMod u ((((List.length cl) : Nat) : Int) - (1 : Int)))) < (List.length (Go.Abs.Farm.fairOf pr cl))),
              br (((decide (((Go.Abs.Farm.fairOf pr cl)[(Int.toNat (((HMod.hMod u ((((List.length cl) : Nat) : Int) - (1 : Int))) + (1 : Int)) + (HMod.hMod w (((((List.length cl) : Nat) : Int) - (1 : Int)) - (HMod.hMod u ((((List.length cl) : Nat) : Int) - (1 : Int)))))))]'h21) ≥ ((Go.Abs.Farm.fairOf pr cl)[(Int.toNat (HMod.hMod u ((((List.length cl) : Nat) : Int) - (1 : Int))))]'h22))) == Bool.true))
               ((Go.Abs.Farm.v17.p ()) ∧
               (k (Go.Abs.AVal.bool Bool.true) []))
               ((k (Go.Abs.AVal.bool Bool.false) [])))
              ((Go.Abs.Farm.v17.p ()) ∧
              (k (Go.Abs.AVal.bool Bool.true) [])))
             ((k (Go.Abs.AVal.bool Bool.false) [])))
            (∃ h17 : (((0 : Int) ≤ (((HMod.hMod u ((((List.length cl) : Nat) : Int) - (1 : Int))) + (1 : Int)) + (HMod.hMod w (((((List.length cl) : Nat) : Int) - (1 : Int)) - (HMod.hMod u ((((List.length cl) : Nat) : Int) - (1 : Int))))))) ∧ ((Int.toNat (((HMod.hMod u ((((List.length cl) : Nat) : Int) - (1 : Int))) + (1 : Int)) + (HMod.hMod w (((((List.length cl) : Nat) : Int) - (1 : Int)) - (HMod.hMod u ((((List.length cl) : Nat) : Int) - (1 : Int))))))) < (List.length cl))),
            ∃ h18 : (((0 : Int) ≤ (HMod.hMod u ((((List.length cl) : Nat) : Int) - (1 : Int)))) ∧ ((Int.toNat (HMod.hMod u ((((List.length cl) : Nat) : Int) - (1 : Int)))) < (List.length cl))),
            br (((decide ((cl[(Int.toNat (((HMod.hMod u ((((List.length cl) : Nat) : Int) - (1 : Int))) + (1 : Int)) + (HMod.hMod w (((((List.length cl) : Nat) : Int) - (1 : Int)) - (HMod.hMod u ((((List.length cl) : Nat) : Int) - (1 : Int)))))))]'h17.2) ≤ (cl[(Int.toNat (HMod.hMod u ((((List.length cl) : Nat) : Int) - (1 : Int))))]'h18.2))) == Bool.false))
             ((((0 : Int) ≤ (((HMod.hMod u ((((List.length cl) : Nat) : Int) - (1 : Int))) + (1 : Int)) + (HMod.hMod w (((((List.length cl) : Nat) : Int) - (1 : Int)) - (HMod.hMod u ((((List.length cl) : Nat) : Int) - (1 : Int))))))) ∧ ((Int.toNat (((HMod.hMod u ((((List.length cl) : Nat) : Int) - (1 : Int))) + (1 : Int)) + (HMod.hMod w (((((List.length cl) : Nat) : Int) - (1 : Int)) - (HMod.hMod u ((((List.length cl) : Nat) : Int) - (1 : Int))))))) < (List.length (Go.Abs.Farm.fairOf pr cl)))) ∧
             ∃ h19 : ((Int.toNat (((HMod.hMod u ((((List.length cl) : Nat) : Int) - (1 : Int))) + (1 : Int)) + (HMod.hMod w (((((List.length cl) : Nat) : Int) - (1 : Int)) - (HMod.hMod u ((((List.length cl) : Nat) : Int) - (1 : Int))))))) < (List.length (Go.Abs.Farm.fairOf pr cl))),
             (((0 : Int) ≤ (HMod.hMod u ((((List.length cl) : Nat) : Int) - (1 : Int)))) ∧ ((Int.toNat (HMod.hMod u ((((List.length cl) : Nat) : Int) - (1 : Int)))) < (List.length (Go.Abs.Farm.fairOf pr cl)))) ∧
             ∃ h20 : ((Int.toNat (HMod.hMod u ((((List.length cl) : Nat) : Int) - (1 : Int)))) < (List.length (Go.Abs.Farm.fairOf pr cl))),
             br (((decide (((Go.Abs.Farm.fairOf pr cl)[(Int.toNat (((HMod.hMod u ((((List.length cl) : Nat) : Int) - (1 : Int))) + (1 : Int)) + (HMod.hMod w (((((List.length cl) : Nat) : Int) - (1 : Int)) - (HMod.hMod u ((((List.length cl) : Nat) : Int) - (1 : Int)))))))]'h19) ≥ ((Go.Abs.Farm.fairOf pr cl)[(Int.toNat (HMod.hMod u ((((List.length cl) : Nat) : Int) - (1 : Int))))]'h20))) == Bool.true))
              ((Go.Abs.Farm.v17.p ()) ∧
              (k (Go.Abs.AVal.bool Bool.true) []))
              ((k (Go.Abs.AVal.bool Bool.false) [])))
             ((Go.Abs.Farm.v17.p ()) ∧
             (k (Go.Abs.AVal.bool Bool.true) [])))))
          ((k (Go.Abs.AVal.bool Bool.false) [])))
         ((k (Go.Abs.AVal.bool Bool.false) [])))
        ((k (Go.Abs.AVal.bool Bool.false) [])))
       ((k (Go.Abs.AVal.bool Bool.false) [])))
      ((k (Go.Abs.AVal.bool Bool.false) [])))))
   ((Go.Abs.Farm.v17.p ()) ∧
   (k (Go.Abs.AVal.bool Bool.true) []))
theorem eq14 (pr : Int) (cl : List Int) (u w : Int) (k : AVal → List Cont → Prop) : awpF (envOf [(42, mkC [v42]), (17, mkC [v17]), (49, cLongs), (43, mkC [v43]), (24, mkC [v24])]) Try.prog kt 14 false Try.f14 (v14.args (pr, cl, u, w, ())) (v14.conts (pr, cl, u, w, ())) k = vc14 pr cl u w k := by kernel_rfl
theorem tx14 : (Try.f14.body.map Code.textsOk).getD true = true := by kernel_rfl

end Go.Abs.Farm
end

section
/- The farm's statements: the examples of the chapter; that two ways agree. -/
open Go.Proofs
set_option maxRecDepth 100000
set_option linter.unusedVariables false
namespace Go.Abs.Farm

theorem br_yes {b : Bool} {p q : Prop} (h : b = true) (hp : p) : br b p q := by subst h; exact hp
theorem br_no {b : Bool} {p q : Prop} (h : b = false) (hq : q) : br b p q := by subst h; exact hq
theorem eqbt (a : Int) : ((a == a) == true) = true := by simp
theorem neb (a : Int) : ((a != a) == false) = true := by simp
theorem eqb2 (a b : Int) : (((a == a) && (b == b)) == true) = true := by simp
theorem eqLt (a : List Int) : (eqL a a == true) = true := by simp [eqL]
theorem nat_le {a b : Nat} (h : Nat.ble a b = true) : a ≤ b := Nat.le_of_ble_eq_true h

theorem k17 (hG : Good Try.prog (envOf [(52, mkC [v52]), (54, mkC [v54]), (18, mkC [v18]), (20, mkC [v20]), (22, mkC [v22]), (49, mkC [v49]), (33, mkC [v33]), (29, mkC [v29]), (35, mkC [v35]), (24, mkC [v24]), (31, mkC [v31]), (38, mkC [v38]), (53, mkC [v53]), (28, mkC [v28])])) : v17.Kept Try.prog 17 := by
  rintro ⟨⟩ hpre k hk
  refine aspec hmix hG Try.func17 tx17 (Eq.mpr (eq17  k) ?_)
  replace hk : k (.bool true) [] := hk
  unfold vc17
  have hs : ((spanLo 10 (pairsUp [50, 53, 20, 24, 23, 30]) 2 == 2) && (spanHi 10 (pairsUp [50, 53, 20, 24, 23, 30]) 2 == 3)) = true := by kernel_rfl
  rw [hs]
  exact ⟨trivial, nat_le (by kernel_rfl), nat_le (by kernel_rfl), nat_le (by kernel_rfl), nat_le (by kernel_rfl), nat_le (by kernel_rfl), trivial, ⟨nat_le (by kernel_rfl), nat_le (by kernel_rfl)⟩, trivial, ⟨nat_le (by kernel_rfl), nat_le (by kernel_rfl)⟩, trivial, ⟨nat_le (by kernel_rfl), nat_le (by kernel_rfl)⟩, trivial, ⟨nat_le (by kernel_rfl), nat_le (by kernel_rfl)⟩, trivial, ⟨nat_le (by kernel_rfl), nat_le (by kernel_rfl)⟩, trivial, ⟨nat_le (by kernel_rfl), nat_le (by kernel_rfl)⟩, trivial, ⟨nat_le (by kernel_rfl), nat_le (by kernel_rfl)⟩, trivial, ⟨nat_le (by kernel_rfl), nat_le (by kernel_rfl)⟩, nat_le (by kernel_rfl), trivial, ⟨nat_le (by kernel_rfl), nat_le (by kernel_rfl)⟩, trivial, ⟨nat_le (by kernel_rfl), nat_le (by kernel_rfl)⟩, trivial, ⟨nat_le (by kernel_rfl), nat_le (by kernel_rfl)⟩, nat_le (by kernel_rfl), nat_le (by kernel_rfl), nat_le (by kernel_rfl), trivial, trivial, ⟨nat_le (by kernel_rfl), nat_le (by kernel_rfl)⟩, trivial, trivial, trivial, ⟨nat_le (by kernel_rfl), nat_le (by kernel_rfl)⟩, hk⟩

theorem k15 (hG : Good Try.prog (envOf [(52, mkC [v52]), (18, mkC [v18]), (49, mkC [v49]), (35, mkC [v35]), (53, mkC [v53]), (33, mkC [v33]), (26, mkC [v26]), (54, mkC [v54]), (40, mkC [v40]), (17, mkC [v17])])) : v15.Kept Try.prog 15 := by
  rintro ⟨⟩ hpre k hk
  refine aspec hmix hG Try.func15 tx15 (Eq.mpr (eq15  k) ?_)
  replace hk : k (.bool true) [] := hk
  unfold vc15
  exact ⟨trivial, trivial, nat_le (by kernel_rfl), trivial, ⟨nat_le (by kernel_rfl), nat_le (by kernel_rfl)⟩, trivial, trivial, ⟨nat_le (by kernel_rfl), nat_le (by kernel_rfl)⟩, trivial, trivial, nat_le (by kernel_rfl), trivial, nat_le (by kernel_rfl), nat_le (by kernel_rfl), nat_le (by kernel_rfl), trivial, hk⟩

theorem small {l : List Int} {n : Nat} (h : l.length ≤ n) (hn : n ≤ 1000) : l.length ≤ big60 := by simp only [big60]; omega
theorem great_no {cl : List Int} (h : great cl = false) : cl.length ≤ 14 := by simp [great] at h; exact h
theorem wide_no {rs : List (Int × Int)} (h : wide rs = false) : rs.length ≤ 14 := by simp [wide] at h; exact h
theorem fairL_le (pr : Int) {cl : List Int} (h : cl.length ≤ 14) : (fairL pr cl).length ≤ 14 := by
  unfold fairL
  split
  · rw [fairOf_len]; exact h
  · simp
theorem nearL_le (pr : Int) {cl : List Int} (h : cl.length ≤ 14) : (nearL pr cl).length ≤ 14 := by
  unfold nearL
  split
  · rw [near_len]; exact h
  · simp

theorem k3 (hG : Good Try.prog (envOf [(16, mkC [v16]), (17, mkC [v17]), (18, mkC [v18]), (19, mkC [v19]), (20, mkC [v20]), (21, mkC [v21]), (22, mkC [v22]), (23, mkC [v23]), (24, mkC [v24]), (25, mkC [v25]), (26, mkC [v26]), (27, mkC [v27]), (28, mkC [v28])])) : v3.Kept Try.prog 3 := by
  rintro ⟨pr, cl, f, ⟨⟩⟩ hpre k hk
  change Int at pr
  change List Int at cl
  change Int at f
  refine aspec hmix hG Try.func3 tx3 (Eq.mpr (eq3 pr cl f k) ?_)
  replace hk : k (.bool true) [] := hk
  unfold vc3
  refine ⟨trivial, br_intro (fun _ => ⟨trivial, hk⟩) (fun h1 => ?_)⟩
  have hb := great_no h1
  have h3 := small (fairL_le pr hb) (by omega)
  have h4 := small (nearL_le pr hb) (by omega)
  exact ⟨hb, hb, hb, hb, hb, hb, hb, hb, hb, hb, br_yes (eqbt _) (br_yes (eqb2 _ _) (br_yes (eqbt _) ⟨⟨h3, h3⟩, br_yes (eqLt _) (br_yes (eqbt _) (br_yes (eqbt _) (br_yes (eqbt _) ⟨⟨h4, h4⟩, br_yes (eqLt _) (br_yes (eqbt _) ⟨trivial, hk⟩)⟩)))⟩))⟩

theorem k4 (hG : Good Try.prog (envOf [(16, mkC [v16]), (17, mkC [v17]), (29, mkC [v29]), (30, mkC [v30]), (31, mkC [v31]), (32, mkC [v32]), (33, mkC [v33]), (34, mkC [v34])])) : v4.Kept Try.prog 4 := by
  rintro ⟨pr, cl, s, ⟨⟩⟩ hpre k hk
  change Int at pr
  change List Int at cl
  change List Int at s
  refine aspec hmix hG Try.func4 tx4 (Eq.mpr (eq4 pr cl s k) ?_)
  replace hk : k (.bool true) [] := hk
  unfold vc4
  refine ⟨trivial, br_intro (fun h1 => br_intro (fun _ => ⟨trivial, hk⟩) (fun h2 => ?_)) (fun _ => ⟨trivial, hk⟩)⟩
  have hb := great_no (by simpa using h1)
  have hl : s.length ≤ 14 := by simp only [decide_eq_false_iff_not] at h2; omega
  exact ⟨⟨hb, hl⟩, ⟨hb, hl⟩, ⟨hb, hl⟩, ⟨hb, hl⟩, ⟨hb, hl⟩, ⟨hb, hl⟩, br_yes (eqbt _) (br_yes (eqbt _) (br_yes (eqbt _) (br_yes (eqbt _) (br_yes (eqbt _) (br_yes (eqbt _) ⟨trivial, hk⟩)))))⟩

theorem k5 (hG : Good Try.prog (envOf [(16, mkC [v16]), (17, mkC [v17]), (35, mkC [v35]), (36, mkC [v36])])) : v5.Kept Try.prog 5 := by
  rintro ⟨pr, cl, s, ⟨⟩⟩ hpre k hk
  change Int at pr
  change List Int at cl
  change List Int at s
  refine aspec hmix hG Try.func5 tx5 (Eq.mpr (eq5 pr cl s k) ?_)
  replace hk : k (.bool true) [] := hk
  unfold vc5
  refine ⟨trivial, br_intro (fun h1 => br_intro (fun _ => ⟨trivial, hk⟩) (fun h2 => ?_)) (fun _ => ⟨trivial, hk⟩)⟩
  have hb := great_no (by simpa using h1)
  have hl : s.length ≤ 14 := by simp only [decide_eq_false_iff_not] at h2; omega
  exact ⟨⟨hb, hl⟩, ⟨hb, hl⟩, br_yes (eqb2 _ _) (br_yes (eqb2 _ _) (br_yes (eqbt _) ⟨trivial, hk⟩))⟩

theorem k6 (hG : Good Try.prog (envOf [(37, mkC [v37]), (17, mkC [v17]), (38, mkC [v38]), (39, mkC [v39]), (40, mkC [v40]), (41, mkC [v41])])) : v6.Kept Try.prog 6 := by
  rintro ⟨pr, rs, f, ⟨⟩⟩ hpre k hk
  change Int at pr
  change List (Int × Int) at rs
  change Int at f
  refine aspec hmix hG Try.func6 tx6 (Eq.mpr (eq6 pr rs f k) ?_)
  replace hk : k (.bool true) [] := hk
  unfold vc6
  refine ⟨trivial, br_intro (fun _ => ⟨trivial, hk⟩) (fun h1 => ?_)⟩
  have hb := wide_no h1
  exact ⟨hb, hb, hb, hb, br_yes (eqbt _) (br_yes (eqb2 _ _) (br_yes (eqbt _) ⟨trivial, hk⟩))⟩

theorem not_fine {pr : Int} {cl : List Int} (h : Bool.not (fine pr cl) = false) : yearErr pr cl = 0 := by
  simp [fine, great, yeIs] at h
  exact h.2
theorem not_fine' {pr : Int} {cl : List Int} (h : (Bool.not (fine pr cl) == false) = true) : yearErr pr cl = 0 := not_fine (by simpa using h)
theorem ye0 {e : Int} (h : e = 0) : ((e != 0) == false) = true := by subst h; rfl
theorem ye1 {e : Int} (h : e = 0) : ((e == 0) == true) = true := by subst h; rfl
theorem dec_no {p : Prop} [Decidable p] (h : ¬ p) : (decide p == false) = true := by simp [h]
theorem dec_yes {p : Prop} [Decidable p] (h : p) : (decide p == true) = true := by simp [h]
theorem dec_f {p : Prop} [Decidable p] (h : ¬ p) : decide p = false := by simp [h]
theorem fair_stb {pr : Int} {cl : List Int} (hf : yearErr pr cl = 0) : Stable cl (fairOf pr cl) ∧ sumL (fairOf pr cl) = pr := by
  obtain ⟨f1, f2, f3, f4, f5, f6⟩ := fine_spec hf
  refine ⟨fair_stable (by omega) (fun i => (fine_getD hf i).1) _, ?_⟩
  have := fair_sum (cl := cl) (by omega) pr.toNat
  show sumL (fairUp cl pr.toNat) = pr
  rw [this]; omega

theorem k9 (hG : Good Try.prog (envOf [(42, mkC [v42]), (17, mkC [v17]), (43, mkC [v43]), (22, mkC [v22])])) : v9.Kept Try.prog 9 := by
  rintro ⟨pr, cl, ⟨⟩⟩ hpre k hk
  change Int at pr
  change List Int at cl
  refine aspec hmix hG Try.func9 tx9 (Eq.mpr (eq9 pr cl k) ?_)
  replace hk : k (.bool true) [] := hk
  unfold vc9
  refine ⟨trivial, br_intro (fun h1 => br_intro (fun _ => ⟨trivial, hk⟩) (fun h2 => ?_)) (fun _ => ⟨trivial, hk⟩)⟩
  have hf := not_fine' h1
  have h2 : ¬ pr ≥ 200 := by simpa using h2
  obtain ⟨f1, f2, f3, f4, f5, f6⟩ := fine_spec hf
  obtain ⟨q, hq, hq0⟩ := fine_some hf
  have hf2 : yearErr (pr + 1) cl = 0 := fine_of (by omega) (by omega) f3 f4 f5 hq hq0
  have hn : nextN pr cl = (nextOf cl (fairOf pr cl) : Int) := by unfold nextN; rw [if_pos hf]
  have hs := (fair_stb hf).1
  obtain ⟨n1, n2⟩ := nextOf_spec (cl := cl) (s := fairOf pr cl) hs.pos (by omega)
  have hup : fairOf (pr + 1) cl = fairUp cl (pr.toNat + 1) := by
    unfold fairOf; rw [show (pr + 1).toNat = pr.toNat + 1 by omega]
  have hnx := fun i => fairUp_next (cl := cl) (by omega) pr.toNat i
  rw [← hup] at hnx
  have e0 : fairUp cl pr.toNat = fairOf pr cl := rfl
  rw [e0] at hnx
  obtain ⟨n, hn'⟩ : ∃ n, nextOf cl (fairOf pr cl) = n := ⟨_, rfl⟩
  rw [hn'] at n1 n2 hnx hn
  simp only [hn]
  have hl1 : (fairOf pr cl).length = cl.length := fairOf_len _ _
  have hl2 : (fairOf (pr + 1) cl).length = cl.length := fairOf_len _ _
  have hc : cl[n] ≠ 0 := by
    intro hz
    by_cases e : q = n
    · subst e; rw [getD_at n1] at hq0; omega
    · have b := n2 q hq e
      unfold Bef at b
      simp only [at0_nat] at b
      rw [getD_at n1, hz] at b
      have := Int.mul_pos hq0 (show 0 < (fairOf pr cl).getD n 0 + 1 by have := hs.pos n; omega)
      omega
  have hin : ∀ x ∈ fairOf pr cl, (0 : Int) ≤ x ∧ x ≤ 1000 := fair_in (by omega)
  refine ⟨hf, by show cl.length ≤ 14; omega, fits64 (by omega) (by omega), hf2, br_yes (ye0 hf) (br_yes (dec_no (by omega)) (br_yes (dec_no (by omega)) ?_))⟩
  simp only [Int.toNat_natCast]
  refine ⟨⟨by omega, n1⟩, br_no (by simpa using hc) ?_⟩
  refine Loop.upto (fun i => ((n : Int), (i : Int), fairOf pr cl, fairOf (pr + 1) cl, ())) (fun i => True) (fairOf pr cl).length rfl trivial ?_ ?_
  · intro i K hi hp hK
    dsimp only
    rw [br_decide]
    refine ⟨fun _ => ?_, fun h => absurd hi (by omega)⟩
    try simp only [Int.toNat_natCast]
    have hK := hK trivial
    have hi2 : i < (fairOf (pr + 1) cl).length := by omega
    have hx := hnx i
    rw [getD_at hi, getD_at hi2] at hx
    have hy := hin _ (List.getElem_mem hi)
    refine ⟨⟨by omega, hi⟩, hi, ?_⟩
    rw [br_beq]
    refine ⟨fun e => ⟨fits64 (by omega) (by omega), ⟨by omega, hi2⟩, hi2, br_no ?_ ⟨fits64 (by omega) (by omega), hK⟩⟩, fun e => ⟨⟨by omega, hi2⟩, hi2, br_no ?_ ⟨fits64 (by omega) (by omega), hK⟩⟩⟩
    · rw [if_pos (by omega)] at hx
      simp [hx]
    · rw [if_neg (by omega)] at hx
      simp [hx]
  · intro K hp
    dsimp only
    rw [br_decide]
    refine ⟨fun h => absurd h (by omega), fun _ => ?_⟩
    exact ⟨trivial, hk⟩
end Go.Abs.Farm
end

section
/- The farm's statements: near shares and quotas. -/
open Go.Proofs
set_option maxRecDepth 100000
set_option linter.unusedVariables false
namespace Go.Abs.Farm

theorem sum_perm {l l' : List Int} (h : l.Perm l') : sumL l = sumL l' := by
  induction h with
  | nil => rfl
  | cons x _ ih => rw [sum_cons, sum_cons, ih]
  | swap x y l => rw [sum_cons, sum_cons, sum_cons, sum_cons]; omega
  | trans _ _ ih1 ih2 => rw [ih1, ih2]
theorem sum_append : ∀ (a b : List Int), sumL (a ++ b) = sumL a + sumL b
  | [], b => by show sumL b = 0 + sumL b; omega
  | x :: a, b => by rw [List.cons_append, sum_cons, sum_cons, sum_append a b]; omega
theorem offs_range (pr : Int) (cl : List Int) : offs0 pr cl = (List.range cl.length).map (remAt pr cl) := by
  apply List.ext_getElem
  · simp [offs0]
  · intro i h1 h2
    have hi : i < cl.length := by simpa using h2
    have := offs_get (pr := pr) hi
    rw [getD_at h1] at this
    rw [this, List.getElem_map, List.getElem_range]
theorem left_mul (pr : Int) (cl : List Int) : leftN pr cl * sumL cl = sumL (offs0 pr cl) := by
  have h1 := sum_split (sumL cl) (fun c => c * pr) cl
  rw [sum_map_mul] at h1
  unfold leftN fls0 offs0
  rw [Int.sub_mul, Int.mul_comm pr]; omega
/-- Only where something is left over a coin more comes. -/
theorem near_pos {pr : Int} {cl : List Int} (hT : 0 < sumL cl) {S : List Nat} (hp : S.Perm (List.range cl.length)) (hs : S.Pairwise (BefR (remAt pr cl))) {i : Nat} (hi : i ∈ S.take (leftN pr cl).toNat) : 0 < remAt pr cl i := by
  refine Int.not_le.1 (fun h0 => ?_)
  have hr : ∀ i, 0 ≤ remAt pr cl i ∧ remAt pr cl i < sumL cl := fun i => ⟨Int.emod_nonneg _ (by omega), Int.emod_lt_of_pos _ hT⟩
  have hm := left_mul pr cl
  rw [offs_range, ← sum_perm (hp.map (remAt pr cl)), ← List.take_append_drop (leftN pr cl).toNat S, List.map_append, sum_append] at hm
  have hz : sumL ((S.drop (leftN pr cl).toNat).map (remAt pr cl)) ≤ 0 := by
    have : ∀ l : List Int, (∀ x ∈ l, x ≤ 0) → sumL l ≤ 0 := by
      intro l
      induction l with
      | nil => intro _; exact Int.le_refl _
      | cons a l ih => intro h; rw [sum_cons]; have := h a (by simp); have := ih (fun x hx => h x (by simp [hx])); omega
    refine this _ (fun x hx => ?_)
    obtain ⟨j, hj, rfl⟩ := List.mem_map.1 hx
    have hpw := hs
    rw [← List.take_append_drop (leftN pr cl).toNat S, List.pairwise_append] at hpw
    have := hpw.2.2 i hi j hj
    unfold BefR at this
    omega
  have hb : ∀ l : List Nat, sumL (l.map (remAt pr cl)) ≤ (sumL cl - 1) * (l.length : Int) := by
    intro l
    induction l with
    | nil => simp [sumL]
    | cons a l ih =>
      have := hr a
      rw [List.map_cons, sum_cons, List.length_cons]
      have e : (sumL cl - 1) * ((l.length + 1 : Nat) : Int) = (sumL cl - 1) * (l.length : Int) + (sumL cl - 1) := by
        show (sumL cl - 1) * ((l.length : Int) + 1) = _; rw [Int.mul_add, Int.mul_one]
      rw [e]; omega
  have h1 := hb (S.take (leftN pr cl).toNat)
  have hlen : ((S.take (leftN pr cl).toNat).length : Int) ≤ leftN pr cl ∧ 0 < (S.take (leftN pr cl).toNat).length := by
    refine ⟨?_, List.length_pos_of_mem hi⟩
    rw [List.length_take]
    have : 0 < (leftN pr cl).toNat := by
      refine Nat.pos_of_ne_zero (fun e => ?_)
      rw [e] at hi; simp at hi
    omega
  have h2 : (sumL cl - 1) * ((S.take (leftN pr cl).toNat).length : Int) ≤ (sumL cl - 1) * leftN pr cl := Int.mul_le_mul_of_nonneg_left hlen.1 (by omega)
  have e : (sumL cl - 1) * leftN pr cl = leftN pr cl * sumL cl - leftN pr cl := by rw [Int.sub_mul, Int.one_mul, Int.mul_comm]
  omega
theorem near_ok {pr : Int} {cl : List Int} (hf : yearErr pr cl = 0) : sharesErr pr cl (nearOf pr cl) = 0 ∧ nearE pr cl (nearOf pr cl) = 0 := by
  obtain ⟨f1, f2, f3, f4, f5, f6⟩ := fine_spec hf
  obtain ⟨g1, g2, g3, g4⟩ := sum_ok hf
  have hl := near_len pr cl
  have hs := near_sum (pr := pr) (cl := cl) (by omega) (by omega)
  have hin : ∀ x ∈ nearOf pr cl, 0 ≤ x := by
    intro x hx
    obtain ⟨i, hi, rfl⟩ := List.getElem_of_mem hx
    have := (near_in hf (leftN pr cl).toNat i).1
    have e : (nearUp pr cl (leftN pr cl).toNat).1.getD i 0 = (nearOf pr cl)[i] := getD_at hi
    rw [e] at this; exact this
  have hle := le_sum hin
  have e1 : sharesErr pr cl (nearOf pr cl) = 0 := by
    unfold sharesErr
    rw [if_neg (by omega), if_neg (by omega), if_neg, if_neg (by omega)]
    unfold anyOut
    rw [Bool.not_eq_true, List.any_eq_false]
    intro x hx
    have := hin x hx
    have := hle x hx
    simp only [outOf, decide_eq_true_eq]
    omega
  refine ⟨e1, ?_⟩
  unfold nearE
  rw [if_neg (by omega), if_neg (fun hb => ?_)]
  obtain ⟨i, hi, hb⟩ := (nearBad_iff _ _ _).1 hb
  rw [hl] at hi
  obtain ⟨S, s1, s2, s3⟩ := near_ex (pr := pr) (cl := cl) (by omega) (by omega)
  have h3 := s3 i hi
  have hr : 0 ≤ remAt pr cl i ∧ remAt pr cl i < sumL cl := ⟨Int.emod_nonneg _ (by omega), Int.emod_lt_of_pos _ (by omega)⟩
  have hd : flAt pr cl i * sumL cl + remAt pr cl i = cl.getD i 0 * pr := by
    have := Int.mul_ediv_add_emod (cl.getD i 0 * pr) (sumL cl)
    rw [Int.mul_comm] at this; exact this
  unfold offAt at hb
  rw [h3] at hb
  by_cases hm : i ∈ S.take (leftN pr cl).toNat
  · have := near_pos (by omega) s1 s2 hm
    rw [if_pos hm, Int.add_mul] at hb; omega
  · rw [if_neg hm, Int.add_zero] at hb; omega
theorem givenFrom_facts : ∀ (l s : List Int), 0 < s.length → (∀ x ∈ s, 0 ≤ x) → (givenFrom s l).length = s.length ∧ sumL (givenFrom s l) = sumL s ∧ ∀ x ∈ givenFrom s l, 0 ≤ x
  | a :: b :: l, s, h0, hp => by
    have hn : 0 < (s.length : Int) := by omega
    have a0 := Int.emod_nonneg a (show (s.length : Int) ≠ 0 by omega)
    have a1 := Int.emod_lt_of_pos a hn
    have b0 := Int.emod_nonneg b (show (s.length : Int) ≠ 0 by omega)
    have b1 := Int.emod_lt_of_pos b hn
    obtain ⟨m1, m2, m3⟩ := move_facts (s := s) (a := (a % (s.length : Int)).toNat) (b := (b % (s.length : Int)).toNat) (by omega) (by omega) hp
    obtain ⟨i1, i2, i3⟩ := givenFrom_facts l (moveOne s (a % (s.length : Int)).toNat (b % (s.length : Int)).toNat) (by omega) m3
    exact ⟨by show (givenFrom (moveOne s _ _) l).length = _; rw [i1, m1], by show sumL (givenFrom (moveOne s _ _) l) = _; rw [i2, m2], i3⟩
  | [a], s, h0, hp => ⟨rfl, rfl, hp⟩
  | [], s, h0, hp => ⟨rfl, rfl, hp⟩
theorem given_ok {pr : Int} {cl : List Int} (hf : yearErr pr cl = 0) (by8 : List Int) : (given pr cl by8).length = cl.length ∧ sumL (given pr cl by8) = pr ∧ (∀ x ∈ given pr cl by8, 0 ≤ x ∧ x ≤ 200) ∧ sharesErr pr cl (given pr cl by8) = 0 := by
  obtain ⟨f1, f2, f3, f4, f5, f6⟩ := fine_spec hf
  obtain ⟨_, q1, q2, q3⟩ := shares_spec (fair_ok hf)
  obtain ⟨i1, i2, i3⟩ := givenFrom_facts by8 (fairOf pr cl) (by omega) (fun x hx => (q2 x hx).1)
  have hle := le_sum i3
  have hb : ∀ x ∈ given pr cl by8, 0 ≤ x ∧ x ≤ 200 := fun x hx => ⟨i3 x hx, by have := hle x hx; omega⟩
  have i1 : (given pr cl by8).length = (fairOf pr cl).length := i1
  have i2 : sumL (given pr cl by8) = sumL (fairOf pr cl) := i2
  refine ⟨by omega, by omega, hb, ?_⟩
  unfold sharesErr
  rw [if_neg (by omega), if_neg (by omega), if_neg, if_neg (by omega)]
  unfold anyOut
  rw [Bool.not_eq_true, List.any_eq_false]
  intro x hx
  have := hb x hx
  simp only [outOf, decide_eq_true_eq]
  omega
theorem by_div {a b : Int} (ha : 0 ≤ a) (hb : 0 < b) : byN a b / byD a b = a / b := by
  have g := gcd_pos a hb
  have e1 := byN_mul (b := b) ha
  have e2 := byD_mul (a := a) (b := b) (by omega)
  have h := Int.mul_ediv_mul_of_pos_left (byN a b) (byD a b) g
  rw [e1, e2] at h
  exact h.symm

theorem k8 (hG : Good Try.prog (envOf [(42, mkC [v42]), (17, mkC [v17]), (24, mkC [v24]), (43, mkC [v43]), (31, mkC [v31]), (45, mkC [v45]), (46, mkC [v46]), (44, mkC [v44]), (18, mkC [v18]), (48, mkC [v48]), (47, mkC [v47])])) : v8.Kept Try.prog 8 := by
  rintro ⟨pr, cl, by8, ⟨⟩⟩ hpre k hk
  change Int at pr
  change List Int at cl
  change List Int at by8
  refine aspec hmix hG Try.func8 tx8 (Eq.mpr (eq8 pr cl by8 k) ?_)
  replace hk : k (.bool true) [] := hk
  unfold vc8
  have hby : ∀ x ∈ by8, (0 : Int) ≤ x ∧ x ≤ 255 := hpre
  refine ⟨trivial, br_intro (fun h1 => br_intro (fun _ => ⟨trivial, hk⟩) (fun h2 => ?_)) (fun _ => ⟨trivial, hk⟩)⟩
  have hf := not_fine' h1
  have hlen : by8.length ≤ 20 := by simp only [decide_eq_false_iff_not] at h2; omega
  obtain ⟨f1, f2, f3, f4, f5, f6⟩ := fine_spec hf
  obtain ⟨g1, g2, g3, g4⟩ := sum_ok hf
  have hN : nearL pr cl = nearOf pr cl := by unfold nearL; rw [if_pos hf]
  obtain ⟨o1, o2⟩ := near_ok hf
  obtain ⟨_, p1, p2, p3⟩ := shares_spec o1
  obtain ⟨v1, v2, v3, v4⟩ := given_ok hf by8
  have hoff : nearOff pr cl (nearOf pr cl) = offN pr cl (nearOf pr cl) := by unfold nearOff; rw [if_pos o2]
  have hleast := near_least (pr := pr) (cl := cl) (s := given pr cl by8) (by omega) (by omega) v1 v2
  rw [hN, hoff]
  refine ⟨by show cl.length ≤ 14; omega, hf, ⟨by show cl.length ≤ 14; omega, by show (nearOf pr cl).length ≤ 14; omega⟩, br_yes (ye0 hf) (br_yes (ye0 o2) ⟨⟨by show cl.length ≤ 14; omega, by show (nearOf pr cl).length ≤ 14; omega⟩, br_yes (ye0 o1) ⟨⟨hf, p1, p2⟩, br_yes (neb _) ⟨⟨hf, by show by8.length ≤ 1000; omega, hby⟩, ⟨hf, v1, v3⟩, br_no (dec_f (by omega)) ?_⟩⟩⟩)⟩
  have hfl : (fairOf pr cl).length = cl.length := fairOf_len _ _
  obtain ⟨S, s1, s2, s3⟩ := near_ex (pr := pr) (cl := cl) (by omega) (by omega)
  refine Loop.upto (fun i => ((i : Int), pr, cl, nearOf pr cl, fairOf pr cl, ())) (fun i => True) (fairOf pr cl).length rfl trivial ?_ ?_
  · intro i K hi hp hK
    dsimp only
    rw [br_decide]
    refine ⟨fun _ => ?_, fun h => absurd hi (by omega)⟩
    try simp only [Int.toNat_natCast]
    have hK := hK trivial
    have hic : i < cl.length := by omega
    have hin : i < (nearOf pr cl).length := by omega
    have hm := clean_mul hf hic
    have e0 : quotaE pr cl (i : Int) = 0 := by unfold quotaE; rw [if_neg (by omega), if_neg (by omega)]
    have ea : at0 cl (i : Int) = cl[i] := by rw [at0_nat, getD_at hic]
    have e3 : quotaN pr cl (i : Int) = byN (cl[i] * pr) (sumL cl) := by unfold quotaN; rw [if_pos e0, ea]
    have e4 : quotaD pr cl (i : Int) = byD (cl[i] * pr) (sumL cl) := by unfold quotaD; rw [if_pos e0, ea]
    have hbi := by_in hm.1 (b := sumL cl) (by omega)
    have hdv := by_div hm.1 (b := sumL cl) (by omega)
    have hq := quo_in hm.1 g3
    have hfq := calm_quota (fun i => (fine_getD hf i).1) (fair_stb hf).1.calm (by omega) hic
    rw [(fair_stb hf).2, getD_at hic, getD_at hi] at hfq
    have hlt : cl[i] * pr / sumL cl < (fairOf pr cl)[i] + 1 := Int.ediv_lt_of_lt_mul (by omega) hfq
    have hnr := s3 i hic
    have hfa : flAt pr cl i = cl[i] * pr / sumL cl := by unfold flAt; rw [getD_at hic]
    rw [hfa, getD_at hin] at hnr
    have hnr2 : cl[i] * pr / sumL cl ≤ (nearOf pr cl)[i] ∧ (nearOf pr cl)[i] ≤ cl[i] * pr / sumL cl + 1 := by
      split at hnr <;> omega
    simp only [e0, e3, e4, hdv]
    refine ⟨by show cl.length ≤ 14; omega, br_yes rfl (br_yes (dec_no (by omega)) (br_yes (dec_no (by omega)) (br_yes (dec_no (by omega)) (br_yes (dec_no (by omega)) ⟨⟨by omega, hic⟩, fits64 (by omega) (by omega), ⟨g1, g2⟩, ⟨hm.1, by show cl[i] * pr ≤ 1000000; omega, g3, by show sumL cl ≤ 1000000; omega⟩, br_yes (by simp) ⟨⟨by omega, hi⟩, hi, ⟨by omega, by omega, fits64 (by omega) (by omega)⟩, br_yes (dec_no (by omega)) ⟨⟨by omega, hin⟩, hin, ⟨by omega, by omega, fits64 (by omega) (by omega)⟩, br_yes (dec_no (by omega)) ⟨⟨by omega, hin⟩, hin, ⟨by omega, by omega, fits64 (by omega) (by omega)⟩, fits64 (by omega) (by omega), br_no (dec_f (by omega)) ⟨fits64 (by omega) (by omega), hK⟩⟩⟩⟩⟩))))⟩
  · intro K hp
    dsimp only
    rw [br_decide]
    refine ⟨fun h => absurd h (by omega), fun _ => ?_⟩
    exact ⟨trivial, hk⟩
end Go.Abs.Farm
end

section
/- The farm's statements: as many times as much; more for one farm. -/
open Go.Proofs
set_option maxRecDepth 100000
set_option linter.unusedVariables false
namespace Go.Abs.Farm

theorem scale_get (t : Int) (cl : List Int) (i : Nat) : (cl.map (fun c => t * c)).getD i 0 = t * cl.getD i 0 := by
  rcases Nat.lt_or_ge i cl.length with hi | hi
  · rw [getD_map0 _ cl i hi]
  · rw [List.getD_eq_getElem?_getD, List.getElem?_eq_none (by simpa using hi), List.getD_eq_getElem?_getD, List.getElem?_eq_none hi]; simp
theorem scale_next {t : Int} (ht : 0 < t) (cl s : List Int) : nextOf (cl.map (fun c => t * c)) s = nextOf cl s := by
  have hst : nextStep (cl.map (fun c => t * c)) s = nextStep cl s := by
    funext b i
    unfold nextStep
    rw [scale_get, scale_get, Int.mul_assoc, Int.mul_assoc]
    by_cases h : cl.getD i 0 * (s.getD b 0 + 1) > cl.getD b 0 * (s.getD i 0 + 1)
    · rw [if_pos h, if_pos (Int.mul_lt_mul_of_pos_left h ht)]
    · rw [if_neg h, if_neg (fun h' => h (Int.lt_of_mul_lt_mul_left h' (by omega)))]
  unfold nextOf
  rw [hst, List.length_map]
theorem scale_fair {t : Int} (ht : 0 < t) (cl : List Int) : ∀ n, fairUp (cl.map (fun c => t * c)) n = fairUp cl n
  | 0 => by show List.replicate _ _ = List.replicate _ _; rw [List.length_map]
  | n + 1 => by
    show (fairUp _ n).set (nextOf _ (fairUp _ n)) _ = (fairUp cl n).set (nextOf cl (fairUp cl n)) _
    rw [scale_fair ht cl n, scale_next ht]
theorem scale_sum (t : Int) : ∀ cl : List Int, sumL (cl.map (fun c => t * c)) = t * sumL cl
  | [] => by simp [sumL]
  | x :: l => by rw [List.map_cons, sum_cons, sum_cons, scale_sum t l, Int.mul_add]
theorem scale_fl {t : Int} (ht : 0 < t) (pr : Int) (cl : List Int) (i : Nat) : flAt pr (cl.map (fun c => t * c)) i = flAt pr cl i := by
  unfold flAt
  rw [scale_get, scale_sum, Int.mul_assoc, Int.mul_ediv_mul_of_pos _ _ ht]
theorem scale_rem {t : Int} (ht : 0 < t) (pr : Int) (cl : List Int) (i : Nat) : remAt pr (cl.map (fun c => t * c)) i = t * remAt pr cl i := by
  unfold remAt
  rw [scale_get, scale_sum, Int.mul_assoc, Int.mul_emod_mul_of_pos _ _ ht]
theorem scale_near {t : Int} (ht : 0 < t) {pr : Int} {cl : List Int} (hT : 0 < sumL cl) (h0 : 0 < cl.length) : nearOf pr (cl.map (fun c => t * c)) = nearOf pr cl := by
  have hl' : (cl.map (fun c => t * c)).length = cl.length := List.length_map _
  have hT' : 0 < sumL (cl.map (fun c => t * c)) := by rw [scale_sum]; exact Int.mul_pos ht hT
  have hfl : fls0 pr (cl.map (fun c => t * c)) = fls0 pr cl := by
    apply List.ext_getElem
    · simp [fls0]
    · intro i h1 h2
      have hi : i < cl.length := by simpa [fls0] using h2
      have a := fls_get (pr := pr) (cl := cl.map (fun c => t * c)) (i := i) (by omega)
      have b := fls_get (pr := pr) hi
      rw [getD_at h1] at a
      rw [getD_at h2] at b
      rw [a, b, scale_fl ht]
  have hlf : leftN pr (cl.map (fun c => t * c)) = leftN pr cl := by unfold leftN; rw [hfl]
  obtain ⟨S, s1, s2⟩ := order_ex (remAt pr cl) cl.length
  have hin := left_in (pr := pr) hT h0
  have a := fun i hi => ((near_spec hT s1 s2 (leftN pr cl).toNat (by omega)).1 i hi).1
  have s2' : S.Pairwise (BefR (remAt pr (cl.map (fun c => t * c)))) := s2.imp (fun {i j} h => by
    unfold BefR at *
    rw [scale_rem ht, scale_rem ht]
    rcases h with h | ⟨h, h'⟩
    · exact .inl (Int.mul_lt_mul_of_pos_left h ht)
    · exact .inr ⟨by rw [h], h'⟩)
  have b := fun i hi => ((near_spec hT' (by rw [hl']; exact s1) s2' (leftN pr cl).toNat (by omega)).1 i hi).1
  apply List.ext_getElem
  · rw [near_len, near_len, hl']
  · intro i h1 h2
    have hi : i < cl.length := by rw [near_len] at h2; exact h2
    have ea := a i hi
    have eb := b i (by omega)
    have e : (nearUp pr (cl.map (fun c => t * c)) (leftN pr cl).toNat).1 = nearOf pr (cl.map (fun c => t * c)) := by unfold nearOf; rw [hlf]
    rw [e, getD_at h1, scale_fl ht] at eb
    have e2 : (nearUp pr cl (leftN pr cl).toNat).1 = nearOf pr cl := rfl
    rw [e2, getD_at h2] at ea
    rw [ea, eb]

theorem k11 (hG : Good Try.prog (envOf [(42, mkC [v42]), (17, mkC [v17]), (43, mkC [v43]), (24, mkC [v24]), (22, mkC [v22]), (28, mkC [v28])])) : v11.Kept Try.prog 11 := by
  rintro ⟨pr, cl, u, ⟨⟩⟩ hpre k hk
  change Int at pr
  change List Int at cl
  change Int at u
  refine aspec hmix hG Try.func11 tx11 (Eq.mpr (eq11 pr cl u k) ?_)
  replace hk : k (.bool true) [] := hk
  unfold vc11
  obtain ⟨u0, u1⟩ := hpre
  have u0 : 0 ≤ u := u0
  have u1 : u ≤ 255 := u1
  refine ⟨trivial, br_intro (fun _ => ⟨trivial, hk⟩) (fun h1 => ?_)⟩
  have hf := not_fine h1
  obtain ⟨f1, f2, f3, f4, f5, f6⟩ := fine_spec hf
  obtain ⟨g1, g2, g3, g4⟩ := sum_ok hf
  have m0 := Int.emod_nonneg u (show (4 : Int) ≠ 0 by omega)
  have m1 := Int.emod_lt_of_pos u (show (0 : Int) < 4 by omega)
  obtain ⟨t, ht⟩ : ∃ t, 1 + u % 4 = t := ⟨_, rfl⟩
  have t0 : 1 ≤ t ∧ t ≤ 4 := by omega
  refine ⟨⟨u0, by omega⟩, fits64 (by omega) (by omega), fits64 (by omega) (by omega), ?_⟩
  rw [ht]
  refine Loop.upto (fun i => (t, (i : Int), pr, cl, pr, (cl.take i).map (fun c => t * c), ())) (fun i => True) cl.length rfl trivial ?_ ?_
  · intro i K hi hp hK
    dsimp only
    rw [br_decide]
    refine ⟨fun _ => ?_, fun h => absurd hi (by omega)⟩
    try simp only [Int.toNat_natCast]
    have hK := hK trivial
    have hx := f5 _ (List.getElem_mem hi)
    have hm := mul_in (A := 4) (B := 100) (show 0 ≤ t by omega) t0.2 hx.1 hx.2
    have ek : (cl.take (i + 1)).map (fun c => t * c) = (cl.take i).map (fun c => t * c) ++ [t * cl[i]] := by
      rw [List.take_succ_eq_append_getElem hi, List.map_append]; rfl
    rw [ek] at hK
    exact ⟨⟨by omega, hi⟩, fits64 (by omega) (by omega), by simp [big]; omega, fits64 (by omega) (by omega), hK⟩
  · intro K hp
    dsimp only
    rw [br_decide]
    refine ⟨fun h => absurd h (by omega), fun _ => ?_⟩
    rw [List.take_of_length_le (Nat.le_refl _)]
    refine ⟨trivial, br_intro (fun _ => ⟨trivial, hk⟩) (fun h2 => ?_)⟩
    have hf2 := not_fine h2
    have e1 : fairOf pr (cl.map (fun c => t * c)) = fairOf pr cl := scale_fair (by omega) cl _
    have n1 : nearL pr cl = nearOf pr cl := by unfold nearL; rw [if_pos hf]
    have n2 : nearL pr (cl.map (fun c => t * c)) = nearOf pr cl := by unfold nearL; rw [if_pos hf2, scale_near (by omega) (by omega) (by omega)]
    have x1 : nextN pr cl = (nextOf cl (fairOf pr cl) : Int) := by unfold nextN; rw [if_pos hf]
    have x2 : nextN pr (cl.map (fun c => t * c)) = (nextOf cl (fairOf pr cl) : Int) := by unfold nextN; rw [if_pos hf2, e1, scale_next (by omega)]
    have l1 : (fairOf pr cl).length ≤ big60 := by rw [fairOf_len]; simp only [big60]; omega
    have l2 : (nearOf pr cl).length ≤ big60 := by rw [near_len]; simp only [big60]; omega
    have hll : (cl.map (fun c => t * c)).length ≤ 14 := by rw [List.length_map]; omega
    simp only [e1, n1, n2, x1, x2]
    exact ⟨hf, hf2, by show cl.length ≤ 14; omega, hll, by show cl.length ≤ 14; omega, hll, ⟨l1, l1⟩, br_yes (eqLt _) (br_yes (ye1 hf) (br_yes (ye1 hf2) ⟨⟨l2, l2⟩, br_yes (eqLt _) (br_yes (ye1 hf) (br_yes (ye1 hf2) (br_yes (eqbt _) ⟨trivial, hk⟩)))⟩))⟩

/-! ### more for one farm -/
theorem longs_kept : ∀ us cs k, cLongs.run us cs k → ASpec Try.prog 49 us cs k := by
  rintro us cs k ⟨hp, hr⟩
  have hp : longsPre us cs := hp
  unfold longsPre at hp
  split at hp
  · have hr : k (.imm (.int .i64) [] true) [] := hr
    have eq : awpF (envOf []) Try.prog kt 49 false Try.f49 [.imm (.int .i64) [] true] [] k = k (.imm (.int .i64) [] true) [] := by kernel_rfl
    exact aspec hmix good_nil Try.func49 tx49 (Eq.mpr eq hr)
  · cases hp
theorem gLongs {l : List (FuncId × Contract)} (hG : Good Try.prog (envOf l)) : Good Try.prog (envOf ((49, cLongs) :: l)) := by
  obtain ⟨c, hc⟩ := Option.isSome_iff_exists.1 (show Try.f49.body.isSome = true by kernel_rfl)
  exact good_cons hG Try.func49 hc (by kernel_rfl) longs_kept

theorem k12 (hG : Good Try.prog (envOf [(42, mkC [v42]), (17, mkC [v17]), (49, cLongs), (43, mkC [v43])])) : v12.Kept Try.prog 12 := by
  rintro ⟨pr, cl, u, w, ⟨⟩⟩ hpre k hk
  change Int at pr
  change List Int at cl
  change Int at u w
  refine aspec hmix hG Try.func12 tx12 (Eq.mpr (eq12 pr cl u w k) ?_)
  replace hk : k (.bool true) [] := hk
  unfold vc12
  obtain ⟨⟨u0, u1⟩, w0, w1⟩ := hpre
  have u0 : 0 ≤ u := u0
  have u1 : u ≤ 255 := u1
  have w0 : 0 ≤ w := w0
  have w1 : w ≤ 255 := w1
  refine ⟨trivial, br_intro (fun _ => ⟨trivial, hk⟩) (fun h1 => ?_)⟩
  have hf := not_fine h1
  obtain ⟨f1, f2, f3, f4, f5, f6⟩ := fine_spec hf
  obtain ⟨q, hq, hq0⟩ := fine_some hf
  have m0 := Int.emod_nonneg u (show (cl.length : Int) ≠ 0 by omega)
  have m1 := Int.emod_lt_of_pos u (show (0 : Int) < (cl.length : Int) by omega)
  obtain ⟨n, hn⟩ : ∃ n : Nat, u % (cl.length : Int) = (n : Int) := ⟨(u % (cl.length : Int)).toNat, by omega⟩
  have hnl : n < cl.length := by omega
  have hx := f5 _ (List.getElem_mem hnl)
  simp only [hn, List.nil_append, Int.toNat_natCast]
  refine ⟨fits64 (by omega) (by omega), ⟨u0, by omega⟩, trivial, by simp [big]; omega, by omega, ⟨by omega, hnl⟩, hnl, fits64 (by omega) (by omega), fits64 (by omega) (by omega), ⟨by omega, hnl⟩, hnl, hf, ?_⟩
  obtain ⟨m, hm⟩ : ∃ m, (if cl[n] + w < 100 then cl[n] + w else 100) = m := ⟨_, rfl⟩
  have hm2 : cl[n] ≤ m ∧ m ≤ 100 := by rw [← hm]; split <;> omega
  simp only [hm]
  have hxl : (cl.set n m).length = cl.length := List.length_set
  have hget : ∀ i, (cl.set n m).getD i 0 = if i = n then m else cl.getD i 0 := fun i => getD_set hnl
  have hf2 : yearErr pr (cl.set n m) = 0 := by
    refine fine_of f1 f2 (by omega) (by omega) (fun x hx => ?_) (q := q) (by omega) ?_
    · rcases List.mem_or_eq_of_mem_set hx with h | h
      · exact f5 x h
      · omega
    · rw [hget]
      split
      · rename_i e; subst e; rw [getD_at hq] at hq0; omega
      · exact hq0
  obtain ⟨s1, z1⟩ := fair_stb hf
  obtain ⟨s2, z2⟩ := fair_stb hf2
  have c1 := fun i => (fine_getD hf i).1
  have c2 := fun i => (fine_getD hf2 i).1
  have own := stable_more c1 c2 hxl s1 s2 (by omega) hnl (by rw [hget, if_pos rfl, getD_at hnl]; exact hm2.1) (fun k hk => by rw [hget, if_neg hk]; exact Int.le_refl _)
  have oth := fun (k : Nat) hk hkn => stable_others c1 c2 hxl s1 s2 (by omega) hnl (by rw [hget, if_pos rfl, getD_at hnl]; exact hm2.1) (fun k hk => by rw [hget, if_neg hk]) (k := k) hk hkn
  have hfl : (fairOf pr cl).length = cl.length := fairOf_len _ _
  have hgl : (fairOf pr (cl.set n m)).length = cl.length := by rw [fairOf_len, hxl]
  rw [getD_at (by omega : n < (fairOf pr cl).length), getD_at (by omega : n < (fairOf pr (cl.set n m)).length)] at own
  refine ⟨by show yearErr pr (cl.set n (if cl[n] + w < 100 then cl[n] + w else 100)) = 0; rw [hm]; exact hf2, ⟨by omega, by omega⟩, by omega, ⟨by omega, by omega⟩, by omega, br_no (dec_f (by omega)) ?_⟩
  refine Loop.upto (fun i => ((n : Int), (i : Int), fairOf pr cl, fairOf pr (cl.set n m), ())) (fun i => True) (fairOf pr cl).length rfl trivial ?_ ?_
  · intro i K hi hp hK
    dsimp only
    rw [br_decide]
    refine ⟨fun _ => ?_, fun h => absurd hi (by omega)⟩
    try simp only [Int.toNat_natCast]
    have hK := hK trivial
    have hi2 : i < (fairOf pr (cl.set n m)).length := by omega
    rw [br_bt]
    refine ⟨fun hne => ⟨⟨by omega, hi2⟩, hi2, ⟨by omega, hi⟩, hi, ?_⟩, fun _ => ⟨fits64 (by omega) (by omega), hK⟩⟩
    have hne : i ≠ n := by intro e; subst e; simp at hne
    have := oth i (by omega) hne
    rw [getD_at hi, getD_at hi2] at this
    exact br_no (dec_f (by omega)) ⟨fits64 (by omega) (by omega), hK⟩
  · intro K hp
    dsimp only
    rw [br_decide]
    refine ⟨fun h => absurd h (by omega), fun _ => ?_⟩
    exact ⟨trivial, hk⟩
end Go.Abs.Farm
end

section
/- The farm's statements: spans; farms with as much. -/
open Go.Proofs
set_option maxRecDepth 100000
set_option linter.unusedVariables false
namespace Go.Abs.Farm

/-- Of a truth the fair share is within the span. -/
theorem span_bound {pr : Int} {rs : List (Int × Int)} {cl : List Int} (h : roughErr pr rs = 0) (hf : yearErr pr cl = 0) (hl : cl.length = rs.length) (hin : ∀ i : Nat, i < rs.length → (rs.getD i (0, 0)).1 ≤ cl.getD i 0 ∧ cl.getD i 0 ≤ (rs.getD i (0, 0)).2) {n : Nat} (hn : n < rs.length) :
    (fairOf pr (truthOf rs (n : Int) true)).getD n 0 ≤ (fairOf pr cl).getD n 0 ∧ (fairOf pr cl).getD n 0 ≤ (fairOf pr (truthOf rs (n : Int) false)).getD n 0 := by
  have t1 := truth_fine h (n : Int) true
  have t2 := truth_fine h (n : Int) false
  obtain ⟨s0, z0⟩ := fair_stb hf
  obtain ⟨s1, z1⟩ := fair_stb t1
  obtain ⟨s2, z2⟩ := fair_stb t2
  have c0 := fun i => (fine_getD hf i).1
  have c1 := fun i => (fine_getD t1 i).1
  have c2 := fun i => (fine_getD t2 i).1
  have l1 : (truthOf rs (n : Int) true).length = rs.length := truth_len _ _ _
  have l2 : (truthOf rs (n : Int) false).length = rs.length := truth_len _ _ _
  have g : ∀ b (i : Nat), i < rs.length → (truthOf rs (n : Int) b).getD i 0 = if (decide (i = n)) == b then (rs.getD i (0, 0)).1 else (rs.getD i (0, 0)).2 := fun b i hi => by
    rw [truth_get hi]
    unfold truthAt
    have : decide ((i : Int) = (n : Int)) = decide (i = n) := by rw [decide_eq_decide]; omega
    rw [this]
  have out : ∀ (l : List Int) (i : Nat), l.length ≤ i → l.getD i 0 = 0 := fun l i hi => by rw [List.getD_eq_getElem?_getD, List.getElem?_eq_none hi]; rfl
  constructor
  · refine stable_more c1 c0 (by omega) s1 s0 (by omega) (by omega) ?_ (fun k hk => ?_)
    · rw [g true n hn, if_pos (by simp)]; exact (hin n hn).1
    · rcases Nat.lt_or_ge k rs.length with h1 | h1
      · rw [g true k h1, if_neg (by simp [hk])]; exact (hin k h1).2
      · rw [out _ _ (by omega), out _ _ (by omega)]; exact Int.le_refl _
  · refine stable_more c0 c2 (by omega) s0 s2 (by omega) (by omega) ?_ (fun k hk => ?_)
    · rw [g false n hn, if_neg (by simp)]; exact (hin n hn).2
    · rcases Nat.lt_or_ge k rs.length with h1 | h1
      · rw [g false k h1, if_pos (by simp [hk])]; exact (hin k h1).1
      · rw [out _ _ (by omega), out _ _ (by omega)]; exact Int.le_refl _
theorem not_sound {pr : Int} {rs : List (Int × Int)} (h : Bool.not (sound pr rs) = false) : roughErr pr rs = 0 := by
  simp [sound, wide, reIs] at h
  exact h.2
theorem true_len (rs : List (Int × Int)) (by8 : List Int) : (trueOf rs by8).length = rs.length := by unfold trueOf; simp
theorem true_get {rs : List (Int × Int)} {by8 : List Int} {i : Nat} (hi : i < rs.length) : (trueOf rs by8).getD i 0 = trueAt rs by8 i := by
  rw [getD_at (by rw [true_len]; exact hi)]
  unfold trueOf
  rw [List.getElem_map, List.getElem_range]
theorem true_in {rs : List (Int × Int)} (h : ∀ r ∈ rs, 0 ≤ r.1 ∧ r.1 ≤ r.2 ∧ r.2 ≤ 100) (by8 : List Int) {i : Nat} (hi : i < rs.length) : (rs.getD i (0, 0)).1 ≤ (trueOf rs by8).getD i 0 ∧ (trueOf rs by8).getD i 0 ≤ (rs.getD i (0, 0)).2 := by
  have h1 := h _ (List.getElem_mem hi)
  have hr : rs.getD i (0, 0) = rs[i] := getD_at hi
  rw [true_get hi]
  unfold trueAt
  rw [hr]
  have q0 := Int.emod_nonneg (if by8 = [] then 0 else by8.getD (i % by8.length) 0) (show rs[i].2 - rs[i].1 + 1 ≠ 0 by omega)
  have q1 := Int.emod_lt_of_pos (if by8 = [] then 0 else by8.getD (i % by8.length) 0) (show 0 < rs[i].2 - rs[i].1 + 1 by omega)
  omega
theorem within_fine {pr : Int} {rs : List (Int × Int)} {cl : List Int} (h : roughErr pr rs = 0) (hl : cl.length = rs.length) (hin : ∀ i : Nat, i < rs.length → (rs.getD i (0, 0)).1 ≤ cl.getD i 0 ∧ cl.getD i 0 ≤ (rs.getD i (0, 0)).2) : yearErr pr cl = 0 := by
  obtain ⟨h1, h2, h3, h4, h5, q, hq, hp⟩ := rough_spec h
  refine fine_of h1 h2 (by omega) (by omega) (fun x hx => ?_) (q := q) (by omega) ?_
  · obtain ⟨i, hi, rfl⟩ := List.getElem_of_mem hx
    have a := hin i (by omega)
    have b := h5 _ (List.getElem_mem (show i < rs.length by omega))
    rw [getD_at hi, getD_at (show i < rs.length by omega)] at a
    omega
  · have := hin q hq; omega

theorem k13 (hG : Good Try.prog (envOf [(50, mkC [v50]), (17, mkC [v17]), (51, mkC [v51]), (43, mkC [v43]), (38, mkC [v38])])) : v13.Kept Try.prog 13 := by
  rintro ⟨pr, rs, by8, u, ⟨⟩⟩ hpre k hk
  change Int at pr
  change List (Int × Int) at rs
  change List Int at by8
  change Int at u
  refine aspec hmix hG Try.func13 tx13 (Eq.mpr (eq13 pr rs by8 u k) ?_)
  replace hk : k (.bool true) [] := hk
  unfold vc13
  obtain ⟨hby, u0, u1⟩ := hpre
  have hby : ∀ x ∈ by8, (0 : Int) ≤ x ∧ x ≤ 255 := hby
  have u0 : 0 ≤ u := u0
  have u1 : u ≤ 255 := u1
  refine ⟨trivial, br_intro (fun h1 => br_intro (fun _ => ⟨trivial, hk⟩) (fun h2 => ?_)) (fun _ => ⟨trivial, hk⟩)⟩
  have hr : roughErr pr rs = 0 := not_sound (by simpa using h1)
  have hlen : by8.length ≤ 20 := by simp only [decide_eq_false_iff_not] at h2; omega
  obtain ⟨p1, p2, p3, p4, p5, p6⟩ := rough_spec hr
  have m0 := Int.emod_nonneg u (show (rs.length : Int) ≠ 0 by omega)
  have m1 := Int.emod_lt_of_pos u (show (0 : Int) < (rs.length : Int) by omega)
  obtain ⟨n, hn⟩ : ∃ n : Nat, u % (rs.length : Int) = (n : Int) := ⟨(u % (rs.length : Int)).toNat, by omega⟩
  have hnl : n < rs.length := by omega
  have htl := true_len rs by8
  have hti := fun i hi => true_in p5 by8 (i := i) hi
  have hft := within_fine hr htl hti
  have hfl : (fairOf pr (trueOf rs by8)).length = rs.length := by rw [fairOf_len, htl]
  have hsp : ∀ (rs' : List (Int × Int)), roughErr pr rs' = 0 → rs'.length = rs.length → spanE pr rs' (n : Int) = 0 ∧ spanLo pr rs' (n : Int) = (fairOf pr (truthOf rs' (n : Int) true)).getD n 0 ∧ spanHi pr rs' (n : Int) = (fairOf pr (truthOf rs' (n : Int) false)).getD n 0 := fun rs' h1 h2 => by
    have e0 : spanE pr rs' (n : Int) = 0 := by unfold spanE; rw [if_neg (by omega), if_neg (by omega)]
    refine ⟨e0, ?_, ?_⟩
    · unfold spanLo; rw [if_pos e0, at0_nat]
    · unfold spanHi; rw [if_pos e0, at0_nat]
  obtain ⟨q0, q1, q2⟩ := hsp rs hr rfl
  obtain ⟨b1, b2⟩ := span_bound hr hft htl hti hnl
  rw [← q1, getD_at (by omega : n < (fairOf pr (trueOf rs by8)).length)] at b1
  rw [← q2, getD_at (by omega : n < (fairOf pr (trueOf rs by8)).length)] at b2
  have htn : n < (trueOf rs by8).length := by omega
  simp only [hn, List.nil_append, Int.toNat_natCast, q0]
  refine ⟨⟨by show rs.length ≤ 14; omega, p5, by show by8.length ≤ 1000; omega, hby⟩, fits64 (by omega) (by omega), ⟨u0, by omega⟩, hft, by show rs.length ≤ 14; omega, by simp [big]; omega, ⟨by omega, htn⟩, ⟨by omega, htn⟩, ⟨by omega, hnl⟩, hnl, trivial, br_intro (fun _ => ?_) (fun h3 => ?_)⟩
  · exact br_yes rfl ⟨⟨by omega, by omega⟩, by omega, br_yes (dec_yes b1) ⟨⟨by omega, by omega⟩, by omega, br_yes (dec_yes b2) ⟨trivial, hk⟩⟩⟩
  have hx : roughErr pr (rs.set n ((trueOf rs by8)[n], (trueOf rs by8)[n])) = 0 := not_sound h3
  have hxl : (rs.set n ((trueOf rs by8)[n], (trueOf rs by8)[n])).length = rs.length := List.length_set
  have hxg : ∀ i : Nat, (rs.set n ((trueOf rs by8)[n], (trueOf rs by8)[n])).getD i (0, 0) = if i = n then ((trueOf rs by8)[n], (trueOf rs by8)[n]) else rs.getD i (0, 0) := fun i => by
    rw [List.getD_eq_getElem?_getD, List.getElem?_set]
    by_cases e : n = i
    · subst e; rw [if_pos rfl, if_pos hnl, if_pos rfl]; rfl
    · rw [if_neg e, if_neg (fun e' => e e'.symm), List.getD_eq_getElem?_getD]
  have hgn : (trueOf rs by8).getD n 0 = (trueOf rs by8)[n] := getD_at htn
  have hxt : ∀ i : Nat, i < (rs.set n ((trueOf rs by8)[n], (trueOf rs by8)[n])).length → ((rs.set n ((trueOf rs by8)[n], (trueOf rs by8)[n])).getD i (0, 0)).1 ≤ (trueOf rs by8).getD i 0 ∧ (trueOf rs by8).getD i 0 ≤ ((rs.set n ((trueOf rs by8)[n], (trueOf rs by8)[n])).getD i (0, 0)).2 := fun i hi => by
    rw [hxg]
    by_cases e : i = n
    · rw [if_pos e, e, hgn]; exact ⟨Int.le_refl _, Int.le_refl _⟩
    · rw [if_neg e]; exact hti i (by omega)
  obtain ⟨w0, w1, w2⟩ := hsp _ hx hxl
  obtain ⟨d1, d2⟩ := span_bound hx hft (by omega) hxt (n := n) (by omega)
  rw [← w1, getD_at (by omega : n < (fairOf pr (trueOf rs by8)).length)] at d1
  rw [← w2, getD_at (by omega : n < (fairOf pr (trueOf rs by8)).length)] at d2
  have sub : ∀ b (i : Nat), i < rs.length → (rs.getD i (0, 0)).1 ≤ (truthOf (rs.set n ((trueOf rs by8)[n], (trueOf rs by8)[n])) (n : Int) b).getD i 0 ∧ (truthOf (rs.set n ((trueOf rs by8)[n], (trueOf rs by8)[n])) (n : Int) b).getD i 0 ≤ (rs.getD i (0, 0)).2 := fun b i hi => by
    have a := truth_in (rs := rs.set n ((trueOf rs by8)[n], (trueOf rs by8)[n])) (rough_spec hx).2.2.2.2.1 (f := (n : Int)) (b := b) (i := i) (by omega)
    rw [truth_get (by omega)]
    rw [hxg] at a
    by_cases e : i = n
    · rw [if_pos e] at a
      have := hti i hi
      rw [e, hgn] at this
      subst e
      simp only at a
      omega
    · rw [if_neg e] at a; omega
  have e1 := (span_bound hr (truth_fine hx (n : Int) true) (by rw [truth_len, hxl]) (sub true) hnl).1
  have e2 := (span_bound hr (truth_fine hx (n : Int) false) (by rw [truth_len, hxl]) (sub false) hnl).2
  rw [← q1, ← w1] at e1
  rw [← q2, ← w2] at e2
  exact ⟨by show (rs.set n ((trueOf rs by8)[n], (trueOf rs by8)[n])).length ≤ 14; omega, br_yes rfl ⟨⟨by omega, by omega⟩, by omega, br_yes (dec_yes b1) ⟨⟨by omega, by omega⟩, by omega, br_yes (dec_yes b2) (br_yes (ye1 w0) (br_yes (dec_yes e1) (br_yes (dec_yes e2) ⟨⟨by omega, by omega⟩, by omega, br_yes (dec_yes d1) ⟨⟨by omega, by omega⟩, by omega, br_yes (dec_yes d2) ⟨trivial, hk⟩⟩⟩)))⟩⟩⟩

/-! ### farms with as much -/
theorem two_places {n : Nat} {u w : Int} (hn : 2 ≤ n) (u0 : 0 ≤ u) (w0 : 0 ≤ w) : ∃ i k : Nat, u % ((n : Int) - 1) = (i : Int) ∧ (i : Int) + 1 + w % ((n : Int) - 1 - (i : Int)) = (k : Int) ∧ i < k ∧ k < n := by
  have m0 := Int.emod_nonneg u (show (n : Int) - 1 ≠ 0 by omega)
  have m1 := Int.emod_lt_of_pos u (show (0 : Int) < (n : Int) - 1 by omega)
  refine ⟨(u % ((n : Int) - 1)).toNat, ((((u % ((n : Int) - 1)).toNat : Nat) : Int) + 1 + w % ((n : Int) - 1 - (((u % ((n : Int) - 1)).toNat : Nat) : Int))).toNat, by omega, ?_⟩
  have e : (((u % ((n : Int) - 1)).toNat : Nat) : Int) = u % ((n : Int) - 1) := by omega
  rw [e]
  have q0 := Int.emod_nonneg w (show (n : Int) - 1 - u % ((n : Int) - 1) ≠ 0 by omega)
  have q1 := Int.emod_lt_of_pos w (show (0 : Int) < (n : Int) - 1 - u % ((n : Int) - 1) by omega)
  generalize u % ((n : Int) - 1) = a at *
  generalize w % ((n : Int) - 1 - a) = b at *
  omega

theorem k14 (hG : Good Try.prog (envOf [(42, mkC [v42]), (17, mkC [v17]), (49, cLongs), (43, mkC [v43]), (24, mkC [v24])])) : v14.Kept Try.prog 14 := by
  rintro ⟨pr, cl, u, w, ⟨⟩⟩ hpre k hk
  change Int at pr
  change List Int at cl
  change Int at u w
  refine aspec hmix hG Try.func14 tx14 (Eq.mpr (eq14 pr cl u w k) ?_)
  replace hk : k (.bool true) [] := hk
  unfold vc14
  obtain ⟨⟨u0, u1⟩, w0, w1⟩ := hpre
  have u0 : 0 ≤ u := u0
  have u1 : u ≤ 255 := u1
  have w0 : 0 ≤ w := w0
  have w1 : w ≤ 255 := w1
  refine ⟨trivial, br_intro (fun h1 => br_intro (fun _ => ⟨trivial, hk⟩) (fun h2 => ?_)) (fun _ => ⟨trivial, hk⟩)⟩
  have hf := not_fine' h1
  have h2 : ¬ ((cl.length : Int) < 2) := by simpa using h2
  obtain ⟨f1, f2, f3, f4, f5, f6⟩ := fine_spec hf
  obtain ⟨i, j, hi, hj, hij, hjl⟩ := two_places (n := cl.length) (u := u) (w := w) (by omega) u0 w0
  have hw0 := Int.emod_nonneg w (show (cl.length : Int) - 1 - (i : Int) ≠ 0 by omega)
  have hil : i < cl.length := by omega
  simp only [hi, hj, List.nil_append, Int.toNat_natCast]
  refine ⟨fits64 (by omega) (by omega), fits64 (by omega) (by omega), ⟨u0, by omega⟩, fits64 (by omega) (by omega), fits64 (by omega) (by omega), fits64 (by omega) (by omega), fits64 (by omega) (by omega), ⟨w0, by omega⟩, fits64 (by omega) (by omega), trivial, by simp [big]; omega, by omega, ⟨by omega, hil⟩, hil, ⟨by omega, hjl⟩, hjl, trivial, br_intro (fun _ => ⟨trivial, hk⟩) (fun h3 => ?_)⟩
  have hx : yearErr pr (cl.set j cl[i]) = 0 := not_fine h3
  have hxl : (cl.set j cl[i]).length = cl.length := List.length_set
  have hget : ∀ k, (cl.set j cl[i]).getD k 0 = if k = j then cl[i] else cl.getD k 0 := fun k => getD_set hjl
  obtain ⟨x1, x2, x3, x4, x5, x6⟩ := fine_spec hx
  obtain ⟨qx, hqx, hqx0⟩ := fine_some hx
  obtain ⟨g1, g2, g3, g4⟩ := sum_ok hx
  have heq : (cl.set j cl[i]).getD i 0 = (cl.set j cl[i]).getD j 0 := by rw [hget, hget, if_neg (by omega), if_pos rfl, getD_at hil]
  have al := stable_alike (fun i => (fine_getD hx i).1) hqx hqx0 (fair_stb hx).1 hij (by omega) heq
  have nl := near_alike (pr := pr) (cl := cl.set j cl[i]) (by omega) hij (by omega) heq
  have hnL : nearL pr (cl.set j cl[i]) = nearOf pr (cl.set j cl[i]) := by unfold nearL; rw [if_pos hx]
  have hfl : (fairOf pr (cl.set j cl[i])).length = cl.length := by rw [fairOf_len, hxl]
  have hgl : (fairOf pr cl).length = cl.length := fairOf_len _ _
  have hnl : (nearL pr (cl.set j cl[i])).length = cl.length := by rw [hnL, near_len, hxl]
  have calm := (fair_stb hf).1.calm
  have cc := fun i => (fine_getD hf i).1
  have gr1 := calm_greater cc calm hil hjl
  have gr2 := calm_greater cc calm hjl hil
  rw [getD_at hil, getD_at hjl, getD_at (by omega : i < (fairOf pr cl).length), getD_at (by omega : j < (fairOf pr cl).length)] at gr1 gr2
  rw [← hnL] at nl
  rw [getD_at (by omega : i < (fairOf pr (cl.set j cl[i])).length), getD_at (by omega : j < (fairOf pr (cl.set j cl[i])).length)] at al
  rw [getD_at (by omega : i < (nearL pr (cl.set j cl[i])).length), getD_at (by omega : j < (nearL pr (cl.set j cl[i])).length)] at nl
  have fin := fair_in (cl := cl.set j cl[i]) (n := pr.toNat) (by omega)
  have b1 := fin _ (List.getElem_mem (show j < (fairOf pr (cl.set j cl[i])).length by omega))
  have b2 := near_in hx (leftN pr (cl.set j cl[i])).toNat j
  have e2 : (nearUp pr (cl.set j cl[i]) (leftN pr (cl.set j cl[i])).toNat).1 = nearL pr (cl.set j cl[i]) := by rw [hnL]; rfl
  have hlx := left_in (pr := pr) (cl := cl.set j cl[i]) (by omega) (by omega)
  rw [e2, getD_at (by omega : j < (nearL pr (cl.set j cl[i])).length)] at b2
  refine ⟨hx, by show (cl.set j cl[i]).length ≤ 14; omega, hf, br_yes (ye0 hx) (br_yes (by simp [hnl]) ⟨⟨by omega, by omega⟩, by omega, ⟨by omega, by omega⟩, by omega, br_yes (dec_no (by omega)) ⟨⟨by omega, by omega⟩, by omega, ⟨by omega, by omega⟩, by omega, fits64 (by omega) (by omega), br_yes (dec_no (by omega)) ⟨⟨by omega, by omega⟩, by omega, ⟨by omega, by omega⟩, by omega, br_yes (dec_no (by omega)) ⟨⟨by omega, by omega⟩, by omega, ⟨by omega, by omega⟩, by omega, fits64 (by omega) (by omega), br_no (dec_f (by omega)) ⟨⟨by omega, hil⟩, ⟨by omega, hjl⟩, ?_⟩⟩⟩⟩⟩)⟩
  have last : ∃ h19 : (0 : Int) ≤ (j : Int) ∧ j < cl.length, ∃ h20 : (0 : Int) ≤ (i : Int) ∧ i < cl.length, br (decide (cl[j] ≤ cl[i]) == false) (((0 : Int) ≤ (j : Int) ∧ j < (fairOf pr cl).length) ∧ ∃ h21 : j < (fairOf pr cl).length, ((0 : Int) ≤ (i : Int) ∧ i < (fairOf pr cl).length) ∧ ∃ h22 : i < (fairOf pr cl).length, br (decide ((fairOf pr cl)[j] ≥ (fairOf pr cl)[i]) == true) (Farm.v17.p () ∧ k (.bool true) []) (k (.bool false) [])) (Farm.v17.p () ∧ k (.bool true) []) := by
    refine ⟨⟨by omega, hjl⟩, ⟨by omega, hil⟩, ?_⟩
    rw [br_false]
    refine ⟨fun h => ⟨⟨by omega, by omega⟩, by omega, ⟨by omega, by omega⟩, by omega, br_yes (dec_yes (gr2 (by omega))) ⟨trivial, hk⟩⟩, fun _ => ⟨trivial, hk⟩⟩
  rw [br_false]
  refine ⟨fun h => ⟨⟨by omega, by omega⟩, by omega, ⟨by omega, by omega⟩, by omega, br_yes (dec_yes (gr1 (by omega))) last⟩, fun _ => last⟩
end Go.Abs.Farm
end

section
/- The farm's statements: joined farms. -/
open Go.Proofs
set_option maxRecDepth 100000
set_option linter.unusedVariables false
namespace Go.Abs.Farm

/-- The joined list, so far. -/
def joinTo (cl : List Int) (i k : Nat) : Nat → List Int
  | 0 => []
  | j + 1 => if j = k then joinTo cl i k j else joinTo cl i k j ++ [if j = i then cl.getD i 0 + cl.getD k 0 else cl.getD j 0]
theorem joinTo_len (cl : List Int) (i k : Nat) : ∀ j, (joinTo cl i k j).length = if j ≤ k then j else j - 1
  | 0 => by simp [joinTo]
  | j + 1 => by
    have := joinTo_len cl i k j
    unfold joinTo
    by_cases e : j = k
    · rw [if_pos e, this]; subst e; rw [if_pos (Nat.le_refl _), if_neg (by omega)]; omega
    · rw [if_neg e, List.length_append, List.length_singleton, this]
      split <;> split <;> omega
theorem joinTo_get {cl : List Int} {i k : Nat} (hik : i < k) : ∀ (j m : Nat), m < (joinTo cl i k j).length → (joinTo cl i k j).getD m 0 = if m = i then cl.getD i 0 + cl.getD k 0 else cl.getD (outK k m) 0
  | 0, m, h => by simp [joinTo] at h
  | j + 1, m, h => by
    have hl := joinTo_len cl i k j
    have hl1 := joinTo_len cl i k (j + 1)
    have ih := joinTo_get (cl := cl) hik j m
    unfold joinTo at h ⊢
    by_cases e : j = k
    · rw [if_pos e] at h ⊢; exact ih h
    · rw [if_neg e] at h ⊢
      rcases Nat.lt_or_ge m (joinTo cl i k j).length with h1 | h1
      · rw [List.getD_eq_getElem?_getD, List.getElem?_append_left h1, ← List.getD_eq_getElem?_getD]; exact ih h1
      · have hm : m = (joinTo cl i k j).length := by rw [List.length_append, List.length_singleton] at h; omega
        rw [List.getD_eq_getElem?_getD, List.getElem?_append_right h1, hm, Nat.sub_self]
        simp only [List.getElem?_cons_zero, Option.getD_some]
        rw [hl]
        by_cases h2 : j ≤ k
        · rw [if_pos h2]
          have ho : outK k j = j := by unfold outK; rw [if_pos (by omega)]
          rw [ho]
        · rw [if_neg h2]
          have ho : outK k (j - 1) = j := by unfold outK; rw [if_neg (by omega)]; omega
          rw [ho, if_neg (by omega), if_neg (by omega)]
theorem joinTo_end {cl : List Int} {i k : Nat} (hik : i < k) (hk : k < cl.length) : joinTo cl i k cl.length = joined cl i k := by
  have hl := joinTo_len cl i k cl.length
  rw [if_neg (by omega)] at hl
  have hj := joined_len (l := cl) (i := i) hk
  apply List.ext_getElem
  · omega
  · intro m h1 h2
    have a := joinTo_get (cl := cl) hik cl.length m h1
    have b := joined_get (l := cl) hik hk m
    rw [getD_at h1] at a
    rw [getD_at h2] at b
    rw [a, b]

theorem k10 (hG : Good Try.prog (envOf [(42, mkC [v42]), (17, mkC [v17]), (43, mkC [v43])])) : v10.Kept Try.prog 10 := by
  rintro ⟨pr, cl, u, w, ⟨⟩⟩ hpre k hk
  change Int at pr
  change List Int at cl
  change Int at u w
  refine aspec hmix hG Try.func10 tx10 (Eq.mpr (eq10 pr cl u w k) ?_)
  replace hk : k (.bool true) [] := hk
  unfold vc10
  obtain ⟨⟨u0, u1⟩, w0, w1⟩ := hpre
  have u0 : 0 ≤ u := u0
  have u1 : u ≤ 255 := u1
  have w0 : 0 ≤ w := w0
  have w1 : w ≤ 255 := w1
  refine ⟨trivial, br_intro (fun h1 => br_intro (fun _ => ⟨trivial, hk⟩) (fun h2 => ?_)) (fun _ => ⟨trivial, hk⟩)⟩
  have hf := not_fine' h1
  have h2 : ¬ ((cl.length : Int) < 2) := by simpa using h2
  obtain ⟨f1, f2, f3, f4, f5, f6⟩ := fine_spec hf
  obtain ⟨i, j, hi, hj, hij, hjl⟩ := two_places (n := cl.length) (u := u) (w := w) (by omega) u0 w0
  have hw0 := Int.emod_nonneg w (show (cl.length : Int) - 1 - (i : Int) ≠ 0 by omega)
  have hil : i < cl.length := by omega
  simp only [hi, hj]
  refine ⟨fits64 (by omega) (by omega), fits64 (by omega) (by omega), ⟨u0, by omega⟩, fits64 (by omega) (by omega), fits64 (by omega) (by omega), fits64 (by omega) (by omega), fits64 (by omega) (by omega), ⟨w0, by omega⟩, fits64 (by omega) (by omega), ?_⟩
  refine Loop.upto (fun m => (((cl.length : Nat) : Int), (i : Int), (j : Int), (m : Int), pr, cl, pr, joinTo cl i j m, ())) (fun i => True) cl.length rfl trivial ?_ ?_
  · intro m K hm _ hK
    dsimp only
    have hK := hK trivial
    have hlen := joinTo_len cl i j m
    have hle : (joinTo cl i j m).length ≤ 8 := by rw [hlen]; split <;> omega
    unfold joinTo at hK
    rw [br_decide]
    refine ⟨fun _ => ?_, fun h => absurd hm (by omega)⟩
    simp only [Int.toNat_natCast]
    rw [br_beq]
    refine ⟨fun e => ⟨fits64 (by omega) (by omega), ?_⟩, fun e => ⟨⟨by omega, hm⟩, ?_⟩⟩
    · rw [if_pos (by omega)] at hK; exact hK
    · rw [if_neg (by omega)] at hK
      rw [br_beq]
      have x1 := f5 _ (List.getElem_mem hm)
      have x2 := f5 _ (List.getElem_mem hjl)
      refine ⟨fun e2 => ⟨⟨by omega, hjl⟩, fits64 (by omega) (by omega), by simp [big]; omega, fits64 (by omega) (by omega), ?_⟩, fun e2 => ⟨by simp [big]; omega, fits64 (by omega) (by omega), ?_⟩⟩
      · have e2 : m = i := by omega
        subst e2
        rw [if_pos rfl, getD_at hm, getD_at hjl] at hK; exact hK
      · rw [if_neg (by omega), getD_at hm] at hK; exact hK
  · intro K _
    dsimp only
    rw [br_decide]
    refine ⟨fun h => absurd h (by omega), fun _ => ?_⟩
    rw [joinTo_end hij hjl]
    simp only [Int.toNat_natCast]
    refine ⟨trivial, br_intro (fun _ => ⟨trivial, hk⟩) (fun h3 => ?_)⟩
    have hx := not_fine h3
    obtain ⟨q, hq, hq0⟩ := fine_some hf
    obtain ⟨s1, z1⟩ := fair_stb hf
    obtain ⟨s2, z2⟩ := fair_stb hx
    obtain ⟨⟨a1, a2⟩, a3⟩ := stable_joined (fun i => (fine_getD hf i).1) hij hjl s1 s2 (by omega) hq hq0
    have hjo := joined_len (l := cl) (i := i) hjl
    have hfl : (fairOf pr cl).length = cl.length := fairOf_len _ _
    have hgl : (fairOf pr (joined cl i j)).length = cl.length - 1 := by rw [fairOf_len, hjo]
    have fin := fair_in (cl := cl) (n := pr.toNat) (by omega)
    have fi : i < (fairOf pr cl).length := by omega
    have fj : j < (fairOf pr cl).length := by omega
    have gi : i < (fairOf pr (joined cl i j)).length := by omega
    have y1 := fin _ (List.getElem_mem fi)
    have y2 := fin _ (List.getElem_mem fj)
    have y1 : 0 ≤ (fairOf pr cl)[i] ∧ (fairOf pr cl)[i] ≤ 1000 := y1
    have y2 : 0 ≤ (fairOf pr cl)[j] ∧ (fairOf pr cl)[j] ≤ 1000 := y2
    rw [getD_at fi, getD_at fj, getD_at gi] at a1 a2
    refine ⟨hf, hx, ⟨by omega, gi⟩, gi, ⟨by omega, fi⟩, fi, ⟨by omega, fj⟩, fj, fits64 (by omega) (by omega), br_yes (dec_no (by omega)) ⟨⟨by omega, gi⟩, gi, ⟨by omega, fi⟩, fi, ⟨by omega, fj⟩, fj, fits64 (by omega) (by omega), fits64 (by omega) (by omega), br_no (dec_f (by omega)) ?_⟩⟩
    refine Loop.upto (fun m => (((cl.length : Nat) : Int), (i : Int), (j : Int), (m : Int), fairOf pr cl, fairOf pr (joined cl i j), ())) (fun i => True) cl.length rfl trivial ?_ ?_
    · intro m K2 hm _ hK
      dsimp only
      have hK := hK trivial
      rw [br_decide]
      refine ⟨fun _ => ?_, fun h => absurd hm (by omega)⟩
      simp only [Int.toNat_natCast]
      have fm : m < (fairOf pr cl).length := by omega
      rw [br_decide]
      refine ⟨fun hgt => ⟨fits64 (by omega) (by omega), ?_⟩, fun hgt => ?_⟩
      · rw [br_bt]
        refine ⟨fun _ => ?_, fun _ => ⟨fits64 (by omega) (by omega), hK⟩⟩
        rw [br_bt]
        refine ⟨fun _ => ?_, fun _ => ⟨fits64 (by omega) (by omega), hK⟩⟩
        have em : ((m : Int) - 1).toNat = m - 1 := by omega
        have gm : m - 1 < (fairOf pr (joined cl i j)).length := by omega
        have := a3 (m - 1) (by omega) (by omega)
        have ho : outK j (m - 1) = m := by unfold outK; rw [if_neg (by omega)]; omega
        rw [ho, getD_at gm, getD_at fm] at this
        simp only [em]
        exact ⟨⟨by omega, gm⟩, gm, ⟨by omega, fm⟩, fm, br_no (dec_f (by omega)) ⟨fits64 (by omega) (by omega), hK⟩⟩
      · rw [br_bt]
        refine ⟨fun hne => ?_, fun _ => ⟨fits64 (by omega) (by omega), hK⟩⟩
        rw [br_bt]
        refine ⟨fun hne2 => ?_, fun _ => ⟨fits64 (by omega) (by omega), hK⟩⟩
        have hne : (m : Int) ≠ (i : Int) := by simpa using hne
        have hne2 : (m : Int) ≠ (j : Int) := by simpa using hne2
        have gm : m < (fairOf pr (joined cl i j)).length := by omega
        have := a3 m (by omega) (by omega)
        have ho : outK j m = m := by unfold outK; rw [if_pos (by omega)]
        rw [ho, getD_at gm, getD_at fm] at this
        exact ⟨⟨by omega, gm⟩, gm, ⟨by omega, fm⟩, fm, br_no (dec_f (by omega)) ⟨fits64 (by omega) (by omega), hK⟩⟩
    · intro K2 _
      dsimp only
      rw [br_decide]
      exact ⟨fun h => absurd h (by omega), fun _ => ⟨trivial, hk⟩⟩
end Go.Abs.Farm
end

section
/- The farm's statements: THE STAGE'S THEOREM. -/
open Go.Proofs
set_option maxRecDepth 100000
set_option linter.unusedVariables false
namespace Go.Abs.Farm

theorem fairE_calm {pr : Int} {cl s : List Int} (h : sharesErr pr cl s = 0) (hc : Calm cl s) : fairE pr cl s = 0 := by
  have hn : compP cl s = none := by
    rw [compP_none]
    intro i j hi hj
    rw [canB_nat, decide_eq_false_iff_not]
    rintro ⟨h1, h2, h3⟩
    have := hc.le i j (by rw [← hc.len]; exact hi) (by rw [← hc.len]; exact hj) h1 h2
    omega
  have e : compE pr cl s = 5 := by unfold compE; rw [if_neg (by omega), hn]; rfl
  unfold fairE
  rw [if_neg (by omega), if_pos e]
theorem fairE_codes {pr : Int} {cl s : List Int} (h : sharesErr pr cl s = 0) : (fairE pr cl s = 0 ∧ compE pr cl s = 5) ∨ (fairE pr cl s = 24 ∧ compE pr cl s = 0) := by
  have e : compE pr cl s = 5 ∨ compE pr cl s = 0 := by
    unfold compE; rw [if_neg (by omega)]; split <;> simp
  rcases e with e | e
  · left; refine ⟨?_, e⟩; unfold fairE; rw [if_neg (by omega), if_pos e]
  · right; refine ⟨?_, e⟩; unfold fairE; rw [if_pos e]
theorem divE_codes {pr : Int} {cl s : List Int} (h : sharesErr pr cl s = 0) : divE pr cl s = 0 ∨ divE pr cl s = 24 := by
  unfold divE
  rcases fairE_codes h with e | e
  · rw [if_neg (by omega)]; split <;> simp
  · rw [if_pos (by omega)]; exact .inr e.1
theorem compP_some {cl s : List Int} {a b : Nat} (h : compP cl s = some (a, b)) : a < s.length ∧ b < s.length ∧ canB cl s (a : Int) (b : Int) = true := by
  unfold compP at h
  obtain ⟨i, hi, h⟩ := List.exists_of_findSome?_eq_some h
  obtain ⟨j, hj, h⟩ := List.exists_of_findSome?_eq_some h
  cases hc : canB cl s (i : Int) (j : Int)
  · rw [hc] at h; simp at h
  · rw [hc] at h
    simp at h
    obtain ⟨rfl, rfl⟩ := h
    exact ⟨List.mem_range.1 hi, List.mem_range.1 hj, hc⟩

theorem k33c (hG : Good Try.prog (envOf [(29, mkC [v29])])) : v33c.Kept Try.prog 33 := by
  rintro ⟨pr, cl, s, ⟨⟩⟩ hpre k hk
  change Int at pr
  change List Int at cl
  change List Int at s
  have h : sharesErr pr cl s = 0 := hpre
  obtain ⟨hf, hl, hin, hsum⟩ := shares_spec h
  obtain ⟨f1, f2, f3, f4, f5, f6⟩ := fine_spec hf
  have hk : br (feZ pr cl s) (k (rI 0) []) (k (rI 24) []) := hk
  refine k33 hG (pr, cl, s, ()) ⟨by show cl.length ≤ 14; omega, by show s.length ≤ 14; omega⟩ k ?_
  show k (rI (fairE pr cl s)) []
  unfold feZ at hk
  rw [br_decide] at hk
  rcases fairE_codes h with e | e
  · rw [e.1]; exact hk.1 e.1
  · rw [e.1]; exact hk.2 (by omega)
theorem k34c (hG : Good Try.prog (envOf [(30, mkC [v30])])) : v34c.Kept Try.prog 34 := by
  rintro ⟨pr, cl, s, ⟨⟩⟩ hpre k hk
  change Int at pr
  change List Int at cl
  change List Int at s
  have h : sharesErr pr cl s = 0 := hpre
  obtain ⟨hf, hl, hin, hsum⟩ := shares_spec h
  obtain ⟨f1, f2, f3, f4, f5, f6⟩ := fine_spec hf
  have hk : br (feZ pr cl s) (k (rI 0) []) (k (rI 24) []) := hk
  refine k34 hG (pr, cl, s, ()) ⟨by show cl.length ≤ 14; omega, by show s.length ≤ 14; omega⟩ k ?_
  show k (rI (fairE pr cl s)) []
  unfold feZ at hk
  rw [br_decide] at hk
  rcases fairE_codes h with e | e
  · rw [e.1]; exact hk.1 e.1
  · rw [e.1]; exact hk.2 (by omega)
theorem k29c (hG : Good Try.prog (envOf [(55, mkC [v55]), (67, mkC [v67])])) : v29c.Kept Try.prog 29 := by
  rintro ⟨pr, cl, s, ⟨⟩⟩ hpre k hk
  change Int at pr
  change List Int at cl
  change List Int at s
  have h : sharesErr pr cl s = 0 := hpre
  obtain ⟨hf, hl, hin, hsum⟩ := shares_spec h
  obtain ⟨f1, f2, f3, f4, f5, f6⟩ := fine_spec hf
  have hk : br (feZ pr cl s) (k (.tup [rI 0, rI 0, rI 5]) []) (k (.tup [rI (compA pr cl s), rI (compB pr cl s), rI 0]) []) := hk
  refine k29 hG (pr, cl, s, ()) ⟨by show cl.length ≤ 14; omega, by show s.length ≤ 14; omega⟩ k ?_
  show k (.tup [rI (compA pr cl s), rI (compB pr cl s), rI (compE pr cl s)]) []
  unfold feZ at hk
  rw [br_decide] at hk
  rcases fairE_codes h with e | e
  · have e1 : compA pr cl s = 0 := by unfold compA; rw [if_neg (by omega)]
    have e2 : compB pr cl s = 0 := by unfold compB; rw [if_neg (by omega)]
    rw [e.2, e1, e2]; exact hk.1 e.1
  · rw [e.2]; exact hk.2 (by omega)
theorem k35c (hG : Good Try.prog (envOf [(33, mkC [v33]), (67, mkC [v67]), (70, mkC [v70]), (72, mkC [v72]), (69, mkC [v69a, v69b]), (71, mkC [v71])])) : v35c.Kept Try.prog 35 := by
  rintro ⟨pr, cl, s, ⟨⟩⟩ hpre k hk
  change Int at pr
  change List Int at cl
  change List Int at s
  have h : sharesErr pr cl s = 0 := hpre
  obtain ⟨hf, hl, hin, hsum⟩ := shares_spec h
  obtain ⟨f1, f2, f3, f4, f5, f6⟩ := fine_spec hf
  have hk : br (dvZ pr cl s) (k (.tup [two (divLN pr cl s) (divLD pr cl s), two (divHN pr cl s) (divHD pr cl s), rI 0]) []) (k (.tup [two 0 0, two 0 0, rI 24]) []) := hk
  refine k35 hG (pr, cl, s, ()) ⟨by show cl.length ≤ 14; omega, by show s.length ≤ 14; omega⟩ k ?_
  show k (.tup [two (divLN pr cl s) (divLD pr cl s), two (divHN pr cl s) (divHD pr cl s), rI (divE pr cl s)]) []
  unfold dvZ at hk
  rw [br_decide] at hk
  rcases divE_codes h with e | e
  · rw [e]; exact hk.1 e
  · have e1 : divLN pr cl s = 0 := by unfold divLN; rw [if_neg (by omega)]
    have e2 : divLD pr cl s = 0 := by unfold divLD; rw [if_neg (by omega)]
    have e3 : divHN pr cl s = 0 := by unfold divHN; rw [if_neg (by omega)]
    have e4 : divHD pr cl s = 0 := by unfold divHD; rw [if_neg (by omega)]
    rw [e, e1, e2, e3, e4]; exact hk.2 (by omega)

theorem div_eq {a b q : Int} (hb : 0 < b) (h1 : q * b ≤ a) (h2 : a < (q + 1) * b) : a / b = q := by
  have a1 := Int.le_ediv_of_mul_le hb h1
  have a2 := Int.ediv_lt_of_lt_mul hb h2
  omega
theorem cancel_le {x y g : Int} (hg : 0 < g) (h : x * g ≤ y * g) : x ≤ y := Int.le_of_mul_le_mul_right h hg
theorem cancel_lt {x y g : Int} (hg : 0 < g) (h : x * g < y * g) : x < y := Int.lt_of_mul_lt_mul_right h (by omega)

theorem k7 (hG : Good Try.prog (envOf [(42, mkC [v42]), (17, mkC [v17]), (43, mkC [v43]), (44, mkC [v44]), (33, mkC [v33c]), (29, mkC [v29c]), (35, mkC [v35c]), (34, mkC [v34c])])) : v7.Kept Try.prog 7 := by
  rintro ⟨pr, cl, by8, ⟨⟩⟩ hpre k hk
  change Int at pr
  change List Int at cl
  change List Int at by8
  refine aspec hmix hG Try.func7 tx7 (Eq.mpr (eq7 pr cl by8 k) ?_)
  replace hk : k (.bool true) [] := hk
  unfold vc7
  have hby : ∀ x ∈ by8, (0 : Int) ≤ x ∧ x ≤ 255 := hpre
  refine ⟨trivial, br_intro (fun h1 => br_intro (fun _ => ⟨trivial, hk⟩) (fun h2 => ?_)) (fun _ => ⟨trivial, hk⟩)⟩
  have hf := not_fine' h1
  have hlen : by8.length ≤ 20 := by simp only [decide_eq_false_iff_not] at h2; omega
  obtain ⟨f1, f2, f3, f4, f5, f6⟩ := fine_spec hf
  obtain ⟨g1, g2, g3, g4⟩ := sum_ok hf
  obtain ⟨q, hq, hq0⟩ := fine_some hf
  obtain ⟨v1, v2, v3, v4⟩ := given_ok hf by8
  obtain ⟨_, q1, q2, q3⟩ := shares_spec (fair_ok hf)
  obtain ⟨s1, z1⟩ := fair_stb hf
  have hclp := fun i => (fine_getD hf i).1
  have gc := fun i => fine_getD hf i
  have gs := fun i => pos_getD v3 i
  have hfo : feZ pr cl (fairOf pr cl) = true := by unfold feZ; rw [decide_eq_true_eq]; exact fairE_calm (fair_ok hf) s1.calm
  refine ⟨hf, ⟨hf, by show by8.length ≤ 1000; omega, hby⟩, v4, br_intro (fun hz => ?_) (fun hz => ?_)⟩
  · have hz0 : fairE pr cl (given pr cl by8) = 0 := by unfold feZ at hz; exact of_decide_eq_true hz
    obtain ⟨_, hcalm⟩ := calm_of hz0
    have hdif : ∀ i, i < cl.length → (given pr cl by8).getD i 0 ≤ (fairOf pr cl).getD i 0 + 1 ∧ (fairOf pr cl).getD i 0 ≤ (given pr cl by8).getD i 0 + 1 := fun i hi =>
      ⟨calm_near hclp hq hq0 hcalm s1.calm (by omega) hi, calm_near hclp hq hq0 s1.calm hcalm (by omega) hi⟩
    refine ⟨v4, br_yes hz ⟨v4, br_intro (fun hd => ⟨fair_ok hf, br_yes hfo ⟨fair_ok hf, br_yes hfo ?_⟩⟩) (fun hd => ⟨fair_ok hf, br_yes hfo ⟨fair_ok hf, br_yes hfo ?_⟩⟩)⟩⟩
    · have hd0 : divE pr cl (given pr cl by8) = 0 := by unfold dvZ at hd; exact of_decide_eq_true hd
      refine Loop.upto (fun i => (given pr cl by8, 0, (i : Int), pr, cl, fairOf pr cl, divLN pr cl (given pr cl by8), divLD pr cl (given pr cl by8), divHN pr cl (given pr cl by8), divHD pr cl (given pr cl by8), ())) (fun i => True) (given pr cl by8).length rfl trivial ?_ ?_
      · intro i K hi hp hK
        dsimp only
        rw [br_decide]
        refine ⟨fun _ => ?_, fun h => absurd hi (by omega)⟩
        try simp only [Int.toNat_natCast]
        have hK := hK trivial
        have hi2 : i < (fairOf pr cl).length := by omega
        have d := hdif i (by omega)
        rw [getD_at hi, getD_at hi2] at d
        have y1 := v3 _ (List.getElem_mem hi)
        have y2 : 0 ≤ (fairOf pr cl)[i] ∧ (fairOf pr cl)[i] ≤ 200 := q2 _ (List.getElem_mem hi2)
        exact ⟨⟨by omega, hi⟩, ⟨by omega, hi2⟩, hi2, fits64 (by omega) (by omega), br_yes (dec_no (by omega)) ⟨⟨by omega, hi2⟩, hi2, ⟨by omega, hi⟩, fits64 (by omega) (by omega), br_no (dec_f (by omega)) ⟨fits64 (by omega) (by omega), hK⟩⟩⟩
      · intro K hp
        dsimp only
        rw [br_decide]
        refine ⟨fun h => absurd h (by omega), fun _ => ?_⟩
        refine br_yes rfl ?_
        rw [br_beq]
        refine ⟨fun _ => ⟨trivial, hk⟩, fun hp0 => ?_⟩
        have hdb : divBad cl (given pr cl by8) = false := by
          cases hb : divBad cl (given pr cl by8)
          · rfl
          · unfold divE at hd0; rw [if_neg (by omega), hb] at hd0; simp at hd0
        have eLN : divLN pr cl (given pr cl by8) = byN (cl.getD (loIx cl (given pr cl by8)) 0) ((given pr cl by8).getD (loIx cl (given pr cl by8)) 0 + 1) := by unfold divLN; rw [if_pos hd0]
        have eLD : divLD pr cl (given pr cl by8) = byD (cl.getD (loIx cl (given pr cl by8)) 0) ((given pr cl by8).getD (loIx cl (given pr cl by8)) 0 + 1) := by unfold divLD; rw [if_pos hd0]
        have eHN : divHN pr cl (given pr cl by8) = hiN cl (given pr cl by8) (hiUp cl (given pr cl by8) (given pr cl by8).length) := by unfold divHN; rw [if_pos hd0]
        have eHD : divHD pr cl (given pr cl by8) = hiD cl (given pr cl by8) (hiUp cl (given pr cl by8) (given pr cl by8).length) := by unfold divHD; rw [if_pos hd0]
        cases hu : hiUp cl (given pr cl by8) (given pr cl by8).length with
        | none =>
          exfalso
          have hzz := (hi_spec hclp (given pr cl by8).length).1 hu
          have h0 : ∀ l : List Int, (∀ x ∈ l, x = 0) → sumL l = 0 := by
            intro l
            induction l with
            | nil => intro _; rfl
            | cons a l ih => intro h; rw [sum_cons, h a (by simp), ih (fun x hx => h x (by simp [hx]))]; rfl
          have := h0 (given pr cl by8) (fun x hx => by
            obtain ⟨i, hi, rfl⟩ := List.getElem_of_mem hx
            have h1 := hzz i hi
            rw [getD_at hi] at h1
            have := v3 _ hx
            omega)
          omega
        | some x =>
          obtain ⟨b1, b2, b3⟩ := (hi_spec hclp (given pr cl by8).length).2 x hu
          have hcx := hcalm.clean hclp hq hq0 (show x < cl.length by omega) b2
          have hdb : ¬ (cl.getD x 0 * ((given pr cl by8).getD (loIx cl (given pr cl by8)) 0 + 1) ≤ cl.getD (loIx cl (given pr cl by8)) 0 * (given pr cl by8).getD x 0) := by
            unfold divBad at hdb; rw [hu] at hdb; simpa using hdb
          rw [hu] at eHN eHD
          have eHN : divHN pr cl (given pr cl by8) = byN (cl.getD x 0) ((given pr cl by8).getD x 0) := eHN
          have eHD : divHD pr cl (given pr cl by8) = byD (cl.getD x 0) ((given pr cl by8).getD x 0) := eHD
          obtain ⟨nlt, nmax⟩ := nextOf_spec (cl := cl) (s := given pr cl by8) (fun i => (gs i).1) (by omega)
          have hmax : ∀ i, i < cl.length → cl.getD i 0 * ((given pr cl by8).getD (loIx cl (given pr cl by8)) 0 + 1) ≤ cl.getD (loIx cl (given pr cl by8)) 0 * ((given pr cl by8).getD i 0 + 1) := fun i hi => by
            by_cases e : i = nextOf cl (given pr cl by8)
            · rw [e]; exact Int.le_refl _
            · have b := nmax i hi e
              unfold Bef at b
              simp only [at0_nat] at b
              show cl.getD i 0 * ((given pr cl by8).getD (nextOf cl (given pr cl by8)) 0 + 1) ≤ cl.getD (nextOf cl (given pr cl by8)) 0 * ((given pr cl by8).getD i 0 + 1)
              omega
          have sl := gs (loIx cl (given pr cl by8))
          have cl1 := gc (loIx cl (given pr cl by8))
          have su := gs x
          have cu := gc x
          generalize loIx cl (given pr cl by8) = l at *
          have n1 := by_in cl1.1 (b := (given pr cl by8).getD l 0 + 1) (by omega)
          have n2 := by_in cu.1 (b := (given pr cl by8).getD x 0) b2
          have n3 := n2.2.2.2.2 hcx
          have hlt := (by_lt cu.1 b2 cl1.1 (d := (given pr cl by8).getD l 0 + 1) (by omega)).2 (Int.not_le.1 hdb)
          have gl := gcd_pos (cl.getD l 0) (b := (given pr cl by8).getD l 0 + 1) (by omega)
          have gu := gcd_pos (cl.getD x 0) b2
          have k1 := byN_mul (b := (given pr cl by8).getD l 0 + 1) cl1.1
          have k2 := byD_mul (a := cl.getD l 0) (b := (given pr cl by8).getD l 0 + 1) (by omega)
          have k3 := byN_mul (b := (given pr cl by8).getD x 0) cu.1
          have k4 := byD_mul (a := cl.getD x 0) (b := (given pr cl by8).getD x 0) su.1
          rw [eLN, eLD, eHN, eHD]
          generalize byN (cl.getD l 0) ((given pr cl by8).getD l 0 + 1) = LN at *
          generalize byD (cl.getD l 0) ((given pr cl by8).getD l 0 + 1) = LD at *
          generalize byN (cl.getD x 0) ((given pr cl by8).getD x 0) = HN at *
          generalize byD (cl.getD x 0) ((given pr cl by8).getD x 0) = HD at *
          generalize gcdI (cl.getD l 0) ((given pr cl by8).getD l 0 + 1) = gL at *
          generalize gcdI (cl.getD x 0) ((given pr cl by8).getD x 0) = gU at *
          have m1 := mul_in (A := 100) (B := 200) n1.1 (by omega) (show 0 ≤ HD by omega) (by omega)
          have m2 := mul_in (A := 100) (B := 201) n2.1 (by omega) (show 0 ≤ LD by omega) (by omega)
          refine br_yes (dec_no (by omega)) (br_yes (dec_no (by omega)) (br_yes (dec_no (by omega)) (br_yes (dec_no (by omega)) (br_yes (dec_no (by omega)) (br_yes (dec_no (by omega)) (br_yes (dec_no (by omega)) (br_yes (dec_no (by omega)) ⟨fits64 (by omega) (by omega), fits64 (by omega) (by omega), br_no (dec_f (by omega)) ?_⟩)))))))
          refine Loop.upto (fun i => (given pr cl by8, (i : Int), pr, cl, LN, LD, HN, HD, ())) (fun i => True) (given pr cl by8).length rfl trivial ?_ ?_
          · intro i K hi hp hK
            dsimp only
            rw [br_decide]
            refine ⟨fun _ => ?_, fun h => absurd hi (by omega)⟩
            try simp only [Int.toNat_natCast]
            have hK := hK trivial
            have hic : i < cl.length := by omega
            have y1 := v3 _ (List.getElem_mem hi)
            have y2 := f5 _ (List.getElem_mem hic)
            have p1 := mul_in (A := 100) (B := 200) y2.1 y2.2 (show 0 ≤ HD by omega) (by omega)
            have p2 := mul_in (A := 100) (B := 201) y2.1 y2.2 (show 0 ≤ LD by omega) (by omega)
            have hmx := hmax i hic
            rw [getD_at hic, getD_at hi] at hmx
            have c1 : (given pr cl by8)[i] * HN ≤ cl[i] * HD := by
              refine cancel_le gu ?_
              rw [Int.mul_assoc, Int.mul_assoc, k3, k4]
              rcases Int.lt_or_eq_of_le y1.1 with h | h
              · have := b3 i hi (by rw [getD_at hi]; exact h)
                rw [getD_at hi, getD_at hic] at this
                rw [Int.mul_comm]; exact this
              · rw [← h, Int.zero_mul]; exact Int.mul_nonneg y2.1 su.1
            have c2 : cl[i] * HD < ((given pr cl by8)[i] + 1) * HN := by
              refine cancel_lt gu ?_
              rw [Int.mul_assoc, Int.mul_assoc, k3, k4]
              have := (cross (x := cl.getD x 0) (y := cl.getD l 0) (z := cl[i]) (a := (given pr cl by8).getD x 0) (b := (given pr cl by8).getD l 0 + 1) (c := (given pr cl by8)[i] + 1) (by omega) b2 (by omega) (by omega) hmx).2 (.inl (by omega))
              rw [Int.mul_comm ((given pr cl by8)[i] + 1)]; exact this
            have hdv := div_eq n3 c1 c2
            have q0 := quo_in p1.1 (t := HN) (by omega)
            refine ⟨⟨by omega, hi⟩, ⟨by omega, hic⟩, fits64 (by omega) (by omega), ⟨p1.1, n3, fits64 (by omega) (by omega)⟩, br_yes (by simp [hdv]) ?_⟩
            rw [br_true]
            refine ⟨fun hl0 => ?_, fun _ => ⟨fits64 (by omega) (by omega), hK⟩⟩
            have c3 : cl[i] * LD ≤ ((given pr cl by8)[i] + 1) * LN := by
              refine cancel_le gl ?_
              rw [Int.mul_assoc, Int.mul_assoc, k1, k2, Int.mul_comm ((given pr cl by8)[i] + 1)]
              exact hmx
            have c4 : cl[i] * LD / LN ≤ (given pr cl by8)[i] + 1 := Int.ediv_le_of_le_mul hl0 c3
            have q1 := quo_in p2.1 (t := LN) (by omega)
            exact ⟨⟨by omega, hic⟩, fits64 (by omega) (by omega), ⟨p2.1, hl0, fits64 (by omega) (by omega)⟩, ⟨by omega, hi⟩, fits64 (by omega) (by omega), br_no (dec_f (by omega)) ⟨fits64 (by omega) (by omega), hK⟩⟩
          · intro K hp
            dsimp only
            rw [br_decide]
            refine ⟨fun h => absurd h (by omega), fun _ => ?_⟩
            exact ⟨trivial, hk⟩
    · refine Loop.upto (fun i => (given pr cl by8, 24, (i : Int), pr, cl, fairOf pr cl, 0, 0, 0, 0, ())) (fun i => True) (given pr cl by8).length rfl trivial ?_ ?_
      · intro i K hi hp hK
        dsimp only
        rw [br_decide]
        refine ⟨fun _ => ?_, fun h => absurd hi (by omega)⟩
        try simp only [Int.toNat_natCast]
        have hK := hK trivial
        have hi2 : i < (fairOf pr cl).length := by omega
        have d := hdif i (by omega)
        rw [getD_at hi, getD_at hi2] at d
        have y1 := v3 _ (List.getElem_mem hi)
        have y2 : 0 ≤ (fairOf pr cl)[i] ∧ (fairOf pr cl)[i] ≤ 200 := q2 _ (List.getElem_mem hi2)
        exact ⟨⟨by omega, hi⟩, ⟨by omega, hi2⟩, hi2, fits64 (by omega) (by omega), br_yes (dec_no (by omega)) ⟨⟨by omega, hi2⟩, hi2, ⟨by omega, hi⟩, fits64 (by omega) (by omega), br_no (dec_f (by omega)) ⟨fits64 (by omega) (by omega), hK⟩⟩⟩
      · intro K hp
        dsimp only
        rw [br_decide]
        refine ⟨fun h => absurd h (by omega), fun _ => ?_⟩
        exact br_no rfl ⟨trivial, hk⟩
  · have hz1 : fairE pr cl (given pr cl by8) ≠ 0 := by unfold feZ at hz; simpa using hz
    rcases fairE_codes v4 with e | e
    · exact absurd e.1 hz1
    have hd : dvZ pr cl (given pr cl by8) = false := by
      unfold dvZ; rw [decide_eq_false_iff_not]; unfold divE; rw [if_pos hz1]; exact hz1
    cases hc : compP cl (given pr cl by8) with
    | none =>
      exfalso
      have := e.2
      unfold compE at this
      rw [if_neg (by omega), hc] at this
      simp at this
    | some ab =>
      obtain ⟨a, b⟩ := ab
      obtain ⟨ha, hb, hcan⟩ := compP_some hc
      rw [canB_nat, decide_eq_true_eq] at hcan
      have eA : compA pr cl (given pr cl by8) = (a : Int) := by unfold compA; rw [if_pos e.2, hc]; rfl
      have eB : compB pr cl (given pr cl by8) = (b : Int) := by unfold compB; rw [if_pos e.2, hc]; rfl
      have hac : a < cl.length := by omega
      have hbc : b < cl.length := by omega
      rw [getD_at hb, getD_at hbc, getD_at ha, getD_at hac] at hcan
      have y1 := v3 _ (List.getElem_mem ha)
      have y2 := v3 _ (List.getElem_mem hb)
      have x1 := f5 _ (List.getElem_mem hac)
      have x2 := f5 _ (List.getElem_mem hbc)
      have m1 := mul_in (A := 100) (B := 200) x1.1 x1.2 y2.1 y2.2
      have m2 := mul_in (A := 100) (B := 201) x2.1 x2.2 (show 0 ≤ (given pr cl by8)[a] + 1 by omega) (by omega)
      simp only [eA, eB, Int.toNat_natCast]
      refine ⟨v4, br_no hz ⟨v4, br_no hd ⟨fair_ok hf, br_yes hfo ⟨fair_ok hf, br_yes hfo (br_yes (dec_yes (by omega)) (br_yes (dec_yes (by omega)) (br_yes (dec_yes (by omega)) (br_yes (dec_yes (by omega)) (br_yes ?_ ⟨⟨by omega, hb⟩, br_yes (dec_yes hcan.2.1) ⟨⟨by omega, hac⟩, ⟨by omega, hb⟩, fits64 (by omega) (by omega), ⟨by omega, hbc⟩, ⟨by omega, ha⟩, fits64 (by omega) (by omega), fits64 (by omega) (by omega), br_yes (dec_yes hcan.2.2) ⟨trivial, hk⟩⟩⟩)))))⟩⟩⟩⟩
      have : (a : Int) ≠ (b : Int) := by have := hcan.1; omega
      simp [this]
end Go.Abs.Farm
end

