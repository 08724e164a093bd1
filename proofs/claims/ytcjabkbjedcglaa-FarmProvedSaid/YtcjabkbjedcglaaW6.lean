/- Part 6 of the road to this seat's statements: lemmas about a small interpreter over the model's code, and about the functions that it is used on. No condition of its own. -/
import Derived.Test.YtcjabkbjedcglaaProg
import Derived.Test.YtcjabkbjedcglaaW5

section
/- The farm's functions keep their contracts: the fair shares by claims. -/
open Go.Proofs
set_option maxRecDepth 100000
set_option linter.unusedVariables false
namespace Go.Abs.Farm

theorem rowTo_mem {i j : Nat} {x : Int × Int} : x ∈ rowTo i (j + 1) ↔ x ∈ rowTo i j ∨ x = ((i : Int), (j : Int) + 1) := by
  rw [rowTo_succ, List.mem_append, List.mem_singleton]
theorem rowsTo_mem {n : Int} {i : Nat} {x : Int × Int} : x ∈ rowsTo n (i + 1) ↔ x ∈ rowsTo n i ∨ x ∈ rowTo i n.toNat := by
  rw [rowsTo_succ, List.mem_append]

theorem k59 (hG : Good Try.prog (envOf [(79, mkC [v79]), (61, mkC [v61])])) : v59.Kept Try.prog 59 := by
  rintro ⟨pr, cl, n, ⟨⟩⟩ hpre k hk
  change Int at pr
  change List Int at cl
  change Int at n
  refine aspec hmix hG Try.func59 tx59 (Eq.mpr (eq59 pr cl n k) ?_)
  replace hk : k (.arrv (.int .i64) (fair8 pr cl)) [] := hk
  unfold vc59
  obtain ⟨hf, hn⟩ := hpre
  have hf : yearErr pr cl = 0 := hf
  have hn : n = pr := hn
  obtain ⟨f1, f2, f3, f4, f5, f6⟩ := fine_spec hf
  subst hn
  refine ⟨trivial, ?_⟩
  refine Loop.intro (fun s => ∃ (i : Nat) (m : ML) (clk : Nat), s = (n, ((cl.length : Nat) : Int), (i : Int), n, cl, n, n, cl, n, List.replicate 8 (Int.ofNat 0), m, clk, ()) ∧ i ≤ cl.length ∧ WMap m clk (fun x => x ∈ rowsTo n i)) (fun s => cl.length - s.2.2.1.toNat) ?_ ⟨0, [], 0, rfl, Nat.zero_le _, WMap.nil.congr (fun x => by simp [rowsTo])⟩
  rintro s K ⟨i, m, clk, rfl, hi, hW⟩ hK
  dsimp only
  rw [br_decide]
  refine ⟨fun h => ?_, fun h => ?_⟩
  · have hlt : i < cl.length := by omega
    refine Loop.intro (fun s => ∃ (j : Nat) (m : ML) (clk : Nat), s = (n, (i : Int), ((cl.length : Nat) : Int), (i : Int), n, (j : Int), n, cl, n, n, cl, n, List.replicate 8 (Int.ofNat 0), m, clk, ()) ∧ j ≤ n.toNat ∧ WMap m clk (fun x => x ∈ rowsTo n i ∨ x ∈ rowTo i j)) (fun s => n.toNat - s.2.2.2.2.2.1.toNat) ?_ ⟨0, m, clk, rfl, Nat.zero_le _, hW.congr (fun x => by simp [rowTo])⟩
    rintro s2 K2 ⟨j, m2, clk2, rfl, hj, hW2⟩ hK2
    dsimp only
    rw [br_decide]
    refine ⟨fun h2 => ⟨fits64 (by omega) (by omega), fits64 (by omega) (by omega), ?_⟩, fun h2 => ⟨fits64 (by omega) (by omega), ?_⟩⟩
    · refine hK2 _ ⟨j + 1, pput m2 clk2 ((i : Int), (j : Int) + 1) ((j : Int) + 1), pclk m2 clk2 ((i : Int), (j : Int) + 1), rfl, by omega, (hW2.put ((i : Int), (j : Int) + 1)).congr (fun x => by rw [rowTo_mem]; exact or_assoc)⟩ ?_
      show n.toNat - ((j : Int) + 1).toNat < n.toNat - (j : Int).toNat
      omega
    · obtain rfl : j = n.toNat := by omega
      refine hK _ ⟨i + 1, m2, clk2, rfl, by omega, hW2.congr (fun x => by rw [rowsTo_mem])⟩ ?_
      show cl.length - ((i : Int) + 1).toNat < cl.length - (i : Int).toNat
      omega
  -- all claims stand in the map
  obtain rfl : i = cl.length := by omega
  have hW : WMap m clk (fun x => x ∈ allC cl n) := hW
  have hlen := claims_len cl n
  have hnl : n.toNat ≤ (claimsOf cl n).length := by rw [hlen]; exact Nat.le_mul_of_pos_left _ (by omega)
  refine ⟨⟨⟨by show cl.length ≤ 20; omega, fun x hx => ⟨(f5 x hx).1, by have := (f5 x hx).2; omega⟩⟩, f1, by show n ≤ 1000; omega⟩, ⟨f1, by omega⟩, ?_⟩
  have hsf := (sorted_fair (show 0 < cl.length by omega) (nonneg_getD (fun x hx => (f5 x hx).1)) (claims_perm cl n) (claims_sorted cl n) n.toNat (by omega)).1
  have hcm : ∀ x, x ∈ claimsOf cl n ↔ x ∈ allC cl n := fun x => (claims_perm cl n).mem_iff
  have hnd : (claimsOf cl n).Nodup := (claims_perm cl n).nodup_iff.2 (allC_nodup cl n)
  generalize claimsOf cl n = c at hlen hnl hsf hcm hnd ⊢
  have hc2 : c.length ≤ 8 * 200 := by rw [hlen]; exact Nat.mul_le_mul f4 (by omega)
  refine Loop.intro (fun s => ∃ (t : Nat) (m : ML), s = (n.toNat, c.length - n.toNat, ((c.length - n.toNat : Nat) : Int), (t : Int), List.replicate 8 (Int.ofNat 0), c, m, clk, ()) ∧ t ≤ c.length - n.toNat ∧ WMap m clk (fun x => x ∈ c ∧ x ∉ (c.drop n.toNat).take t)) (fun s => c.length - n.toNat - s.2.2.2.1.toNat) ?_ ⟨0, m, rfl, Nat.zero_le _, hW.congr (fun x => by simp [hcm])⟩
  rintro s K2 ⟨t, m2, rfl, ht, hW2⟩ hK2
  dsimp only
  rw [br_decide]
  refine ⟨fun h2 => ?_, fun h2 => ?_⟩
  · simp only [Int.toNat_natCast]
    have htl : n.toNat + t < c.length := by omega
    refine ⟨⟨by omega, by omega⟩, htl, fits64 (by omega) (by omega), ?_⟩
    refine hK2 _ ⟨t + 1, pdel (c[n.toNat + t]) m2, rfl, by omega, (hW2.del c[n.toNat + t]).congr (fun x => ?_)⟩ ?_
    · rw [List.take_succ_eq_append_getElem (by rw [List.length_drop]; omega), List.mem_append, List.mem_singleton, List.getElem_drop]
      constructor
      · rintro ⟨⟨g1, g2⟩, g3⟩; exact ⟨g1, fun h => h.elim g2 g3⟩
      · rintro ⟨g1, g2⟩; exact ⟨⟨g1, fun h => g2 (.inl h)⟩, fun h => g2 (.inr h)⟩
    · show c.length - n.toNat - ((t : Int) + 1).toNat < c.length - n.toNat - (t : Int).toNat
      omega
  obtain rfl : t = c.length - n.toNat := by omega
  have hdrop : (c.drop n.toNat).take (c.length - n.toNat) = c.drop n.toNat := List.take_of_length_le (by rw [List.length_drop]; exact Nat.le_refl _)
  have hW3 : WMap m2 clk (fun x => x ∈ c.take n.toNat) := hW2.congr (fun x => by
    rw [hdrop]
    have hsplit : c = c.take n.toNat ++ c.drop n.toNat := (List.take_append_drop _ _).symm
    constructor
    · rintro ⟨g1, g2⟩
      rw [hsplit, List.mem_append] at g1
      exact g1.resolve_right g2
    · intro g1
      refine ⟨List.mem_of_mem_take g1, fun g2 => ?_⟩
      rw [hsplit] at hnd
      exact (List.nodup_append.1 hnd).2.2 x g1 x g2 rfl)
  have hW4 : WMap m2 clk (fun x => 0 ≤ x.1 ∧ x.1 < (cl.length : Int) ∧ 1 ≤ x.2 ∧ x.2 ≤ (fairUp cl n.toNat).getD x.1.toNat 0) := hW3.congr hsf
  have hsz : (8 : Nat) * (Ty.size (.int .i64)) = sizeT Try.prog 79 := by kernel_rfl
  have har : (8 : Nat) = arrLenT Try.prog 79 := by kernel_rfl
  have h8 := fair8_len (pr := n) f4
  have hget : ∀ i : Nat, i < cl.length → (fair8 n cl).getD i 0 = (fairUp cl n.toNat).getD i 0 := fun i hi => by
    unfold fair8
    rw [List.getD_eq_getElem?_getD, List.getElem?_append_left (by rw [fair_len]; exact hi), ← List.getD_eq_getElem?_getD]; rfl
  have hpos8 : ∀ i : Nat, 0 ≤ (fair8 n cl).getD i 0 := fun i => by
    rcases Nat.lt_or_ge i cl.length with hi | hi
    · rw [hget i hi]; exact (fairUp_get cl _ i).1
    · unfold fair8
      rw [List.getD_eq_getElem?_getD, List.getElem?_append_right (by rw [fair_len]; exact hi), List.getElem?_replicate]
      split <;> simp
  have hz0 : ∀ i : Nat, (List.replicate 8 (Int.ofNat 0)).getD i 0 = 0 := fun i => by
    rw [List.getD_eq_getElem?_getD, List.getElem?_replicate]; split <;> rfl
  have hbig : ∀ i : Nat, cl.length ≤ i → (fair8 n cl).getD i 0 = 0 := fun i hi => by
    unfold fair8
    rw [List.getD_eq_getElem?_getD, List.getElem?_append_right (by rw [fair_len]; exact hi), List.getElem?_replicate]
    split <;> rfl
  refine ⟨rfl, ?_⟩
  refine Loop.intro (fun s => ∃ (seen : List Nat) (out : List Int), s = (List.replicate 8 (Int.ofNat 0), out, clk, seen, clk, m2, clk, ()) ∧ out.length = 8 ∧ (∀ i : Nat, 0 ≤ out.getD i 0 ∧ out.getD i 0 ≤ (fair8 n cl).getD i 0) ∧ ∀ e ∈ m2, e.1 ∈ seen → e.2.2 ≤ out.getD e.2.1.1.toNat 0)
    (fun s => (mleft tB m2 s.2.2.2.1).length) ?_ ⟨[], List.replicate 8 (Int.ofNat 0), rfl, rfl, fun i => by rw [hz0 i]; exact ⟨Int.le_refl _, hpos8 i⟩, fun e _ h => by cases h⟩
  rintro s K3 ⟨seen, out, rfl, hol, hob, hos⟩ hK3
  dsimp only
  refine ⟨⟨fun e he => hW4.ok.lt e he, Nat.le_refl _⟩, fun hz => ?_, fun e he => ?_⟩
  · have hout : out = fair8 n cl := by
      apply List.ext_getElem
      · rw [hol, h8]
      · intro i hi hi'
        have hb := hob i
        rw [getD_at hi, getD_at hi'] at hb
        refine Int.le_antisymm hb.2 (Int.not_lt.1 (fun h3 => ?_))
        rcases Nat.lt_or_ge i cl.length with h4 | h4
        · have hg := hget i h4
          rw [getD_at hi'] at hg
          obtain ⟨b, hbm⟩ := hW4.has (x := ((i : Int), (fairUp cl n.toNat).getD i 0)) ⟨by show (0 : Int) ≤ (i : Int); omega, by show (i : Int) < _; omega, by show 1 ≤ (fairUp cl n.toNat).getD i 0; omega, by simp only [Int.toNat_natCast]; exact Int.le_refl _⟩
          have := hos _ hbm (mleft_nil hz hbm)
          simp only [Int.toNat_natCast] at this
          rw [getD_at hi] at this
          omega
        · have := hbig i h4
          rw [getD_at hi'] at this
          omega
    subst hout
    refine ⟨by rw [h8]; exact hsz, by rw [h8]; exact har, har, br_intro (fun h => ⟨rfl, hsz, by decide, hsz, ?_⟩) (fun h => ⟨by rw [h8]; exact hsz, h8, by rw [h8]; exact hsz, by decide, by rw [h8]; exact hsz, hk⟩)⟩
    have e : fair8 n cl = List.replicate 8 (Int.ofNat 0) := by simpa using h
    rw [e] at hk
    exact hk
  · have hmm := (mem_mleft.1 he).1
    refine ⟨⟨rfl, hW4.ok.births⟩, e, ⟨hmm, by simp⟩, ?_⟩
    obtain ⟨⟨s1, s2, s3, s4⟩, s5⟩ := hW4.mem hmm
    have hlt8 : e.2.1.1.toNat < out.length := by omega
    have hob' := hob e.2.1.1.toNat
    refine ⟨⟨s1, by omega⟩, hlt8, ⟨s1, by omega⟩, hlt8, ?_⟩
    rw [getD_at hlt8] at hob'
    have hg := hget e.2.1.1.toNat (by omega)
    refine hK3 _ ⟨seen ++ [e.1], _, rfl, by simp [hol], fun i => ?_, fun e' he' hs' => ?_⟩ (mleft_less he)
    · rw [List.getD_eq_getElem?_getD, List.getElem?_set]
      by_cases ei : e.2.1.1.toNat = i
      · subst ei
        rw [if_pos rfl, if_pos hlt8]
        simp only [Option.getD_some]
        split <;> omega
      · rw [if_neg ei, ← List.getD_eq_getElem?_getD]; exact hob i
    · rw [List.getD_eq_getElem?_getD, List.getElem?_set]
      by_cases ei : e.2.1.1.toNat = e'.2.1.1.toNat
      · rw [if_pos ei, if_pos hlt8]
        simp only [Option.getD_some]
        rcases List.mem_append.1 hs' with h | h
        · have := hos e' he' h
          rw [← ei, getD_at hlt8] at this
          split <;> omega
        · have h : e'.1 = e.1 := by simpa using h
          have := hW4.ok.birth he' hmm h
          subst this
          split <;> omega
      · rw [if_neg ei, ← List.getD_eq_getElem?_getD]
        rcases List.mem_append.1 hs' with h | h
        · exact hos e' he' h
        · have h : e'.1 = e.1 := by simpa using h
          have := hW4.ok.birth he' hmm h
          subst this
          exact absurd rfl ei
end Go.Abs.Farm
end

section
/- The farm's functions keep their contracts: rough years by numbers. -/
open Go.Proofs
set_option maxRecDepth 100000
set_option linter.unusedVariables false
namespace Go.Abs.Farm
theorem pairsUp_append : ∀ (l : List Int) (i j : Nat), j = 2 * i → ∀ (h : j + 1 < l.length), pairsUp (l.take (j + 2)) = pairsUp (l.take j) ++ [(l[j], l[j + 1])]
  | a :: b :: l, 0, j, e, h => by
    obtain rfl : j = 0 := by omega
    simp [pairsUp]
  | a :: b :: l, i + 1, j, e, h => by
    obtain ⟨j, rfl⟩ : ∃ j', j = j' + 2 := ⟨j - 2, by omega⟩
    have ih := pairsUp_append l i j (by omega) (by simp at h; omega)
    simp only [List.take_succ_cons, pairsUp, List.getElem_cons_succ, List.cons_append, List.cons.injEq, true_and]
    exact ih
  | [a], i, j, e, h => by simp at h
  | [], i, j, e, h => by simp at h
theorem pairsUp_len : ∀ (l : List Int), (pairsUp l).length ≤ l.length
  | a :: b :: l => by have := pairsUp_len l; simp [pairsUp]; omega
  | [a] => by simp [pairsUp]
  | [] => by simp [pairsUp]
theorem pairsUp_end : ∀ (l : List Int) (i : Nat), l.length ≤ 2 * i + 1 → pairsUp (l.take (2 * i)) = pairsUp l
  | a :: b :: l, 0, h => by simp at h
  | a :: b :: l, i + 1, h => by
    have e2 : 2 * (i + 1) = 2 * i + 1 + 1 := by omega
    simp only [e2, List.take_succ_cons, pairsUp]
    rw [pairsUp_end l i (by simp at h; omega)]
  | [a], 0, h => by simp [pairsUp]
  | [a], i + 1, h => by
    have e2 : 2 * (i + 1) = 2 * i + 1 + 1 := by omega
    simp [e2, pairsUp]
  | [], i, h => by simp [pairsUp]

theorem k54 (hG : Good Try.prog (envOf [])) : v54.Kept Try.prog 54 := by
  rintro ⟨pr, l, ⟨⟩⟩ hpre k hk
  change Int at pr
  change List Int at l
  refine aspec hmix hG Try.func54 tx54 (Eq.mpr (eq54 pr l k) ?_)
  replace hk : k (.agg [rI pr, .imm (.pair (.int .i64) (.int .i64)) (pairsUp l) false]) [] := hk
  unfold vc54
  have hl0 : l.length ≤ 1000 := hpre
  refine Loop.upto (fun i => (l, ((2 * i : Nat) : Int), 0, pr, ([] : List (Int × Int)), pairsUp (l.take (2 * i)), ())) (fun i => True) (l.length / 2) rfl trivial ?_ ?_
  · intro i K hi _ hK
    dsimp only
    refine ⟨fits64 (by omega) (by omega), ?_⟩
    rw [br_decide]
    refine ⟨fun _ => ⟨⟨by omega, by omega⟩, fits64 (by omega) (by omega), ⟨by omega, by omega⟩, ?_, fits64 (by omega) (by omega), ?_⟩, fun h => absurd hi (by omega)⟩
    · have := pairsUp_len (l.take (2 * i))
      simp [big] at this ⊢; omega
    · have e := pairsUp_append l i (2 * i) rfl (by omega)
      have e1 : (((2 * i : Nat) : Int) + 1).toNat = 2 * i + 1 := by omega
      have e2 : ((2 * i : Nat) : Int) + 2 = ((2 * (i + 1) : Nat) : Int) := by omega
      simp only [Int.toNat_natCast, e1]
      have hK := hK trivial
      have e3 : 2 * (i + 1) = 2 * i + 2 := by omega
      rw [← e2, e3, e] at hK
      exact hK
  · intro K _
    dsimp only
    refine ⟨fits64 (by omega) (by omega), ?_⟩
    rw [br_decide]
    refine ⟨fun h => absurd h (by omega), fun _ => ?_⟩
    rw [pairsUp_end l _ (by omega)]
    exact hk

end Go.Abs.Farm
end

section
/- What the farm's functions compute: complaints, near shares. -/
namespace Go.Abs.Farm
def canB (cl s : List Int) (i k : Int) : Bool := decide (i ≠ k ∧ 0 < at0 s k ∧ at0 cl k * (at0 s i + 1) < at0 cl i * at0 s k)
def compP (cl s : List Int) : Option (Nat × Nat) := (List.range s.length).findSome? (fun i : Nat => (List.range s.length).findSome? (fun k : Nat => if canB cl s i k then some (i, k) else none))
def compE (pr : Int) (cl s : List Int) : Int := if sharesErr pr cl s ≠ 0 then sharesErr pr cl s else if (compP cl s).isSome then 0 else 5
def compA (pr : Int) (cl s : List Int) : Int := if compE pr cl s = 0 then (((compP cl s).getD (0, 0)).1 : Int) else 0
def compB (pr : Int) (cl s : List Int) : Int := if compE pr cl s = 0 then (((compP cl s).getD (0, 0)).2 : Int) else 0
def fairE (pr : Int) (cl s : List Int) : Int := if compE pr cl s = 0 then 24 else if compE pr cl s = 5 then 0 else compE pr cl s
def offAt (pr : Int) (cl s : List Int) (i : Nat) : Int := s.getD i 0 * sumL cl - cl.getD i 0 * pr
def absI (x : Int) : Int := if -x > x then -x else x
def offTo (pr : Int) (cl s : List Int) : Nat → Int
  | 0 => 0
  | i + 1 => offTo pr cl s i + absI (offAt pr cl s i)
def offN (pr : Int) (cl s : List Int) : Int := offTo pr cl s s.length
def nearBad (pr : Int) (cl s : List Int) : Bool := (List.range s.length).any (fun i : Nat => decide (sumL cl ≤ offAt pr cl s i ∨ offAt pr cl s i ≤ -(sumL cl)))
def nearE (pr : Int) (cl s : List Int) : Int := if sharesErr pr cl s ≠ 0 then sharesErr pr cl s else if nearBad pr cl s then 24 else 0
def nearOff (pr : Int) (cl s : List Int) : Int := if nearE pr cl s = 0 then offN pr cl s else 0
end Go.Abs.Farm
end

section
/- The contracts of the farm's functions: third part. -/
namespace Go.Abs.Farm
abbrev sYS : VS := .cs sYr (.cs sL .nl)
def v68 : Var := ⟨.cs sYr (.cs sL (.cs sI (.cs sI .nl))), [], fun x => Fine x.1 x.2.1 ∧ x.2.2.1.length = x.2.1.length ∧ inL 0 200 x.2.2.1 ∧ 0 ≤ x.2.2.2.1 ∧ x.2.2.2.1 < (x.2.1.length : Int) ∧ 0 ≤ x.2.2.2.2.1 ∧ x.2.2.2.2.1 < (x.2.1.length : Int), fun x => one (.bool (canB x.2.1 x.2.2.1 x.2.2.2.1 x.2.2.2.2.1))⟩
def v29 : Var := ⟨sYS, [], fun x => x.2.1.length ≤ 14 ∧ x.2.2.1.length ≤ 14, fun x => r3 (compA x.1 x.2.1 x.2.2.1) (compB x.1 x.2.1 x.2.2.1) (compE x.1 x.2.1 x.2.2.1)⟩
def v30 : Var := ⟨sYS, [], fun x => x.2.1.length ≤ 14 ∧ x.2.2.1.length ≤ 14, fun x => r3 (compA x.1 x.2.1 x.2.2.1) (compB x.1 x.2.1 x.2.2.1) (compE x.1 x.2.1 x.2.2.1)⟩
def v33 : Var := ⟨sYS, [], fun x => x.2.1.length ≤ 14 ∧ x.2.2.1.length ≤ 14, fun x => one (rI (fairE x.1 x.2.1 x.2.2.1))⟩
def v34 : Var := ⟨sYS, [], fun x => x.2.1.length ≤ 14 ∧ x.2.2.1.length ≤ 14, fun x => one (rI (fairE x.1 x.2.1 x.2.2.1))⟩
def v46 : Var := ⟨sYS, [], fun x => Fine x.1 x.2.1 ∧ x.2.2.1.length = x.2.1.length ∧ inL 0 200 x.2.2.1, fun x => one (rI (offN x.1 x.2.1 x.2.2.1))⟩
def v31 : Var := ⟨sYS, [], fun x => x.2.1.length ≤ 14 ∧ x.2.2.1.length ≤ 14, fun x => r2 (nearOff x.1 x.2.1 x.2.2.1) (nearE x.1 x.2.1 x.2.2.1)⟩
def v32 : Var := ⟨sYS, [], fun x => x.2.1.length ≤ 14 ∧ x.2.2.1.length ≤ 14, fun x => r2 (nearOff x.1 x.2.1 x.2.2.1) (nearE x.1 x.2.1 x.2.2.1)⟩
end Go.Abs.Farm
end

section
/- Conditions and their equations, printed by a program. -/
open Go.Proofs
set_option maxRecDepth 100000
set_option linter.unusedVariables false
namespace Go.Abs.Farm
def vc68 (pr : Int) (cl : List Int) (s : List Int) (i j : Int) (k : AVal → List Cont → Prop) : Prop :=
  br (((i != j) == Bool.true))
   (∃ h6 : (((0 : Int) ≤ j) ∧ ((Int.toNat j) < (List.length s))),
   br (((decide ((s[(Int.toNat j)]'h6.2) > (0 : Int))) == Bool.true))
    (∃ h7 : (((0 : Int) ≤ i) ∧ ((Int.toNat i) < (List.length cl))),
    ∃ h8 : (((0 : Int) ≤ j) ∧ ((Int.toNat j) < (List.length s))),
    (Go.Abs.fitsK Go.IntKind.i64 ((cl[(Int.toNat i)]'h7.2) * (s[(Int.toNat j)]'h8.2))) ∧
    ∃ h9 : (((0 : Int) ≤ j) ∧ ((Int.toNat j) < (List.length cl))),
    ∃ h10 : (((0 : Int) ≤ i) ∧ ((Int.toNat i) < (List.length s))),
    (Go.Abs.fitsK Go.IntKind.i64 ((s[(Int.toNat i)]'h10.2) + (1 : Int))) ∧
    (Go.Abs.fitsK Go.IntKind.i64 ((cl[(Int.toNat j)]'h9.2) * ((s[(Int.toNat i)]'h10.2) + (1 : Int)))) ∧
    (k (Go.Abs.AVal.bool (decide (((cl[(Int.toNat i)]'h7.2) * (s[(Int.toNat j)]'h8.2)) > ((cl[(Int.toNat j)]'h9.2) * ((s[(Int.toNat i)]'h10.2) + (1 : Int)))))) []))
    ((k (Go.Abs.AVal.bool Bool.false) [])))
   ((k (Go.Abs.AVal.bool Bool.false) []))
theorem eq68 (pr : Int) (cl : List Int) (s : List Int) (i j : Int) (k : AVal → List Cont → Prop) : awpF (envOf []) Try.prog kt 68 false Try.f68 (v68.args (pr, cl, s, i, j, ())) (v68.conts (pr, cl, s, i, j, ())) k = vc68 pr cl s i j k := by kernel_rfl
theorem tx68 : (Try.f68.body.map Code.textsOk).getD true = true := by kernel_rfl

def vc29 (pr : Int) (cl : List Int) (s : List Int) (k : AVal → List Cont → Prop) : Prop :=
  (Go.Abs.Farm.v55.p (pr, (cl, ((s :: ([] : List (List Int))), ())))) ∧
  br ((Go.Abs.Farm.oeIs pr cl (s :: ([] : List (List Int))) (3 : Int)))
   ((k (Go.Abs.AVal.tup ((Go.Abs.AVal.int Go.IntKind.i64 (0 : Int)) :: ((Go.Abs.AVal.int Go.IntKind.i64 (0 : Int)) :: ((Go.Abs.AVal.int Go.IntKind.i64 (3 : Int)) :: [])))) []))
   (br ((Go.Abs.Farm.oeIs pr cl (s :: ([] : List (List Int))) (6 : Int)))
    ((k (Go.Abs.AVal.tup ((Go.Abs.AVal.int Go.IntKind.i64 (0 : Int)) :: ((Go.Abs.AVal.int Go.IntKind.i64 (0 : Int)) :: ((Go.Abs.AVal.int Go.IntKind.i64 (6 : Int)) :: [])))) []))
    (br ((Go.Abs.Farm.oeIs pr cl (s :: ([] : List (List Int))) (16 : Int)))
     ((k (Go.Abs.AVal.tup ((Go.Abs.AVal.int Go.IntKind.i64 (0 : Int)) :: ((Go.Abs.AVal.int Go.IntKind.i64 (0 : Int)) :: ((Go.Abs.AVal.int Go.IntKind.i64 (16 : Int)) :: [])))) []))
     (br ((Go.Abs.Farm.oeIs pr cl (s :: ([] : List (List Int))) (15 : Int)))
      ((k (Go.Abs.AVal.tup ((Go.Abs.AVal.int Go.IntKind.i64 (0 : Int)) :: ((Go.Abs.AVal.int Go.IntKind.i64 (0 : Int)) :: ((Go.Abs.AVal.int Go.IntKind.i64 (15 : Int)) :: [])))) []))
      (br ((Go.Abs.Farm.oeIs pr cl (s :: ([] : List (List Int))) (14 : Int)))
       ((k (Go.Abs.AVal.tup ((Go.Abs.AVal.int Go.IntKind.i64 (0 : Int)) :: ((Go.Abs.AVal.int Go.IntKind.i64 (0 : Int)) :: ((Go.Abs.AVal.int Go.IntKind.i64 (14 : Int)) :: [])))) []))
       (Go.Abs.Loop (σ := ((List Int) × (Int × ((List Int) × ((List Int) × (Int × (Int × Unit))))))) (fun K4 x4 =>
         br ((decide (x4.2.2.2.2.2.1 < x4.2.2.2.2.1)))
          (∃ h6 : (((0 : Int) ≤ x4.2.2.2.2.2.1) ∧ ((Int.toNat x4.2.2.2.2.2.1) < (List.length x4.2.2.2.1))),
          (Go.Abs.fitsK Go.IntKind.i64 ((x4.2.2.2.1[(Int.toNat x4.2.2.2.2.2.1)]'h6.2) + (1 : Int))) ∧
          Go.Abs.Loop (σ := ((List Int) × (Int × ((List Int) × (Int × ((List Int) × (Int × (Int × ((List Int) × (Int × (Int × (Int × (Int × Unit))))))))))))) (fun K7 x7 =>
            br ((decide (x7.2.2.2.2.2.2.2.2.2.1 < x7.2.2.2.2.2.2.2.2.1)))
             (∃ h9 : (((0 : Int) ≤ x7.2.2.2.2.2.2.2.2.2.1) ∧ ((Int.toNat x7.2.2.2.2.2.2.2.2.2.1) < (List.length x7.2.2.2.2.2.2.2.1))),
             br ((((x7.2.2.2.2.2.2.2.1[(Int.toNat x7.2.2.2.2.2.2.2.2.2.1)]'h9.2) == (0 : Int)) == Bool.false))
              (br ((x7.2.2.2.2.2.2.2.2.2.1 == x7.2.2.2.1))
               ((Go.Abs.fitsK Go.IntKind.i64 (x7.2.2.2.2.2.2.2.2.2.1 + (1 : Int))) ∧
               (K7 (x7.1, (x7.2.1, (x7.2.2.1, (x7.2.2.2.1, (x7.2.2.2.2.1, (x7.2.2.2.2.2.1, (x7.2.2.2.2.2.2.1, (x7.2.2.2.2.2.2.2.1, (x7.2.2.2.2.2.2.2.2.1, ((x7.2.2.2.2.2.2.2.2.2.1 + (1 : Int)), (x7.2.2.2.2.2.2.2.2.2.2.1, (x7.2.2.2.2.2.2.2.2.2.2.2.1, ()))))))))))))))
               ((Go.Abs.Farm.v67.p (x7.2.1, (x7.2.2.1, (x7.2.2.2.2.2.2.2.2.2.2.1, (x7.2.2.2.2.2.2.2.2.2.2.2.1, (x7.2.2.2.2.2.2.2.2.2.1, ((x7.2.2.2.2.2.2.2.1[(Int.toNat x7.2.2.2.2.2.2.2.2.2.1)]'h9.2), ()))))))) ∧
               br ((decide ((Go.Abs.Farm.moreI x7.2.2.1 x7.2.2.2.2.2.2.2.2.2.2.1 x7.2.2.2.2.2.2.2.2.2.2.2.1 x7.2.2.2.2.2.2.2.2.2.1 (x7.2.2.2.2.2.2.2.1[(Int.toNat x7.2.2.2.2.2.2.2.2.2.1)]'h9.2)) > (0 : Int))))
                ((k (Go.Abs.AVal.tup ((Go.Abs.AVal.int Go.IntKind.i64 x7.2.2.2.1) :: ((Go.Abs.AVal.int Go.IntKind.i64 x7.2.2.2.2.2.2.2.2.2.1) :: ((Go.Abs.AVal.int Go.IntKind.i64 (0 : Int)) :: [])))) []))
                ((Go.Abs.fitsK Go.IntKind.i64 (x7.2.2.2.2.2.2.2.2.2.1 + (1 : Int))) ∧
                (K7 (x7.1, (x7.2.1, (x7.2.2.1, (x7.2.2.2.1, (x7.2.2.2.2.1, (x7.2.2.2.2.2.1, (x7.2.2.2.2.2.2.1, (x7.2.2.2.2.2.2.2.1, (x7.2.2.2.2.2.2.2.2.1, ((x7.2.2.2.2.2.2.2.2.2.1 + (1 : Int)), (x7.2.2.2.2.2.2.2.2.2.2.1, (x7.2.2.2.2.2.2.2.2.2.2.2.1, ()))))))))))))))))
              ((Go.Abs.fitsK Go.IntKind.i64 (x7.2.2.2.2.2.2.2.2.2.1 + (1 : Int))) ∧
              (K7 (x7.1, (x7.2.1, (x7.2.2.1, (x7.2.2.2.1, (x7.2.2.2.2.1, (x7.2.2.2.2.2.1, (x7.2.2.2.2.2.2.1, (x7.2.2.2.2.2.2.2.1, (x7.2.2.2.2.2.2.2.2.1, ((x7.2.2.2.2.2.2.2.2.2.1 + (1 : Int)), (x7.2.2.2.2.2.2.2.2.2.2.1, (x7.2.2.2.2.2.2.2.2.2.2.2.1, ())))))))))))))))
             ((Go.Abs.fitsK Go.IntKind.i64 (x7.2.2.2.2.2.2.1 + (1 : Int))) ∧
             (K4 (x7.1, (x7.2.1, (x7.2.2.1, (x7.2.2.2.2.1, (x7.2.2.2.2.2.1, ((x7.2.2.2.2.2.2.1 + (1 : Int)), ()))))))))) ((x4.1, (x4.2.1, (x4.2.2.1, (x4.2.2.2.2.2.1, (x4.2.2.2.1, (x4.2.2.2.2.1, (x4.2.2.2.2.2.1, (x4.1, ((((List.length x4.1) : Nat) : Int), ((0 : Int), (x4.2.2.2.2.2.1, (((x4.2.2.2.1[(Int.toNat x4.2.2.2.2.2.1)]'h6.2) + (1 : Int)), ()))))))))))))))
          ((k (Go.Abs.AVal.tup ((Go.Abs.AVal.int Go.IntKind.i64 (0 : Int)) :: ((Go.Abs.AVal.int Go.IntKind.i64 (0 : Int)) :: ((Go.Abs.AVal.int Go.IntKind.i64 (5 : Int)) :: [])))) []))) ((s, (pr, (cl, (s, ((((List.length s) : Nat) : Int), ((0 : Int), ()))))))))))))
theorem eq29 (pr : Int) (cl : List Int) (s : List Int) (k : AVal → List Cont → Prop) : awpF (envOf [(55, mkC [v55]), (67, mkC [v67])]) Try.prog kt 29 false Try.f29 (v29.args (pr, cl, s, ())) (v29.conts (pr, cl, s, ())) k = vc29 pr cl s k := by kernel_rfl
theorem tx29 : (Try.f29.body.map Code.textsOk).getD true = true := by kernel_rfl

def vc30 (pr : Int) (cl : List Int) (s : List Int) (k : AVal → List Cont → Prop) : Prop :=
  (Go.Abs.Farm.v45.p (pr, (cl, (s, ())))) ∧
  br (((Go.Abs.Farm.sharesErr pr cl s) != (0 : Int)))
   ((Go.Abs.Farm.v45.p (pr, (cl, (s, ())))) ∧
   (k (Go.Abs.AVal.tup ((Go.Abs.AVal.int Go.IntKind.i64 (0 : Int)) :: ((Go.Abs.AVal.int Go.IntKind.i64 (0 : Int)) :: ((Go.Abs.AVal.int Go.IntKind.i64 (Go.Abs.Farm.sharesErr pr cl s)) :: [])))) []))
   (Go.Abs.Loop (σ := ((List Int) × (Int × (Int × ((List Int) × Unit))))) (fun K4 x4 =>
     br ((decide (x4.2.1 < (((List.length x4.1) : Nat) : Int))))
      (Go.Abs.Loop (σ := ((List Int) × (Int × (Int × (Int × ((List Int) × Unit)))))) (fun K6 x6 =>
        br ((decide (x6.2.2.1 < (((List.length x6.1) : Nat) : Int))))
         ((Go.Abs.Farm.v68.p (x6.2.2.2.1, (x6.2.2.2.2.1, (x6.1, (x6.2.1, (x6.2.2.1, ())))))) ∧
         br ((Go.Abs.Farm.canB x6.2.2.2.2.1 x6.1 x6.2.1 x6.2.2.1))
          ((k (Go.Abs.AVal.tup ((Go.Abs.AVal.int Go.IntKind.i64 x6.2.1) :: ((Go.Abs.AVal.int Go.IntKind.i64 x6.2.2.1) :: ((Go.Abs.AVal.int Go.IntKind.i64 (0 : Int)) :: [])))) []))
          ((Go.Abs.fitsK Go.IntKind.i64 (x6.2.2.1 + (1 : Int))) ∧
          (K6 (x6.1, (x6.2.1, ((x6.2.2.1 + (1 : Int)), (x6.2.2.2.1, (x6.2.2.2.2.1, ()))))))))
         ((Go.Abs.fitsK Go.IntKind.i64 (x6.2.1 + (1 : Int))) ∧
         (K4 (x6.1, ((x6.2.1 + (1 : Int)), (x6.2.2.2.1, (x6.2.2.2.2.1, ()))))))) ((x4.1, (x4.2.1, ((0 : Int), (x4.2.2.1, (x4.2.2.2.1, ())))))))
      ((k (Go.Abs.AVal.tup ((Go.Abs.AVal.int Go.IntKind.i64 (0 : Int)) :: ((Go.Abs.AVal.int Go.IntKind.i64 (0 : Int)) :: ((Go.Abs.AVal.int Go.IntKind.i64 (5 : Int)) :: [])))) []))) ((s, ((0 : Int), (pr, (cl, ()))))))
theorem eq30 (pr : Int) (cl : List Int) (s : List Int) (k : AVal → List Cont → Prop) : awpF (envOf [(45, mkC [v45]), (68, mkC [v68])]) Try.prog kt 30 false Try.f30 (v30.args (pr, cl, s, ())) (v30.conts (pr, cl, s, ())) k = vc30 pr cl s k := by kernel_rfl
theorem tx30 : (Try.f30.body.map Code.textsOk).getD true = true := by kernel_rfl

def vc33 (pr : Int) (cl : List Int) (s : List Int) (k : AVal → List Cont → Prop) : Prop :=
  (Go.Abs.Farm.v29.p (pr, (cl, (s, ())))) ∧
  br (((Go.Abs.Farm.compE pr cl s) == (0 : Int)))
   ((k (Go.Abs.AVal.int Go.IntKind.i64 (24 : Int)) []))
   (br (((Go.Abs.Farm.compE pr cl s) == (5 : Int)))
    ((k (Go.Abs.AVal.int Go.IntKind.i64 (0 : Int)) []))
    ((k (Go.Abs.AVal.int Go.IntKind.i64 (Go.Abs.Farm.compE pr cl s)) [])))
theorem eq33 (pr : Int) (cl : List Int) (s : List Int) (k : AVal → List Cont → Prop) : awpF (envOf [(29, mkC [v29])]) Try.prog kt 33 false Try.f33 (v33.args (pr, cl, s, ())) (v33.conts (pr, cl, s, ())) k = vc33 pr cl s k := by kernel_rfl
theorem tx33 : (Try.f33.body.map Code.textsOk).getD true = true := by kernel_rfl

def vc34 (pr : Int) (cl : List Int) (s : List Int) (k : AVal → List Cont → Prop) : Prop :=
  (Go.Abs.Farm.v30.p (pr, (cl, (s, ())))) ∧
  br (((Go.Abs.Farm.compE pr cl s) == (0 : Int)))
   ((k (Go.Abs.AVal.int Go.IntKind.i64 (24 : Int)) []))
   (br (((Go.Abs.Farm.compE pr cl s) == (5 : Int)))
    ((k (Go.Abs.AVal.int Go.IntKind.i64 (0 : Int)) []))
    ((k (Go.Abs.AVal.int Go.IntKind.i64 (Go.Abs.Farm.compE pr cl s)) [])))
theorem eq34 (pr : Int) (cl : List Int) (s : List Int) (k : AVal → List Cont → Prop) : awpF (envOf [(30, mkC [v30])]) Try.prog kt 34 false Try.f34 (v34.args (pr, cl, s, ())) (v34.conts (pr, cl, s, ())) k = vc34 pr cl s k := by kernel_rfl
theorem tx34 : (Try.f34.body.map Code.textsOk).getD true = true := by kernel_rfl

def vc46 (pr : Int) (cl : List Int) (s : List Int) (k : AVal → List Cont → Prop) : Prop :=
  (Go.Abs.Farm.v48.p (cl, ())) ∧
  Go.Abs.Loop (σ := ((List Int) × (Int × (Int × (Int × (Int × ((List Int) × Unit))))))) (fun K4 x4 =>
    br ((decide (x4.2.2.2.1 < (((List.length x4.1) : Nat) : Int))))
     (∃ h6 : (((0 : Int) ≤ x4.2.2.2.1) ∧ ((Int.toNat x4.2.2.2.1) < (List.length x4.1))),
     (Go.Abs.fitsK Go.IntKind.i64 ((x4.1[(Int.toNat x4.2.2.2.1)]'h6.2) * x4.2.1)) ∧
     ∃ h7 : (((0 : Int) ≤ x4.2.2.2.1) ∧ ((Int.toNat x4.2.2.2.1) < (List.length x4.2.2.2.2.2.1))),
     (Go.Abs.fitsK Go.IntKind.i64 ((x4.2.2.2.2.2.1[(Int.toNat x4.2.2.2.1)]'h7.2) * x4.2.2.2.2.1)) ∧
     (Go.Abs.fitsK Go.IntKind.i64 (((x4.1[(Int.toNat x4.2.2.2.1)]'h6.2) * x4.2.1) - ((x4.2.2.2.2.2.1[(Int.toNat x4.2.2.2.1)]'h7.2) * x4.2.2.2.2.1))) ∧
     (Go.Abs.fitsK Go.IntKind.i64 (-(((x4.1[(Int.toNat x4.2.2.2.1)]'h6.2) * x4.2.1) - ((x4.2.2.2.2.2.1[(Int.toNat x4.2.2.2.1)]'h7.2) * x4.2.2.2.2.1)) : Int)) ∧
     (Go.Abs.fitsK Go.IntKind.i64 (x4.2.2.1 + (ite ((-(((x4.1[(Int.toNat x4.2.2.2.1)]'h6.2) * x4.2.1) - ((x4.2.2.2.2.2.1[(Int.toNat x4.2.2.2.1)]'h7.2) * x4.2.2.2.2.1)) : Int) > (((x4.1[(Int.toNat x4.2.2.2.1)]'h6.2) * x4.2.1) - ((x4.2.2.2.2.2.1[(Int.toNat x4.2.2.2.1)]'h7.2) * x4.2.2.2.2.1))) (-(((x4.1[(Int.toNat x4.2.2.2.1)]'h6.2) * x4.2.1) - ((x4.2.2.2.2.2.1[(Int.toNat x4.2.2.2.1)]'h7.2) * x4.2.2.2.2.1)) : Int) (((x4.1[(Int.toNat x4.2.2.2.1)]'h6.2) * x4.2.1) - ((x4.2.2.2.2.2.1[(Int.toNat x4.2.2.2.1)]'h7.2) * x4.2.2.2.2.1))))) ∧
     (Go.Abs.fitsK Go.IntKind.i64 (x4.2.2.2.1 + (1 : Int))) ∧
     (K4 (x4.1, (x4.2.1, ((x4.2.2.1 + (ite ((-(((x4.1[(Int.toNat x4.2.2.2.1)]'h6.2) * x4.2.1) - ((x4.2.2.2.2.2.1[(Int.toNat x4.2.2.2.1)]'h7.2) * x4.2.2.2.2.1)) : Int) > (((x4.1[(Int.toNat x4.2.2.2.1)]'h6.2) * x4.2.1) - ((x4.2.2.2.2.2.1[(Int.toNat x4.2.2.2.1)]'h7.2) * x4.2.2.2.2.1))) (-(((x4.1[(Int.toNat x4.2.2.2.1)]'h6.2) * x4.2.1) - ((x4.2.2.2.2.2.1[(Int.toNat x4.2.2.2.1)]'h7.2) * x4.2.2.2.2.1)) : Int) (((x4.1[(Int.toNat x4.2.2.2.1)]'h6.2) * x4.2.1) - ((x4.2.2.2.2.2.1[(Int.toNat x4.2.2.2.1)]'h7.2) * x4.2.2.2.2.1)))), ((x4.2.2.2.1 + (1 : Int)), (x4.2.2.2.2.1, (x4.2.2.2.2.2.1, ()))))))))
     ((k (Go.Abs.AVal.int Go.IntKind.i64 x4.2.2.1) []))) ((s, ((Go.Abs.Farm.sumL cl), ((0 : Int), ((0 : Int), (pr, (cl, ())))))))
theorem eq46 (pr : Int) (cl : List Int) (s : List Int) (k : AVal → List Cont → Prop) : awpF (envOf [(48, mkC [v48])]) Try.prog kt 46 false Try.f46 (v46.args (pr, cl, s, ())) (v46.conts (pr, cl, s, ())) k = vc46 pr cl s k := by kernel_rfl
theorem tx46 : (Try.f46.body.map Code.textsOk).getD true = true := by kernel_rfl

def vc31 (pr : Int) (cl : List Int) (s : List Int) (k : AVal → List Cont → Prop) : Prop :=
  (Go.Abs.Farm.v55.p (pr, (cl, ((s :: ([] : List (List Int))), ())))) ∧
  br ((Go.Abs.Farm.oeIs pr cl (s :: ([] : List (List Int))) (3 : Int)))
   ((k (Go.Abs.AVal.tup ((Go.Abs.AVal.int Go.IntKind.i64 (0 : Int)) :: ((Go.Abs.AVal.int Go.IntKind.i64 (3 : Int)) :: []))) []))
   (br ((Go.Abs.Farm.oeIs pr cl (s :: ([] : List (List Int))) (6 : Int)))
    ((k (Go.Abs.AVal.tup ((Go.Abs.AVal.int Go.IntKind.i64 (0 : Int)) :: ((Go.Abs.AVal.int Go.IntKind.i64 (6 : Int)) :: []))) []))
    (br ((Go.Abs.Farm.oeIs pr cl (s :: ([] : List (List Int))) (16 : Int)))
     ((k (Go.Abs.AVal.tup ((Go.Abs.AVal.int Go.IntKind.i64 (0 : Int)) :: ((Go.Abs.AVal.int Go.IntKind.i64 (16 : Int)) :: []))) []))
     (br ((Go.Abs.Farm.oeIs pr cl (s :: ([] : List (List Int))) (15 : Int)))
      ((k (Go.Abs.AVal.tup ((Go.Abs.AVal.int Go.IntKind.i64 (0 : Int)) :: ((Go.Abs.AVal.int Go.IntKind.i64 (15 : Int)) :: []))) []))
      (br ((Go.Abs.Farm.oeIs pr cl (s :: ([] : List (List Int))) (14 : Int)))
       ((k (Go.Abs.AVal.tup ((Go.Abs.AVal.int Go.IntKind.i64 (0 : Int)) :: ((Go.Abs.AVal.int Go.IntKind.i64 (14 : Int)) :: []))) []))
       ((Go.Abs.Farm.v58.p (cl, ())) ∧
       Go.Abs.Loop (σ := (Int × ((List Int) × (Int × (Int × ((List Int) × (Int × (Int × Unit)))))))) (fun K4 x4 =>
         br ((decide (x4.2.2.2.2.2.2.1 < x4.2.2.2.2.2.1)))
          (∃ h6 : (((0 : Int) ≤ x4.2.2.2.2.2.2.1) ∧ ((Int.toNat x4.2.2.2.2.2.2.1) < (List.length x4.2.2.2.2.1))),
          (Go.Abs.fitsK Go.IntKind.i64 ((x4.2.2.2.2.1[(Int.toNat x4.2.2.2.2.2.2.1)]'h6.2) * x4.2.2.1)) ∧
          ∃ h7 : (((0 : Int) ≤ x4.2.2.2.2.2.2.1) ∧ ((Int.toNat x4.2.2.2.2.2.2.1) < (List.length x4.2.1))),
          (Go.Abs.fitsK Go.IntKind.i64 ((x4.2.1[(Int.toNat x4.2.2.2.2.2.2.1)]'h7.2) * x4.1)) ∧
          (Go.Abs.fitsK Go.IntKind.i64 (((x4.2.2.2.2.1[(Int.toNat x4.2.2.2.2.2.2.1)]'h6.2) * x4.2.2.1) - ((x4.2.1[(Int.toNat x4.2.2.2.2.2.2.1)]'h7.2) * x4.1))) ∧
          (Go.Abs.fitsK Go.IntKind.i64 ((1 : Int) - x4.2.2.1)) ∧
          (Go.Abs.fitsK Go.IntKind.i64 (x4.2.2.1 - (1 : Int))) ∧
          (Go.Abs.Farm.v56.p (((1 : Int) - x4.2.2.1), ((x4.2.2.1 - (1 : Int)), (((((x4.2.2.2.2.1[(Int.toNat x4.2.2.2.2.2.2.1)]'h6.2) * x4.2.2.1) - ((x4.2.1[(Int.toNat x4.2.2.2.2.2.2.1)]'h7.2) * x4.1)) :: ([] : List Int)), ())))) ∧
          br ((Bool.not (Bool.not (Go.Abs.Farm.anyOut ((1 : Int) - x4.2.2.1) (x4.2.2.1 - (1 : Int)) ((((x4.2.2.2.2.1[(Int.toNat x4.2.2.2.2.2.2.1)]'h6.2) * x4.2.2.1) - ((x4.2.1[(Int.toNat x4.2.2.2.2.2.2.1)]'h7.2) * x4.1)) :: ([] : List Int))))))
           ((k (Go.Abs.AVal.tup ((Go.Abs.AVal.int Go.IntKind.i64 (0 : Int)) :: ((Go.Abs.AVal.int Go.IntKind.i64 (24 : Int)) :: []))) []))
           ((Go.Abs.fitsK Go.IntKind.i64 (-(((x4.2.2.2.2.1[(Int.toNat x4.2.2.2.2.2.2.1)]'h6.2) * x4.2.2.1) - ((x4.2.1[(Int.toNat x4.2.2.2.2.2.2.1)]'h7.2) * x4.1)) : Int)) ∧
           (Go.Abs.fitsK Go.IntKind.i64 (x4.2.2.2.1 + (ite ((-(((x4.2.2.2.2.1[(Int.toNat x4.2.2.2.2.2.2.1)]'h6.2) * x4.2.2.1) - ((x4.2.1[(Int.toNat x4.2.2.2.2.2.2.1)]'h7.2) * x4.1)) : Int) > (((x4.2.2.2.2.1[(Int.toNat x4.2.2.2.2.2.2.1)]'h6.2) * x4.2.2.1) - ((x4.2.1[(Int.toNat x4.2.2.2.2.2.2.1)]'h7.2) * x4.1))) (-(((x4.2.2.2.2.1[(Int.toNat x4.2.2.2.2.2.2.1)]'h6.2) * x4.2.2.1) - ((x4.2.1[(Int.toNat x4.2.2.2.2.2.2.1)]'h7.2) * x4.1)) : Int) (((x4.2.2.2.2.1[(Int.toNat x4.2.2.2.2.2.2.1)]'h6.2) * x4.2.2.1) - ((x4.2.1[(Int.toNat x4.2.2.2.2.2.2.1)]'h7.2) * x4.1))))) ∧
           (Go.Abs.fitsK Go.IntKind.i64 (x4.2.2.2.2.2.2.1 + (1 : Int))) ∧
           (K4 (x4.1, (x4.2.1, (x4.2.2.1, ((x4.2.2.2.1 + (ite ((-(((x4.2.2.2.2.1[(Int.toNat x4.2.2.2.2.2.2.1)]'h6.2) * x4.2.2.1) - ((x4.2.1[(Int.toNat x4.2.2.2.2.2.2.1)]'h7.2) * x4.1)) : Int) > (((x4.2.2.2.2.1[(Int.toNat x4.2.2.2.2.2.2.1)]'h6.2) * x4.2.2.1) - ((x4.2.1[(Int.toNat x4.2.2.2.2.2.2.1)]'h7.2) * x4.1))) (-(((x4.2.2.2.2.1[(Int.toNat x4.2.2.2.2.2.2.1)]'h6.2) * x4.2.2.1) - ((x4.2.1[(Int.toNat x4.2.2.2.2.2.2.1)]'h7.2) * x4.1)) : Int) (((x4.2.2.2.2.1[(Int.toNat x4.2.2.2.2.2.2.1)]'h6.2) * x4.2.2.1) - ((x4.2.1[(Int.toNat x4.2.2.2.2.2.2.1)]'h7.2) * x4.1)))), (x4.2.2.2.2.1, (x4.2.2.2.2.2.1, ((x4.2.2.2.2.2.2.1 + (1 : Int)), ()))))))))))
          ((k (Go.Abs.AVal.tup ((Go.Abs.AVal.int Go.IntKind.i64 x4.2.2.2.1) :: ((Go.Abs.AVal.int Go.IntKind.i64 (0 : Int)) :: []))) []))) ((pr, (cl, ((Go.Abs.Farm.sumL cl), ((0 : Int), (s, ((((List.length s) : Nat) : Int), ((0 : Int), ())))))))))))))
theorem eq31 (pr : Int) (cl : List Int) (s : List Int) (k : AVal → List Cont → Prop) : awpF (envOf [(55, mkC [v55]), (58, mkC [v58]), (56, mkC [v56])]) Try.prog kt 31 false Try.f31 (v31.args (pr, cl, s, ())) (v31.conts (pr, cl, s, ())) k = vc31 pr cl s k := by kernel_rfl
theorem tx31 : (Try.f31.body.map Code.textsOk).getD true = true := by kernel_rfl

def vc32 (pr : Int) (cl : List Int) (s : List Int) (k : AVal → List Cont → Prop) : Prop :=
  (Go.Abs.Farm.v45.p (pr, (cl, (s, ())))) ∧
  br (((Go.Abs.Farm.sharesErr pr cl s) != (0 : Int)))
   ((Go.Abs.Farm.v45.p (pr, (cl, (s, ())))) ∧
   (k (Go.Abs.AVal.tup ((Go.Abs.AVal.int Go.IntKind.i64 (0 : Int)) :: ((Go.Abs.AVal.int Go.IntKind.i64 (Go.Abs.Farm.sharesErr pr cl s)) :: []))) []))
   ((Go.Abs.Farm.v48.p (cl, ())) ∧
   Go.Abs.Loop (σ := ((List Int) × (Int × (Int × (Int × ((List Int) × Unit)))))) (fun K4 x4 =>
     br ((decide (x4.2.2.1 < (((List.length x4.1) : Nat) : Int))))
      (∃ h6 : (((0 : Int) ≤ x4.2.2.1) ∧ ((Int.toNat x4.2.2.1) < (List.length x4.1))),
      (Go.Abs.fitsK Go.IntKind.i64 ((x4.1[(Int.toNat x4.2.2.1)]'h6.2) * x4.2.1)) ∧
      ∃ h7 : (((0 : Int) ≤ x4.2.2.1) ∧ ((Int.toNat x4.2.2.1) < (List.length x4.2.2.2.2.1))),
      (Go.Abs.fitsK Go.IntKind.i64 ((x4.2.2.2.2.1[(Int.toNat x4.2.2.1)]'h7.2) * x4.2.2.2.1)) ∧
      (Go.Abs.fitsK Go.IntKind.i64 (((x4.1[(Int.toNat x4.2.2.1)]'h6.2) * x4.2.1) - ((x4.2.2.2.2.1[(Int.toNat x4.2.2.1)]'h7.2) * x4.2.2.2.1))) ∧
      br (((decide ((((x4.1[(Int.toNat x4.2.2.1)]'h6.2) * x4.2.1) - ((x4.2.2.2.2.1[(Int.toNat x4.2.2.1)]'h7.2) * x4.2.2.2.1)) ≥ x4.2.1)) == Bool.false))
       ((Go.Abs.fitsK Go.IntKind.i64 (-x4.2.1 : Int)) ∧
       br ((decide ((((x4.1[(Int.toNat x4.2.2.1)]'h6.2) * x4.2.1) - ((x4.2.2.2.2.1[(Int.toNat x4.2.2.1)]'h7.2) * x4.2.2.2.1)) ≤ (-x4.2.1 : Int))))
        ((k (Go.Abs.AVal.tup ((Go.Abs.AVal.int Go.IntKind.i64 (0 : Int)) :: ((Go.Abs.AVal.int Go.IntKind.i64 (24 : Int)) :: []))) []))
        ((Go.Abs.fitsK Go.IntKind.i64 (x4.2.2.1 + (1 : Int))) ∧
        (K4 (x4.1, (x4.2.1, ((x4.2.2.1 + (1 : Int)), (x4.2.2.2.1, (x4.2.2.2.2.1, ()))))))))
       ((k (Go.Abs.AVal.tup ((Go.Abs.AVal.int Go.IntKind.i64 (0 : Int)) :: ((Go.Abs.AVal.int Go.IntKind.i64 (24 : Int)) :: []))) [])))
      ((Go.Abs.Farm.v46.p (x4.2.2.2.1, (x4.2.2.2.2.1, (x4.1, ())))) ∧
      (k (Go.Abs.AVal.tup ((Go.Abs.AVal.int Go.IntKind.i64 (Go.Abs.Farm.offN x4.2.2.2.1 x4.2.2.2.2.1 x4.1)) :: ((Go.Abs.AVal.int Go.IntKind.i64 (0 : Int)) :: []))) []))) ((s, ((Go.Abs.Farm.sumL cl), ((0 : Int), (pr, (cl, ())))))))
theorem eq32 (pr : Int) (cl : List Int) (s : List Int) (k : AVal → List Cont → Prop) : awpF (envOf [(45, mkC [v45]), (48, mkC [v48]), (46, mkC [v46])]) Try.prog kt 32 false Try.f32 (v32.args (pr, cl, s, ())) (v32.conts (pr, cl, s, ())) k = vc32 pr cl s k := by kernel_rfl
theorem tx32 : (Try.f32.body.map Code.textsOk).getD true = true := by kernel_rfl

end Go.Abs.Farm
end

section
/- The farm's functions keep their contracts: complaints. -/
open Go.Proofs
set_option maxRecDepth 100000
set_option linter.unusedVariables false
namespace Go.Abs.Farm

theorem k34 (hG : Good Try.prog (envOf [(30, mkC [v30])])) : v34.Kept Try.prog 34 := by
  rintro ⟨pr, cl, s, ⟨⟩⟩ hpre k hk
  change Int at pr
  change List Int at cl
  change List Int at s
  refine aspec hmix hG Try.func34 tx34 (Eq.mpr (eq34 pr cl s k) ?_)
  replace hk : k (rI (fairE pr cl s)) [] := hk
  unfold vc34
  refine ⟨hpre, ?_⟩
  rw [br_beq]
  refine ⟨fun h => ?_, fun h => ?_⟩
  · have e : fairE pr cl s = 24 := by unfold fairE; rw [if_pos h]
    rw [e] at hk; exact hk
  rw [br_beq]
  refine ⟨fun h2 => ?_, fun h2 => ?_⟩
  · have e : fairE pr cl s = 0 := by unfold fairE; rw [if_neg h, if_pos h2]
    rw [e] at hk; exact hk
  · have e : fairE pr cl s = compE pr cl s := by unfold fairE; rw [if_neg h, if_neg h2]
    rw [e] at hk; exact hk

theorem k33 (hG : Good Try.prog (envOf [(29, mkC [v29])])) : v33.Kept Try.prog 33 := by
  rintro ⟨pr, cl, s, ⟨⟩⟩ hpre k hk
  change Int at pr
  change List Int at cl
  change List Int at s
  refine aspec hmix hG Try.func33 tx33 (Eq.mpr (eq33 pr cl s k) ?_)
  replace hk : k (rI (fairE pr cl s)) [] := hk
  unfold vc33
  refine ⟨hpre, ?_⟩
  rw [br_beq]
  refine ⟨fun h => ?_, fun h => ?_⟩
  · have e : fairE pr cl s = 24 := by unfold fairE; rw [if_pos h]
    rw [e] at hk; exact hk
  rw [br_beq]
  refine ⟨fun h2 => ?_, fun h2 => ?_⟩
  · have e : fairE pr cl s = 0 := by unfold fairE; rw [if_neg h, if_pos h2]
    rw [e] at hk; exact hk
  · have e : fairE pr cl s = compE pr cl s := by unfold fairE; rw [if_neg h, if_neg h2]
    rw [e] at hk; exact hk
end Go.Abs.Farm
end

section
/- The farm's functions keep their contracts: who can complain. -/
open Go.Proofs
set_option maxRecDepth 100000
set_option linter.unusedVariables false
namespace Go.Abs.Farm

theorem k68 (hG : Good Try.prog (envOf [])) : v68.Kept Try.prog 68 := by
  rintro ⟨pr, cl, s, i, j, ⟨⟩⟩ hpre k hk
  change Int at pr
  change List Int at cl
  change List Int at s
  change Int at i j
  refine aspec hmix hG Try.func68 tx68 (Eq.mpr (eq68 pr cl s i j k) ?_)
  replace hk : k (.bool (canB cl s i j)) [] := hk
  unfold vc68
  obtain ⟨hf, hl, hs, i0, i1, j0, j1⟩ := hpre
  have hf : yearErr pr cl = 0 := hf
  have hl : s.length = cl.length := hl
  have hs : ∀ x ∈ s, (0 : Int) ≤ x ∧ x ≤ 200 := hs
  have i0 : 0 ≤ i := i0
  have i1 : i < (cl.length : Int) := i1
  have j0 : 0 ≤ j := j0
  have j1 : j < (cl.length : Int) := j1
  obtain ⟨f1, f2, f3, f4, f5, f6⟩ := fine_spec hf
  have a1 : i.toNat < cl.length := by omega
  have a2 : j.toNat < cl.length := by omega
  have b1 : i.toNat < s.length := by omega
  have b2 : j.toNat < s.length := by omega
  have e : canB cl s i j = decide (i ≠ j ∧ 0 < s[j.toNat] ∧ cl[j.toNat] * (s[i.toNat] + 1) < cl[i.toNat] * s[j.toNat]) := by
    unfold canB at0
    rw [getD_at b2, getD_at a2, getD_at b1, getD_at a1]
  rw [e] at hk
  have x1 := f5 _ (List.getElem_mem a1)
  have x2 := f5 _ (List.getElem_mem a2)
  have y1 := hs _ (List.getElem_mem b1)
  have y2 := hs _ (List.getElem_mem b2)
  have m1 := mul_small (a := cl[i.toNat]) (b := s[j.toNat]) (by omega) (by omega) (by omega) (by omega)
  have m2 := mul_small (a := cl[j.toNat]) (b := s[i.toNat] + 1) (by omega) (by omega) (by omega) (by omega)
  rw [br_bt]
  refine ⟨fun h => ⟨⟨j0, b2⟩, ?_⟩, fun h => ?_⟩
  · have h : i ≠ j := by simpa using h
    rw [br_true]
    refine ⟨fun h2 => ⟨⟨i0, a1⟩, ⟨j0, b2⟩, fits64 (by omega) (by omega), ⟨j0, a2⟩, ⟨i0, b1⟩, fits64 (by omega) (by omega), fits64 (by omega) (by omega), ?_⟩, fun h2 => ?_⟩
    · have e2 : decide (i ≠ j ∧ 0 < s[j.toNat] ∧ cl[j.toNat] * (s[i.toNat] + 1) < cl[i.toNat] * s[j.toNat]) = decide (cl[i.toNat] * s[j.toNat] > cl[j.toNat] * (s[i.toNat] + 1)) := by
        rw [decide_eq_decide]; exact ⟨fun h3 => h3.2.2, fun h3 => ⟨h, h2, h3⟩⟩
      rw [e2] at hk; exact hk
    · have e2 : decide (i ≠ j ∧ 0 < s[j.toNat] ∧ cl[j.toNat] * (s[i.toNat] + 1) < cl[i.toNat] * s[j.toNat]) = false := by
        rw [decide_eq_false_iff_not]; exact fun h3 => h2 h3.2.1
      rw [e2] at hk; exact hk
  · have h : i = j := by simpa using h
    have e2 : decide (i ≠ j ∧ 0 < s[j.toNat] ∧ cl[j.toNat] * (s[i.toNat] + 1) < cl[i.toNat] * s[j.toNat]) = false := by
      rw [decide_eq_false_iff_not]; exact fun h3 => h3.1 h
    rw [e2] at hk; exact hk
end Go.Abs.Farm
end

section
/- The farm's functions keep their contracts: the first complaint, by the definition. -/
open Go.Proofs
set_option maxRecDepth 100000
set_option linter.unusedVariables false
namespace Go.Abs.Farm

def rowC (cl s : List Int) (i n : Nat) : Option (Nat × Nat) := (List.range n).findSome? (fun k : Nat => if canB cl s i k then some (i, k) else none)
def rowsC (cl s : List Int) (n : Nat) : Option (Nat × Nat) := (List.range n).findSome? (fun i : Nat => rowC cl s i s.length)
theorem rowC_succ (cl s : List Int) (i n : Nat) : rowC cl s i (n + 1) = (rowC cl s i n).or (if canB cl s i n then some (i, n) else none) := by
  unfold rowC; rw [List.range_succ, List.findSome?_append]
  congr 1
  cases h : canB cl s i n <;> simp [h]
theorem rowsC_succ (cl s : List Int) (n : Nat) : rowsC cl s (n + 1) = (rowsC cl s n).or (rowC cl s n s.length) := by
  unfold rowsC; rw [List.range_succ, List.findSome?_append]
  congr 1
  cases h : rowC cl s n s.length <;> simp [h]
theorem rowC_more {cl s : List Int} {i n : Nat} {x : Nat × Nat} (h : rowC cl s i n = some x) : ∀ m, n ≤ m → rowC cl s i m = some x
  | m, hm => by
    induction m with
    | zero => obtain rfl : n = 0 := by omega
              exact h
    | succ m ih =>
      rcases Nat.eq_or_lt_of_le hm with e | e
      · subst e; exact h
      · rw [rowC_succ, ih (by omega)]; rfl
theorem rowsC_more {cl s : List Int} {n : Nat} {x : Nat × Nat} (h : rowsC cl s n = some x) : ∀ m, n ≤ m → rowsC cl s m = some x
  | m, hm => by
    induction m with
    | zero => obtain rfl : n = 0 := by omega
              exact h
    | succ m ih =>
      rcases Nat.eq_or_lt_of_le hm with e | e
      · subst e; exact h
      · rw [rowsC_succ, ih (by omega)]; rfl

theorem k30 (hG : Good Try.prog (envOf [(45, mkC [v45]), (68, mkC [v68])])) : v30.Kept Try.prog 30 := by
  rintro ⟨pr, cl, s, ⟨⟩⟩ hpre k hk
  change Int at pr
  change List Int at cl
  change List Int at s
  refine aspec hmix hG Try.func30 tx30 (Eq.mpr (eq30 pr cl s k) ?_)
  replace hk : k (.tup [rI (compA pr cl s), rI (compB pr cl s), rI (compE pr cl s)]) [] := hk
  unfold vc30
  obtain ⟨hl, hsl⟩ := hpre
  have hl : cl.length ≤ 14 := hl
  have hsl : s.length ≤ 14 := hsl
  have hP : compP cl s = rowsC cl s s.length := rfl
  refine ⟨⟨hl, hsl⟩, ?_⟩
  rw [br_bne]
  refine ⟨fun h => ⟨⟨hl, hsl⟩, ?_⟩, fun h => ?_⟩
  · have e : compE pr cl s = sharesErr pr cl s := by unfold compE; rw [if_pos h]
    have e1 : compA pr cl s = 0 := by unfold compA; rw [if_neg (by omega)]
    have e2 : compB pr cl s = 0 := by unfold compB; rw [if_neg (by omega)]
    rw [e, e1, e2] at hk; exact hk
  have hs0 : sharesErr pr cl s = 0 := by omega
  have sp : yearErr pr cl = 0 ∧ s.length = cl.length ∧ anyOut 0 200 s = false := by
    unfold sharesErr at hs0
    by_cases h1 : yearErr pr cl ≠ 0
    · rw [if_pos h1] at hs0; exact absurd hs0 h1
    · rw [if_neg h1] at hs0
      by_cases h2 : s.length ≠ cl.length
      · rw [if_pos h2] at hs0; omega
      · rw [if_neg h2] at hs0
        by_cases h3 : anyOut 0 200 s = true
        · rw [if_pos h3] at hs0; omega
        · exact ⟨by omega, by omega, by simpa using h3⟩
  obtain ⟨hf, hlen, hany⟩ := sp
  have hin := not_any hany
  refine Loop.upto (fun i => (s, (i : Int), pr, cl, ())) (fun i => rowsC cl s i = none) s.length rfl rfl ?_ ?_
  · intro i K hi hp hK
    dsimp only
    rw [br_decide]
    refine ⟨fun _ => ?_, fun h => absurd hi (by omega)⟩
    try simp only [Int.toNat_natCast]
    refine Loop.upto (fun k => (s, (i : Int), (k : Int), pr, cl, ())) (fun k => rowC cl s i k = none) s.length rfl rfl ?_ ?_
    · intro q K2 hq hp2 hK2
      dsimp only
      rw [br_decide]
      refine ⟨fun _ => ⟨⟨hf, hlen, hin, by show (0 : Int) ≤ (i : Int); omega, by show (i : Int) < (cl.length : Int); omega, by show (0 : Int) ≤ (q : Int); omega, by show (q : Int) < (cl.length : Int); omega⟩, ?_⟩, fun h => absurd hq (by omega)⟩
      refine br_intro (fun h3 => ?_) (fun h3 => ⟨fits64 (by omega) (by omega), hK2 (by rw [rowC_succ, hp2, h3]; rfl)⟩)
      have e : rowsC cl s s.length = some (i, q) := by
        refine rowsC_more (n := i + 1) ?_ _ (by omega)
        rw [rowsC_succ, hp, rowC_more (n := q + 1) (by rw [rowC_succ, hp2, h3]; rfl) s.length (by omega)]; rfl
      have e0 : compE pr cl s = 0 := by unfold compE; rw [if_neg (by omega), hP, e]; rfl
      have e1 : compA pr cl s = (i : Int) := by unfold compA; rw [if_pos e0, hP, e]; rfl
      have e2 : compB pr cl s = (q : Int) := by unfold compB; rw [if_pos e0, hP, e]; rfl
      rw [e0, e1, e2] at hk; exact hk
    · intro K2 hp2
      dsimp only
      rw [br_decide]
      exact ⟨fun h => absurd h (by omega), fun _ => ⟨fits64 (by omega) (by omega), hK (by rw [rowsC_succ, hp, hp2]; rfl)⟩⟩
  · intro K hp
    dsimp only
    rw [br_decide]
    refine ⟨fun h => absurd h (by omega), fun _ => ?_⟩
    have e0 : compE pr cl s = 5 := by unfold compE; rw [if_neg (by omega), hP, hp]; rfl
    have e1 : compA pr cl s = 0 := by unfold compA; rw [if_neg (by omega)]
    have e2 : compB pr cl s = 0 := by unfold compB; rw [if_neg (by omega)]
    rw [e0, e1, e2] at hk; exact hk
end Go.Abs.Farm
end

section
/- The farm's functions keep their contracts: complaints, by the program; what shares are off. -/
open Go.Proofs
set_option maxRecDepth 100000
set_option linter.unusedVariables false
namespace Go.Abs.Farm

theorem shares_spec {pr : Int} {cl s : List Int} (h : sharesErr pr cl s = 0) : yearErr pr cl = 0 ∧ s.length = cl.length ∧ (∀ x ∈ s, (0 : Int) ≤ x ∧ x ≤ 200) ∧ sumL s = pr := by
  unfold sharesErr at h
  by_cases h1 : yearErr pr cl ≠ 0
  · rw [if_pos h1] at h; exact absurd h h1
  · rw [if_neg h1] at h
    by_cases h2 : s.length ≠ cl.length
    · rw [if_pos h2] at h; omega
    · rw [if_neg h2] at h
      by_cases h3 : anyOut 0 200 s = true
      · rw [if_pos h3] at h; omega
      · rw [if_neg h3] at h
        by_cases h4 : sumL s ≠ pr
        · rw [if_pos h4] at h; omega
        · exact ⟨by omega, by omega, not_any (by simpa using h3), by omega⟩
theorem mul_in {a b A B : Int} (h1 : 0 ≤ a) (h2 : a ≤ A) (h3 : 0 ≤ b) (h4 : b ≤ B) : 0 ≤ a * b ∧ a * b ≤ A * B :=
  ⟨Int.mul_nonneg h1 h3, Int.mul_le_mul h2 h4 h3 (by omega)⟩
/-- What the terms of what is off are. -/
theorem off_terms {pr : Int} {cl s : List Int} (hf : yearErr pr cl = 0) (hl : s.length = cl.length) (hs : ∀ x ∈ s, (0 : Int) ≤ x ∧ x ≤ 200) {i : Nat} (hi : i < s.length) (hi' : i < cl.length) :
    0 ≤ s[i] * sumL cl ∧ s[i] * sumL cl ≤ 160000 ∧ 0 ≤ cl[i] * pr ∧ cl[i] * pr ≤ 20000 ∧ offAt pr cl s i = s[i] * sumL cl - cl[i] * pr := by
  obtain ⟨f1, f2, f3, f4, f5, f6⟩ := fine_spec hf
  have h1 := hs _ (List.getElem_mem hi)
  have h2 := f5 _ (List.getElem_mem hi')
  have h3 := sum_bound (l := cl) (b := 100) f5
  have a1 := mul_in (A := 200) (B := 800) h1.1 h1.2 h3.1 (by omega)
  have a2 := mul_in (A := 100) (B := 200) h2.1 h2.2 f1 f2
  refine ⟨a1.1, by omega, a2.1, by omega, ?_⟩
  unfold offAt
  rw [getD_at hi, getD_at hi']
theorem sum_ok {cl : List Int} {pr : Int} (hf : yearErr pr cl = 0) : cl.length ≤ 20 ∧ (∀ x ∈ cl, (0 : Int) ≤ x ∧ x ≤ 1000) ∧ 1 ≤ sumL cl ∧ sumL cl ≤ 800 := by
  obtain ⟨f1, f2, f3, f4, f5, f6⟩ := fine_spec hf
  have h3 := sum_bound (l := cl) (b := 100) f5
  exact ⟨by omega, fun x hx => ⟨(f5 x hx).1, by have := (f5 x hx).2; omega⟩, by omega, by omega⟩
theorem abs_in {x b : Int} (h1 : -b ≤ x) (h2 : x ≤ b) : 0 ≤ absI x ∧ absI x ≤ b := by unfold absI; split <;> omega
theorem off_in {pr : Int} {cl s : List Int} (hf : yearErr pr cl = 0) (hl : s.length = cl.length) (hs : ∀ x ∈ s, (0 : Int) ≤ x ∧ x ≤ 200) : ∀ i : Nat, i ≤ s.length → 0 ≤ offTo pr cl s i ∧ offTo pr cl s i ≤ 180000 * (i : Int)
  | 0, _ => by unfold offTo; omega
  | i + 1, h => by
    have ih := off_in hf hl hs i (by omega)
    obtain ⟨o1, o2, o3, o4, o5⟩ := off_terms hf hl hs (i := i) (by omega) (by omega)
    have := abs_in (x := offAt pr cl s i) (b := 180000) (by omega) (by omega)
    show 0 ≤ offTo pr cl s i + absI (offAt pr cl s i) ∧ offTo pr cl s i + absI (offAt pr cl s i) ≤ 180000 * ((i + 1 : Nat) : Int)
    omega

theorem k46 (hG : Good Try.prog (envOf [(48, mkC [v48])])) : v46.Kept Try.prog 46 := by
  rintro ⟨pr, cl, s, ⟨⟩⟩ hpre k hk
  change Int at pr
  change List Int at cl
  change List Int at s
  refine aspec hmix hG Try.func46 tx46 (Eq.mpr (eq46 pr cl s k) ?_)
  replace hk : k (rI (offN pr cl s)) [] := hk
  unfold vc46
  obtain ⟨hf, hl, hs⟩ := hpre
  have hf : yearErr pr cl = 0 := hf
  have hl : s.length = cl.length := hl
  have hs : ∀ x ∈ s, (0 : Int) ≤ x ∧ x ≤ 200 := hs
  obtain ⟨f1, f2, f3, f4, f5, f6⟩ := fine_spec hf
  obtain ⟨g1, g2, g3, g4⟩ := sum_ok hf
  refine ⟨⟨g1, g2⟩, ?_⟩
  refine Loop.upto (fun i => (s, sumL cl, offTo pr cl s i, (i : Int), pr, cl, ())) (fun _ => True) s.length rfl trivial ?_ ?_
  · intro i K hi hp hK
    dsimp only
    rw [br_decide]
    refine ⟨fun _ => ?_, fun h => absurd hi (by omega)⟩
    try simp only [Int.toNat_natCast]
    obtain ⟨o1, o2, o3, o4, o5⟩ := off_terms hf hl hs (i := i) hi (by omega)
    have hA := off_in hf hl hs i (by omega)
    have hB := off_in hf hl hs (i + 1) (by omega)
    have e : offTo pr cl s (i + 1) = offTo pr cl s i + (if -(s[i] * sumL cl - cl[i]'(by omega) * pr) > (s[i] * sumL cl - cl[i]'(by omega) * pr) then -(s[i] * sumL cl - cl[i]'(by omega) * pr) else (s[i] * sumL cl - cl[i]'(by omega) * pr)) := by
      show offTo pr cl s i + absI (offAt pr cl s i) = _
      rw [o5]; rfl
    have hK := hK trivial
    rw [e] at hK hB
    exact ⟨⟨by omega, hi⟩, fits64 (by omega) (by omega), ⟨by omega, by omega⟩, fits64 (by omega) (by omega), fits64 (by omega) (by omega), fits64 (by omega) (by omega), fits64 (by omega) (by omega), fits64 (by omega) (by omega), hK⟩
  · intro K hp
    dsimp only
    rw [br_decide]
    refine ⟨fun h => absurd h (by omega), fun _ => ?_⟩
    exact hk

theorem nearBad_iff (pr : Int) (cl s : List Int) : nearBad pr cl s = true ↔ ∃ i : Nat, i < s.length ∧ (sumL cl ≤ offAt pr cl s i ∨ offAt pr cl s i ≤ -(sumL cl)) := by
  unfold nearBad
  rw [List.any_eq_true]
  constructor
  · rintro ⟨i, hi, h⟩; exact ⟨i, List.mem_range.1 hi, of_decide_eq_true h⟩
  · rintro ⟨i, hi, h⟩; exact ⟨i, List.mem_range.2 hi, decide_eq_true h⟩

theorem k32 (hG : Good Try.prog (envOf [(45, mkC [v45]), (48, mkC [v48]), (46, mkC [v46])])) : v32.Kept Try.prog 32 := by
  rintro ⟨pr, cl, s, ⟨⟩⟩ hpre k hk
  change Int at pr
  change List Int at cl
  change List Int at s
  refine aspec hmix hG Try.func32 tx32 (Eq.mpr (eq32 pr cl s k) ?_)
  replace hk : k (.tup [rI (nearOff pr cl s), rI (nearE pr cl s)]) [] := hk
  unfold vc32
  obtain ⟨hl, hsl⟩ := hpre
  have hl : cl.length ≤ 14 := hl
  have hsl : s.length ≤ 14 := hsl
  have bad : ∀ e : Int, e ≠ 0 → nearE pr cl s = e → k (.tup [rI 0, rI e]) [] := fun e h0 h => by
    have e2 : nearOff pr cl s = 0 := by unfold nearOff; rw [if_neg (by omega)]
    rw [e2, h] at hk; exact hk
  refine ⟨⟨hl, hsl⟩, ?_⟩
  rw [br_bne]
  refine ⟨fun h => ⟨⟨hl, hsl⟩, bad _ h (by unfold nearE; rw [if_pos h])⟩, fun h => ?_⟩
  obtain ⟨hf, hlen, hin, hsum⟩ := shares_spec h
  obtain ⟨f1, f2, f3, f4, f5, f6⟩ := fine_spec hf
  obtain ⟨g1, g2, g3, g4⟩ := sum_ok hf
  refine ⟨⟨g1, g2⟩, ?_⟩
  refine Loop.upto (fun i => (s, sumL cl, (i : Int), pr, cl, ())) (fun i => ∀ j : Nat, j < i → ¬ (sumL cl ≤ offAt pr cl s j ∨ offAt pr cl s j ≤ -(sumL cl))) s.length rfl (fun j hj => absurd hj (Nat.not_lt_zero _)) ?_ ?_
  · intro i K hi hp hK
    dsimp only
    rw [br_decide]
    refine ⟨fun _ => ?_, fun h => absurd hi (by omega)⟩
    try simp only [Int.toNat_natCast]
    obtain ⟨o1, o2, o3, o4, o5⟩ := off_terms hf hlen hin (i := i) hi (by omega)
    have isbad : (sumL cl ≤ offAt pr cl s i ∨ offAt pr cl s i ≤ -(sumL cl)) → nearE pr cl s = 24 := fun hb => by
      unfold nearE; rw [if_neg (by omega), if_pos ((nearBad_iff pr cl s).2 ⟨i, hi, hb⟩)]
    refine ⟨⟨by omega, hi⟩, fits64 (by omega) (by omega), ⟨by omega, by omega⟩, fits64 (by omega) (by omega), fits64 (by omega) (by omega), ?_⟩
    rw [br_false]
    refine ⟨fun h2 => ⟨fits64 (by omega) (by omega), ?_⟩, fun h2 => bad 24 (by omega) (isbad (by rw [o5]; exact .inl h2))⟩
    rw [br_decide]
    refine ⟨fun h3 => bad 24 (by omega) (isbad (by rw [o5]; exact .inr h3)), fun h3 => ⟨fits64 (by omega) (by omega), hK (fun j hj => ?_)⟩⟩
    rcases Nat.eq_or_lt_of_le (Nat.le_of_lt_succ hj) with e | e
    · subst e; rw [o5]; omega
    · exact hp j e
  · intro K hp
    dsimp only
    rw [br_decide]
    refine ⟨fun h => absurd h (by omega), fun _ => ?_⟩
    have e : nearE pr cl s = 0 := by
      unfold nearE
      rw [if_neg (by omega), if_neg (fun hb => ?_)]
      obtain ⟨i, hi, hb⟩ := (nearBad_iff pr cl s).1 hb
      exact hp i hi hb
    have e2 : nearOff pr cl s = offN pr cl s := by unfold nearOff; rw [if_pos e]
    rw [e, e2] at hk
    exact ⟨⟨hf, hlen, hin⟩, hk⟩

theorem open_one (pr : Int) (cl s : List Int) : openErr pr cl [s] = sharesErr pr cl s := rfl

theorem k31 (hG : Good Try.prog (envOf [(55, mkC [v55]), (58, mkC [v58]), (56, mkC [v56])])) : v31.Kept Try.prog 31 := by
  rintro ⟨pr, cl, s, ⟨⟩⟩ hpre k hk
  change Int at pr
  change List Int at cl
  change List Int at s
  refine aspec hmix hG Try.func31 tx31 (Eq.mpr (eq31 pr cl s k) ?_)
  replace hk : k (.tup [rI (nearOff pr cl s), rI (nearE pr cl s)]) [] := hk
  unfold vc31
  obtain ⟨hl, hsl⟩ := hpre
  have hl : cl.length ≤ 14 := hl
  have hsl : s.length ≤ 14 := hsl
  have bad : ∀ e : Int, e ≠ 0 → nearE pr cl s = e → k (.tup [rI 0, rI e]) [] := fun e h0 h => by
    have e2 : nearOff pr cl s = 0 := by unfold nearOff; rw [if_neg (by omega)]
    rw [e2, h] at hk; exact hk
  refine ⟨⟨hl, by show (1 : Nat) ≤ 1; omega, fun l h => by obtain rfl := List.mem_singleton.1 h; exact hsl⟩, ?_⟩
  refine br_errsO (p := fun e => k (.tup [rI 0, rI e]) []) (fun h => ?_) (fun h => ?_)
  · rw [open_one] at h ⊢
    exact bad _ h (by unfold nearE; rw [if_pos h])
  rw [open_one] at h
  obtain ⟨hf, hlen, hin, hsum⟩ := shares_spec h
  obtain ⟨f1, f2, f3, f4, f5, f6⟩ := fine_spec hf
  obtain ⟨g1, g2, g3, g4⟩ := sum_ok hf
  refine ⟨⟨g1, g2⟩, ?_⟩
  refine Loop.upto (fun i => (pr, cl, sumL cl, offTo pr cl s i, s, ((s.length : Nat) : Int), (i : Int), ())) (fun i => ∀ j : Nat, j < i → ¬ (sumL cl ≤ offAt pr cl s j ∨ offAt pr cl s j ≤ -(sumL cl))) s.length rfl (fun j hj => absurd hj (Nat.not_lt_zero _)) ?_ ?_
  · intro i K hi hp hK
    dsimp only
    rw [br_decide]
    refine ⟨fun _ => ?_, fun h => absurd hi (by omega)⟩
    try simp only [Int.toNat_natCast]
    obtain ⟨o1, o2, o3, o4, o5⟩ := off_terms hf hlen hin (i := i) hi (by omega)
    have hA := off_in hf hlen hin i (by omega)
    have hB := off_in hf hlen hin (i + 1) (by omega)
    have e : offTo pr cl s (i + 1) = offTo pr cl s i + (if -(s[i] * sumL cl - cl[i]'(by omega) * pr) > (s[i] * sumL cl - cl[i]'(by omega) * pr) then -(s[i] * sumL cl - cl[i]'(by omega) * pr) else (s[i] * sumL cl - cl[i]'(by omega) * pr)) := by
      show offTo pr cl s i + absI (offAt pr cl s i) = _
      rw [o5]; rfl
    rw [e] at hK hB
    refine ⟨⟨by omega, hi⟩, fits64 (by omega) (by omega), ⟨by omega, by omega⟩, fits64 (by omega) (by omega), fits64 (by omega) (by omega), fits64 (by omega) (by omega), fits64 (by omega) (by omega), by show (1 : Nat) ≤ big60; decide, ?_⟩
    rw [br_notnot, anyOut_one]
    refine ⟨fun h2 => ?_, fun h2 => ?_⟩
    · simp only [outOf, decide_eq_true_eq] at h2
      refine bad 24 (by omega) ?_
      unfold nearE; rw [if_neg (by omega), if_pos ((nearBad_iff pr cl s).2 ⟨i, hi, by rw [o5]; omega⟩)]
    simp only [outOf, decide_eq_false_iff_not] at h2
    refine ⟨fits64 (by omega) (by omega), fits64 (by omega) (by omega), fits64 (by omega) (by omega), hK (fun j hj => ?_)⟩
    rcases Nat.eq_or_lt_of_le (Nat.le_of_lt_succ hj) with e | e
    · subst e; rw [o5]; omega
    · exact hp j e
  · intro K hp
    dsimp only
    rw [br_decide]
    refine ⟨fun h => absurd h (by omega), fun _ => ?_⟩
    have e : nearE pr cl s = 0 := by
      unfold nearE
      rw [if_neg (by omega), if_neg (fun hb => ?_)]
      obtain ⟨i, hi, hb⟩ := (nearBad_iff pr cl s).1 hb
      exact hp i hi hb
    have e2 : nearOff pr cl s = offN pr cl s := by unfold nearOff; rw [if_pos e]
    rw [e, e2] at hk
    exact hk

theorem cmpI_pos {x y : Int} : cmpI x y > 0 ↔ y < x := by unfold cmpI; split <;> (try split) <;> omega

theorem k29 (hG : Good Try.prog (envOf [(55, mkC [v55]), (67, mkC [v67])])) : v29.Kept Try.prog 29 := by
  rintro ⟨pr, cl, s, ⟨⟩⟩ hpre k hk
  change Int at pr
  change List Int at cl
  change List Int at s
  refine aspec hmix hG Try.func29 tx29 (Eq.mpr (eq29 pr cl s k) ?_)
  replace hk : k (.tup [rI (compA pr cl s), rI (compB pr cl s), rI (compE pr cl s)]) [] := hk
  unfold vc29
  obtain ⟨hl, hsl⟩ := hpre
  have hl : cl.length ≤ 14 := hl
  have hsl : s.length ≤ 14 := hsl
  have hP : compP cl s = rowsC cl s s.length := rfl
  refine ⟨⟨hl, by show (1 : Nat) ≤ 1; omega, fun l h => by obtain rfl := List.mem_singleton.1 h; exact hsl⟩, ?_⟩
  refine br_errsO (p := fun e => k (.tup [rI 0, rI 0, rI e]) []) (fun h => ?_) (fun h => ?_)
  · rw [open_one] at h ⊢
    have e : compE pr cl s = sharesErr pr cl s := by unfold compE; rw [if_pos h]
    have e1 : compA pr cl s = 0 := by unfold compA; rw [if_neg (by omega)]
    have e2 : compB pr cl s = 0 := by unfold compB; rw [if_neg (by omega)]
    rw [e, e1, e2] at hk; exact hk
  rw [open_one] at h
  obtain ⟨hf, hlen, hin, hsum⟩ := shares_spec h
  obtain ⟨f1, f2, f3, f4, f5, f6⟩ := fine_spec hf
  obtain ⟨g1, g2, g3, g4⟩ := sum_ok hf
  refine Loop.upto (fun i => (s, pr, cl, s, ((s.length : Nat) : Int), (i : Int), ())) (fun i => rowsC cl s i = none) s.length rfl rfl ?_ ?_
  · intro i K hi hp hK
    dsimp only
    rw [br_decide]
    refine ⟨fun _ => ?_, fun h => absurd hi (by omega)⟩
    try simp only [Int.toNat_natCast]
    have hsi := hin _ (List.getElem_mem hi)
    refine ⟨⟨by omega, hi⟩, fits64 (by omega) (by omega), ?_⟩
    refine Loop.upto (fun q => (s, pr, cl, (i : Int), s, ((s.length : Nat) : Int), (i : Int), s, ((s.length : Nat) : Int), (q : Int), (i : Int), s[i] + 1, ())) (fun q => rowC cl s i q = none) s.length rfl rfl ?_ ?_
    · intro q K2 hq hp2 hK2
      dsimp only
      rw [br_decide]
      refine ⟨fun _ => ?_, fun h => absurd hq (by omega)⟩
      try simp only [Int.toNat_natCast]
      have hsq := hin _ (List.getElem_mem hq)
      have ecan : canB cl s i q = decide ((i : Int) ≠ (q : Int) ∧ 0 < s[q] ∧ at0 cl (q : Int) * (s[i] + 1) < at0 cl (i : Int) * s[q]) := by
        unfold canB
        have ei : at0 s (i : Int) = s[i] := by unfold at0; rw [Int.toNat_natCast, getD_at hi]
        have eq : at0 s (q : Int) = s[q] := by unfold at0; rw [Int.toNat_natCast, getD_at hq]
        rw [ei, eq]
      have no : canB cl s i q = false → rowC cl s i (q + 1) = none := fun h3 => by rw [rowC_succ, hp2, h3]; rfl
      refine ⟨⟨by omega, hq⟩, ?_⟩
      rw [br_bf]
      refine ⟨fun h1 => ?_, fun h1 => ?_⟩
      · have h1 : s[q] ≠ 0 := by simpa using h1
        rw [br_beq]
        refine ⟨fun h2 => ⟨fits64 (by omega) (by omega), hK2 (no ?_)⟩, fun h2 => ⟨⟨⟨g1, g2⟩, ⟨by show (0 : Int) ≤ (i : Int); omega, by show (i : Int) < (cl.length : Int); omega, by show 0 ≤ s[i] + 1; omega, by show s[i] + 1 ≤ 1000; omega⟩, ⟨by show (0 : Int) ≤ (q : Int); omega, by show (q : Int) < (cl.length : Int); omega, hsq.1, by show s[q] ≤ 1000; omega⟩⟩, ?_⟩⟩
        · rw [ecan, decide_eq_false_iff_not]; omega
        have em : moreI cl (i : Int) (s[i] + 1) (q : Int) s[q] = cmpI (at0 cl (i : Int) * s[q]) (at0 cl (q : Int) * (s[i] + 1)) := rfl
        rw [br_decide, em]
        have ep := cmpI_pos (x := at0 cl (i : Int) * s[q]) (y := at0 cl (q : Int) * (s[i] + 1))
        refine ⟨fun h3 => ?_, fun h3 => ⟨fits64 (by omega) (by omega), hK2 (no ?_)⟩⟩
        · have hc : canB cl s i q = true := by rw [ecan, decide_eq_true_eq]; exact ⟨fun e => h2 e.symm, by omega, ep.1 h3⟩
          have e : rowsC cl s s.length = some (i, q) := by
            refine rowsC_more (n := i + 1) ?_ _ (by omega)
            rw [rowsC_succ, hp, rowC_more (n := q + 1) (by rw [rowC_succ, hp2, hc]; rfl) s.length (by omega)]; rfl
          have e0 : compE pr cl s = 0 := by unfold compE; rw [if_neg (by omega), hP, e]; rfl
          have e1 : compA pr cl s = (i : Int) := by unfold compA; rw [if_pos e0, hP, e]; rfl
          have e2 : compB pr cl s = (q : Int) := by unfold compB; rw [if_pos e0, hP, e]; rfl
          rw [e0, e1, e2] at hk; exact hk
        · rw [ecan, decide_eq_false_iff_not]; exact fun h4 => h3 (ep.2 h4.2.2)
      · have h1 : s[q] = 0 := by simpa using h1
        refine ⟨fits64 (by omega) (by omega), hK2 (no ?_)⟩
        rw [ecan, decide_eq_false_iff_not]; omega
    · intro K2 hp2
      dsimp only
      rw [br_decide]
      exact ⟨fun h => absurd h (by omega), fun _ => ⟨fits64 (by omega) (by omega), hK (by rw [rowsC_succ, hp, hp2]; rfl)⟩⟩
  · intro K hp
    dsimp only
    rw [br_decide]
    refine ⟨fun h => absurd h (by omega), fun _ => ?_⟩
    have e0 : compE pr cl s = 5 := by unfold compE; rw [if_neg (by omega), hP, hp]; rfl
    have e1 : compA pr cl s = 0 := by unfold compA; rw [if_neg (by omega)]
    have e2 : compB pr cl s = 0 := by unfold compB; rw [if_neg (by omega)]
    rw [e0, e1, e2] at hk; exact hk
end Go.Abs.Farm
end

section
/- Plain laws: shares of which no farm can complain; joined farms; more and less. -/
set_option linter.unusedVariables false
namespace Go.Abs.Farm

theorem at0_nat (c : List Int) (j : Nat) : at0 c (j : Int) = c.getD j 0 := by unfold at0; rw [Int.toNat_natCast]
/-- No farm can complain. -/
structure Calm (cl s : List Int) : Prop where
  len : s.length = cl.length
  pos : ∀ i : Nat, 0 ≤ s.getD i 0
  le : ∀ i j : Nat, i < cl.length → j < cl.length → i ≠ j → 0 < s.getD j 0 → cl.getD i 0 * s.getD j 0 ≤ cl.getD j 0 * (s.getD i 0 + 1)
theorem Stable.tie {cl s : List Int} (h : Stable cl s) {i j : Nat} (hi : i < cl.length) (hj : j < cl.length) (hne : i ≠ j) (hp : 0 < s.getD j 0) :
    cl.getD i 0 * s.getD j 0 ≤ cl.getD j 0 * (s.getD i 0 + 1) ∧ (cl.getD i 0 * s.getD j 0 = cl.getD j 0 * (s.getD i 0 + 1) → j < i) := by
  have b := h.bef i j hi hj hne hp
  unfold Bef at b
  simp only [at0_nat] at b
  omega
theorem Stable.calm {cl s : List Int} (h : Stable cl s) : Calm cl s := ⟨h.len, h.pos, fun i j hi hj hne hp => (h.tie hi hj hne hp).1⟩
/-- A farm that has a coin has something. -/
theorem Calm.clean {cl s : List Int} (h : Calm cl s) (hcl : ∀ i : Nat, 0 ≤ cl.getD i 0) {q : Nat} (hq : q < cl.length) (hq0 : 0 < cl.getD q 0) {j : Nat} (hj : j < cl.length) (hp : 0 < s.getD j 0) : 0 < cl.getD j 0 := by
  refine Int.not_le.1 (fun h0 => ?_)
  have e : cl.getD j 0 = 0 := by have := hcl j; omega
  have hne : q ≠ j := fun e' => by subst e'; omega
  have h1 := h.le q j hq hj hne hp
  rw [e] at h1
  have := Int.mul_pos hq0 hp
  omega
theorem calm_near {cl s f : List Int} (hcl : ∀ i : Nat, 0 ≤ cl.getD i 0) {q : Nat} (hq : q < cl.length) (hq0 : 0 < cl.getD q 0) (hs : Calm cl s) (hf : Calm cl f) (he : sumL s = sumL f) {i : Nat} (hi : i < cl.length) : s.getD i 0 ≤ f.getD i 0 + 1 := by
  refine Int.not_lt.1 (fun hlt => ?_)
  obtain ⟨k, hk, hki, hgt⟩ := more_else (a := f) (b := s) (by rw [hs.len, hf.len]) he.symm (i := i) (by omega)
  have hk1 : k < cl.length := by rw [hf.len] at hk; exact hk
  have p1 := hs.pos k
  have p2 := hf.pos i
  have b1 := hf.le i k hi hk1 (fun e => hki e.symm) (by omega)
  have b2 := hs.le k i hk1 hi hki (by omega)
  have c1 := hf.clean hcl hq hq0 hk1 (by omega)
  have c2 := hcl i
  generalize s.getD i 0 = x at *
  generalize s.getD k 0 = y at *
  generalize f.getD i 0 = x' at *
  generalize f.getD k 0 = y' at *
  generalize cl.getD i 0 = a at *
  generalize cl.getD k 0 = b at *
  -- b (x'+2) <= b x <= a (y+1) <= a y' <= b (x'+1)
  have e1 : b * (x' + 2) ≤ b * x := Int.mul_le_mul_of_nonneg_left (by omega) (by omega)
  have e2 : a * (y + 1) ≤ a * y' := Int.mul_le_mul_of_nonneg_left (by omega) c2
  have e3 : b * (x' + 2) = b * (x' + 1) + b := by rw [Int.mul_add, Int.mul_add]; omega
  omega

/-- With more for one farm no other one has more. -/
theorem stable_others {cl cl' s s' : List Int} (hcl : ∀ i : Nat, 0 ≤ cl.getD i 0) (hcl' : ∀ i : Nat, 0 ≤ cl'.getD i 0) (hl : cl'.length = cl.length) (h1 : Stable cl s) (h2 : Stable cl' s') (hs : sumL s = sumL s') {i : Nat} (hi : i < cl.length)
    (hm : cl.getD i 0 ≤ cl'.getD i 0) (ho : ∀ k : Nat, k ≠ i → cl'.getD k 0 = cl.getD k 0) {k : Nat} (hk : k < cl.length) (hki : k ≠ i) : s'.getD k 0 ≤ s.getD k 0 := by
  refine Int.not_lt.1 (fun hlt => ?_)
  have hown := stable_more hcl hcl' hl h1 h2 hs hi hm (fun k hk => by rw [ho k hk]; exact Int.le_refl _)
  obtain ⟨j, hj, hjk, hgt⟩ := more_else (a := s) (b := s') (by rw [h1.len, h2.len, hl]) hs (i := k) hlt
  have hj1 : j < cl.length := by rw [h1.len] at hj; exact hj
  have hji : j ≠ i := fun e => by subst e; omega
  have p1 := h1.pos k
  have p2 := h2.pos j
  obtain ⟨b1, t1⟩ := h1.tie (i := k) (j := j) hk hj1 (fun e => hjk e.symm) (by omega)
  obtain ⟨b2, t2⟩ := h2.tie (i := j) (j := k) (by omega) (by omega) hjk (by omega)
  rw [ho k hki, ho j hji] at b2 t2
  have c1 := hcl k
  have c2 := hcl j
  generalize s.getD k 0 = x at *
  generalize s.getD j 0 = y at *
  generalize s'.getD k 0 = x' at *
  generalize s'.getD j 0 = y' at *
  generalize cl.getD k 0 = a at *
  generalize cl.getD j 0 = b at *
  have e1 : b * (x + 1) ≤ b * x' := Int.mul_le_mul_of_nonneg_left (by omega) c2
  have e2 : a * (y' + 1) ≤ a * y := Int.mul_le_mul_of_nonneg_left (by omega) c1
  have := t1 (by omega)
  have := t2 (by omega)
  omega
/-- Farms with as much; farms with more. -/
theorem stable_alike {cl s : List Int} (hcl : ∀ i : Nat, 0 ≤ cl.getD i 0) {q : Nat} (hq : q < cl.length) (hq0 : 0 < cl.getD q 0) (h : Stable cl s) {i k : Nat} (hik : i < k) (hk : k < cl.length) (he : cl.getD i 0 = cl.getD k 0) : s.getD k 0 ≤ s.getD i 0 ∧ s.getD i 0 ≤ s.getD k 0 + 1 := by
  have p1 := h.pos k
  have p2 := h.pos i
  refine ⟨Int.not_lt.1 (fun hlt => ?_), Int.not_lt.1 (fun hlt => ?_)⟩
  · obtain ⟨b, t⟩ := h.tie (i := i) (j := k) (by omega) hk (by omega) (by omega)
    have c := h.calm.clean hcl hq hq0 hk (by omega)
    rw [he] at b t
    generalize s.getD k 0 = y at *
    generalize s.getD i 0 = x at *
    generalize cl.getD k 0 = a at *
    have e1 : a * (x + 1) ≤ a * y := Int.mul_le_mul_of_nonneg_left (by omega) (by omega)
    have := t (by omega)
    omega
  · obtain ⟨b, t⟩ := h.tie (i := k) (j := i) hk (by omega) (by omega) (by omega)
    have c := h.calm.clean hcl hq hq0 (show i < cl.length by omega) (by omega)
    rw [he] at b c
    generalize s.getD k 0 = y at *
    generalize s.getD i 0 = x at *
    generalize cl.getD k 0 = a at *
    have e1 : a * (y + 2) ≤ a * x := Int.mul_le_mul_of_nonneg_left (by omega) (by omega)
    have e3 : a * (y + 2) = a * (y + 1) + a := by rw [Int.mul_add, Int.mul_add]; omega
    omega
theorem calm_greater {cl s : List Int} (hcl : ∀ i : Nat, 0 ≤ cl.getD i 0) (h : Calm cl s) {i k : Nat} (hi : i < cl.length) (hk : k < cl.length) (he : cl.getD k 0 < cl.getD i 0) : s.getD k 0 ≤ s.getD i 0 := by
  refine Int.not_lt.1 (fun hlt => ?_)
  have p1 := h.pos i
  have b := h.le i k hi hk (fun e => by subst e; omega) (by omega)
  have c := hcl k
  generalize s.getD k 0 = y at *
  generalize s.getD i 0 = x at *
  generalize cl.getD k 0 = a at *
  generalize cl.getD i 0 = a' at *
  have e1 : a * (x + 1) ≤ a * y := Int.mul_le_mul_of_nonneg_left (by omega) c
  have e2 : a * y < a' * y := Int.mul_lt_mul_of_pos_right he (by omega)
  omega

/-! ### sums over farms -/
theorem getD_set {l : List Int} {i j : Nat} {v : Int} (hi : i < l.length) : (l.set i v).getD j 0 = if j = i then v else l.getD j 0 := by
  rw [List.getD_eq_getElem?_getD, List.getElem?_set]
  by_cases e : i = j
  · subst e; rw [if_pos rfl, if_pos hi, if_pos rfl]; rfl
  · rw [if_neg e, if_neg (fun e' => e e'.symm), List.getD_eq_getElem?_getD]
theorem sum_range : ∀ (l : List Int), sumL l = ((List.range l.length).map (fun i => l.getD i 0)).foldl (fun n x => n + x) 0 := by
  intro l
  have : (List.range l.length).map (fun i => l.getD i 0) = l := by
    apply List.ext_getElem
    · simp
    · intro i h1 h2
      simp only [List.getElem_map, List.getElem_range]
      rw [List.getD_eq_getElem?_getD, List.getElem?_eq_getElem h2]; rfl
  rw [this]; rfl
/-- Sums of lists, term by term: a x <= b y for all but one place. -/
theorem sum_lin (a b : Int) : ∀ (l m : List Int), l.length = m.length → (∀ i : Nat, i < l.length → a * l.getD i 0 ≤ b * m.getD i 0) → a * sumL l ≤ b * sumL m
  | [], [], _, _ => by simp [sumL]
  | x :: l, y :: m, hl, h => by
    have h0 := h 0 (by simp)
    have := sum_lin a b l m (by simpa using hl) (fun i hi => by have := h (i + 1) (by simpa using hi); simpa using this)
    simp only [sum_cons, List.getD_cons_zero] at *
    rw [Int.mul_add, Int.mul_add]; omega
/-- A fair share is at least the quota, rounded down. -/
theorem calm_quota {cl s : List Int} (hcl : ∀ i : Nat, 0 ≤ cl.getD i 0) (h : Calm cl s) (hT : 0 < sumL cl) {i : Nat} (hi : i < cl.length) : cl.getD i 0 * sumL s < (s.getD i 0 + 1) * sumL cl := by
  have p := h.pos i
  have hb : cl.getD i 0 * sumL (s.set i 0) ≤ (s.getD i 0 + 1) * sumL (cl.set i 0) := by
    refine sum_lin _ _ _ _ (by simp [h.len]) (fun j hj => ?_)
    have hj' : j < cl.length := by rw [List.length_set, h.len] at hj; exact hj
    by_cases e : i = j
    · subst e
      rw [getD_set (by rw [h.len]; exact hi), getD_set hi, if_pos rfl]
      simp
    · have e1 : (s.set i 0).getD j 0 = s.getD j 0 := by rw [getD_set (by rw [h.len]; exact hi), if_neg (fun e' => e e'.symm)]
      have e2 : (cl.set i 0).getD j 0 = cl.getD j 0 := by rw [getD_set hi, if_neg (fun e' => e e'.symm)]
      rw [e1, e2]
      have pj := h.pos j
      rcases Int.lt_or_eq_of_le pj with h1 | h1
      · have := h.le i j hi hj' e h1
        rw [Int.mul_comm (s.getD i 0 + 1)]; exact this
      · rw [← h1]
        have := Int.mul_nonneg (show 0 ≤ s.getD i 0 + 1 by omega) (hcl j)
        omega
  rw [sum_set _ _ _ (by rw [h.len]; exact hi), sum_set _ _ _ hi] at hb
  have c := hcl i
  generalize s.getD i 0 = x at *
  generalize cl.getD i 0 = a at *
  have e1 : a * (sumL s - x + 0) = a * sumL s - a * x := by rw [Int.add_zero, Int.mul_sub]
  have e2 : (x + 1) * (sumL cl - a + 0) = (x + 1) * sumL cl - (x + 1) * a := by rw [Int.add_zero, Int.mul_sub]
  have e3 : (x + 1) * a = a * x + a := by rw [Int.mul_comm, Int.mul_add, Int.mul_one]
  rw [e1, e2, e3] at hb
  rcases Int.lt_or_eq_of_le c with h1 | h1
  · omega
  · rw [← h1] at *
    have := Int.mul_pos (show 0 < x + 1 by omega) hT
    omega

/-! ### joined farms -/
theorem getD_erase {l : List Int} {k j : Nat} : (l.eraseIdx k).getD j 0 = l.getD (if j < k then j else j + 1) 0 := by
  rw [List.getD_eq_getElem?_getD, List.getElem?_eraseIdx, List.getD_eq_getElem?_getD]
  split <;> rfl
theorem sum_erase : ∀ (l : List Int) (k : Nat), k < l.length → sumL (l.eraseIdx k) = sumL l - l.getD k 0
  | x :: l, 0, _ => by simp only [List.eraseIdx_cons_zero, sum_cons, List.getD_cons_zero]; omega
  | x :: l, k + 1, h => by
    simp only [List.eraseIdx_cons_succ, sum_cons, List.getD_cons_succ]
    rw [sum_erase l k (by simpa using h)]; omega
/-- Two farms as one, at the place of the first. -/
def joined (l : List Int) (i k : Nat) : List Int := (l.set i (l.getD i 0 + l.getD k 0)).eraseIdx k
def outK (k j : Nat) : Nat := if j < k then j else j + 1
theorem joined_len {l : List Int} {i k : Nat} (hk : k < l.length) : (joined l i k).length = l.length - 1 := by
  unfold joined; rw [List.length_eraseIdx, List.length_set, if_pos hk]
theorem joined_get {l : List Int} {i k : Nat} (hik : i < k) (hk : k < l.length) (j : Nat) : (joined l i k).getD j 0 = if j = i then l.getD i 0 + l.getD k 0 else l.getD (outK k j) 0 := by
  unfold joined
  rw [getD_erase, getD_set (by omega)]
  unfold outK
  by_cases e : j = i
  · subst e; rw [if_pos hik, if_pos rfl]
  · rw [if_neg e]
    by_cases h : j < k
    · rw [if_pos h, if_neg e]
    · rw [if_neg h, if_neg (by omega)]
theorem joined_sum {l : List Int} {i k : Nat} (hik : i < k) (hk : k < l.length) : sumL (joined l i k) = sumL l := by
  unfold joined
  rw [sum_erase _ _ (by simpa using hk), sum_set _ _ _ (by omega), getD_set (by omega), if_neg (by omega)]
  omega
theorem outK_lt {k j n : Nat} (hk : k < n) (hj : j < n - 1) : outK k j < n ∧ outK k j ≠ k := by unfold outK; split <;> omega
/-- The fair share of joined farms, and of the others. -/
theorem stable_joined {cl f g : List Int} (hcl : ∀ i : Nat, 0 ≤ cl.getD i 0) {i k : Nat} (hik : i < k) (hk : k < cl.length) (h1 : Stable cl f) (h2 : Stable (joined cl i k) g) (hs : sumL g = sumL f) {q : Nat} (hq : q < cl.length) (hq0 : 0 < cl.getD q 0) :
    (f.getD i 0 + f.getD k 0 ≤ g.getD i 0 ∧ g.getD i 0 ≤ f.getD i 0 + f.getD k 0 + 1) ∧ ∀ j : Nat, j < cl.length - 1 → j ≠ i → g.getD j 0 ≤ f.getD (outK k j) 0 := by
  have hkf : k < f.length := by rw [h1.len]; exact hk
  have hlj := joined_len (l := cl) (i := i) hk
  have hlf := joined_len (l := f) (i := i) hkf
  have hgl : g.length = cl.length - 1 := by rw [h2.len, hlj]
  have hsum : sumL (joined f i k) = sumL g := by rw [joined_sum hik hkf, hs]
  have hgc := fun j => joined_get (l := cl) hik hk j
  have hgf := fun j => joined_get (l := f) hik hkf j
  have fi := h1.pos i
  have fk := h1.pos k
  have ci := hcl i
  have ck := hcl k
  -- what both had together against another one
  have low : ∀ j : Nat, j < cl.length - 1 → j ≠ i → f.getD (outK k j) 0 < g.getD j 0 → f.getD i 0 + f.getD k 0 ≤ g.getD i 0 := by
    intro j hj hji hlt
    refine Int.not_lt.1 (fun hl => ?_)
    obtain ⟨oj, ok⟩ := outK_lt hk hj
    have oi : outK k j ≠ i := by unfold outK; split <;> omega
    have pj := h1.pos (outK k j)
    have gi := h2.pos i
    obtain ⟨b1, t1⟩ := h2.tie (i := i) (j := j) (by omega) (by omega) (fun e => hji e.symm) (by omega)
    rw [hgc i, if_pos rfl, hgc j, if_neg hji] at b1 t1
    have cj := hcl (outK k j)
    have a1 : cl.getD (outK k j) 0 * f.getD i 0 ≤ cl.getD i 0 * (f.getD (outK k j) 0 + 1) ∧ (0 < f.getD i 0 → cl.getD (outK k j) 0 * f.getD i 0 = cl.getD i 0 * (f.getD (outK k j) 0 + 1) → i < outK k j) := by
      rcases Int.lt_or_eq_of_le fi with h | h
      · have := h1.tie (i := outK k j) (j := i) oj (by omega) oi h
        exact ⟨this.1, fun _ => this.2⟩
      · rw [← h]
        have := Int.mul_nonneg ci (show 0 ≤ f.getD (outK k j) 0 + 1 by omega)
        exact ⟨by omega, fun h => by omega⟩
    have a2 : cl.getD (outK k j) 0 * f.getD k 0 ≤ cl.getD k 0 * (f.getD (outK k j) 0 + 1) ∧ (0 < f.getD k 0 → cl.getD (outK k j) 0 * f.getD k 0 = cl.getD k 0 * (f.getD (outK k j) 0 + 1) → k < outK k j) := by
      rcases Int.lt_or_eq_of_le fk with h | h
      · have := h1.tie (i := outK k j) (j := k) oj (by omega) ok h
        exact ⟨this.1, fun _ => this.2⟩
      · rw [← h]
        have := Int.mul_nonneg ck (show 0 ≤ f.getD (outK k j) 0 + 1 by omega)
        exact ⟨by omega, fun h => by omega⟩
    have ho : ∀ x, outK k j = x → (j < k → x = j) ∧ (k ≤ j → x = j + 1) := fun x e => by rw [← e]; unfold outK; split <;> omega
    have ho := ho _ rfl
    generalize outK k j = J at *
    generalize f.getD i 0 = x at *
    generalize f.getD k 0 = y at *
    generalize f.getD J 0 = z at *
    generalize g.getD i 0 = u at *
    generalize g.getD j 0 = v at *
    generalize cl.getD i 0 = a at *
    generalize cl.getD k 0 = b at *
    generalize cl.getD J 0 = c at *
    -- c (x + y) <= (a + b) (z + 1) <= (a + b) v <= c (u + 1) <= c (x + y)
    have e1 : (a + b) * (z + 1) ≤ (a + b) * v := Int.mul_le_mul_of_nonneg_left (by omega) (by omega)
    have e2 : c * (u + 1) ≤ c * (x + y) := Int.mul_le_mul_of_nonneg_left (by omega) cj
    have e3 : (a + b) * (z + 1) = a * (z + 1) + b * (z + 1) := Int.add_mul ..
    have e4 : c * (x + y) = c * x + c * y := Int.mul_add ..
    have s1 := t1 (by omega)
    by_cases hx : 0 < x
    · have s2 := a1.2 hx (by omega)
      omega
    · have s2 := a2.2 (by omega) (by omega)
      omega
  have high : ∀ j : Nat, j < cl.length - 1 → j ≠ i → g.getD j 0 < f.getD (outK k j) 0 → g.getD i 0 ≤ f.getD i 0 + f.getD k 0 + 1 := by
    intro j hj hji hlt
    refine Int.not_lt.1 (fun hl => ?_)
    obtain ⟨oj, ok⟩ := outK_lt hk hj
    have oi : outK k j ≠ i := by unfold outK; split <;> omega
    have gj := h2.pos j
    obtain ⟨b1, t1⟩ := h2.tie (i := j) (j := i) (by omega) (by omega) hji (by omega)
    rw [hgc i, if_pos rfl, hgc j, if_neg hji] at b1 t1
    have cj := hcl (outK k j)
    obtain ⟨a1, s1⟩ := h1.tie (i := i) (j := outK k j) (by omega) oj (fun e => oi e.symm) (by omega)
    obtain ⟨a2, s2⟩ := h1.tie (i := k) (j := outK k j) (by omega) oj (fun e => ok e.symm) (by omega)
    have ho : ∀ x, outK k j = x → (j < k → x = j) ∧ (k ≤ j → x = j + 1) := fun x e => by rw [← e]; unfold outK; split <;> omega
    have ho := ho _ rfl
    generalize outK k j = J at *
    generalize f.getD i 0 = x at *
    generalize f.getD k 0 = y at *
    generalize f.getD J 0 = z at *
    generalize g.getD i 0 = u at *
    generalize g.getD j 0 = v at *
    generalize cl.getD i 0 = a at *
    generalize cl.getD k 0 = b at *
    generalize cl.getD J 0 = c at *
    -- (a + b) z <= c (x + y + 2) <= c u <= (a + b) (v + 1) <= (a + b) z
    have e1 : (a + b) * (v + 1) ≤ (a + b) * z := Int.mul_le_mul_of_nonneg_left (by omega) (by omega)
    have e2 : c * ((x + 1) + (y + 1)) ≤ c * u := Int.mul_le_mul_of_nonneg_left (by omega) cj
    have e3 : (a + b) * z = a * z + b * z := Int.add_mul ..
    have e4 : c * ((x + 1) + (y + 1)) = c * (x + 1) + c * (y + 1) := Int.mul_add ..
    have q1 := t1 (by omega)
    have q2 := s1 (by omega)
    omega
  have A : f.getD i 0 + f.getD k 0 ≤ g.getD i 0 := by
    refine Int.not_lt.1 (fun hl => ?_)
    obtain ⟨j, hj, hji, hgt⟩ := more_else (a := g) (b := joined f i k) (by rw [hgl, hlf, h1.len]) hsum.symm (i := i) (by rw [hgf, if_pos rfl]; exact hl)
    rw [hgf, if_neg hji] at hgt
    have := low j (by omega) hji hgt
    omega
  refine ⟨⟨A, ?_⟩, ?_⟩
  · refine Int.not_lt.1 (fun hl => ?_)
    obtain ⟨j, hj, hji, hgt⟩ := more_else (a := joined f i k) (b := g) (by rw [hgl, hlf, h1.len]) hsum (i := i) (by rw [hgf, if_pos rfl]; omega)
    rw [hgf, if_neg hji] at hgt
    have := high j (by rw [hlf, h1.len] at hj; exact hj) hji hgt
    omega
  · intro j hj hji
    refine Int.not_lt.1 (fun hlt => ?_)
    obtain ⟨m, hm, hmj, hgt⟩ := more_else (a := joined f i k) (b := g) (by rw [hgl, hlf, h1.len]) hsum (i := j) (by rw [hgf, if_neg hji]; exact hlt)
    have hm' : m < cl.length - 1 := by rw [hlf, h1.len] at hm; exact hm
    have hmi : m ≠ i := fun e => by subst e; rw [hgf, if_pos rfl] at hgt; omega
    rw [hgf, if_neg hmi] at hgt
    obtain ⟨oj, _⟩ := outK_lt hk hj
    obtain ⟨om, _⟩ := outK_lt hk hm'
    have gm := h2.pos m
    have pj := h1.pos (outK k j)
    have hne : outK k j ≠ outK k m := by unfold outK; split <;> split <;> omega
    have hmono : outK k m < outK k j → m < j := by unfold outK; split <;> split <;> omega
    obtain ⟨b1, t1⟩ := h1.tie (i := outK k j) (j := outK k m) oj om hne (by omega)
    obtain ⟨b2, t2⟩ := h2.tie (i := m) (j := j) (by omega) (by omega) hmj (by omega)
    rw [hgc m, if_neg hmi, hgc j, if_neg hji] at b2 t2
    have c1 := hcl (outK k j)
    have c2 := hcl (outK k m)
    generalize outK k j = J at *
    generalize outK k m = M at *
    generalize f.getD J 0 = x at *
    generalize f.getD M 0 = y at *
    generalize g.getD j 0 = x' at *
    generalize g.getD m 0 = y' at *
    generalize cl.getD J 0 = a at *
    generalize cl.getD M 0 = b at *
    have e1 : b * (x + 1) ≤ b * x' := Int.mul_le_mul_of_nonneg_left (by omega) c2
    have e2 : a * (y' + 1) ≤ a * y := Int.mul_le_mul_of_nonneg_left (by omega) c1
    have s1 := t1 (by omega)
    have s2 := t2 (by omega)
    have := hmono s1
    omega
end Go.Abs.Farm
end

section
/- What the farm's functions compute: divisors, near shares, spans. -/
namespace Go.Abs.Farm
/-! near shares -/
def fls0 (pr : Int) (cl : List Int) : List Int := cl.map (fun c => c * pr / sumL cl)
def offs0 (pr : Int) (cl : List Int) : List Int := cl.map (fun c => c * pr % sumL cl)
def leftN (pr : Int) (cl : List Int) : Int := pr - sumL (fls0 pr cl)
def bestStep (off : List Int) (b i : Nat) : Nat := if off.getD i 0 > off.getD b 0 then i else b
def bestIx (off : List Int) : Nat := (List.range off.length).foldl (bestStep off) 0
def nearUp (pr : Int) (cl : List Int) : Nat → List Int × List Int
  | 0 => (fls0 pr cl, offs0 pr cl)
  | n + 1 => ((nearUp pr cl n).1.set (bestIx (nearUp pr cl n).2) ((nearUp pr cl n).1.getD (bestIx (nearUp pr cl n).2) 0 + 1), (nearUp pr cl n).2.set (bestIx (nearUp pr cl n).2) (-1))
def nearOf (pr : Int) (cl : List Int) : List Int := (nearUp pr cl (leftN pr cl).toNat).1
def nearL (pr : Int) (cl : List Int) : List Int := if yearErr pr cl = 0 then nearOf pr cl else []
/-- How two farms stand by what is left of them. -/
def cmpR (pr : Int) (cl : List Int) (a b : Int) : Int := at0 cl b * pr % sumL cl - at0 cl a * pr % sumL cl
def insR (pr : Int) (cl : List Int) (x : Int) : List Int → List Int
  | [] => [x]
  | p :: R => if cmpR pr cl x p < 0 then p :: insR pr cl x R else x :: p :: R
def isort (pr : Int) (cl l : List Int) : List Int := (l.foldl (fun R x => insR pr cl x R) []).reverse
/-! divisors -/
def bestC (p : Int × Int → Int × Int → Bool) : List (Int × Int) → Int × Int
  | [] => (0, 0)
  | a :: l => l.foldl (fun b x => if p x b then x else b) a
def gtC (cl : List Int) (a b : Int × Int) : Bool := decide (moreC cl a b > 0)
def ltC (cl : List Int) (a b : Int × Int) : Bool := decide (moreC cl a b < 0)
def gt1 (cl : List Int) (l : List (Int × Int)) : Int := (bestC (gtC cl) l).1
def gt2 (cl : List Int) (l : List (Int × Int)) : Int := (bestC (gtC cl) l).2
def lt1 (cl : List Int) (l : List (Int × Int)) : Int := (bestC (ltC cl) l).1
def lt2 (cl : List Int) (l : List (Int × Int)) : Int := (bestC (ltC cl) l).2
def hiStep (cl s : List Int) (b : Option Nat) (i : Nat) : Option Nat :=
  if 0 < s.getD i 0 then (match b with | none => some i | some b => if cl.getD i 0 * s.getD b 0 < cl.getD b 0 * s.getD i 0 then some i else some b) else b
def hiUp (cl s : List Int) (n : Nat) : Option Nat := (List.range n).foldl (hiStep cl s) none
def loIx (cl s : List Int) : Nat := nextOf cl s
def divBad (cl s : List Int) : Bool :=
  match hiUp cl s s.length with
  | none => false
  | some u => decide (cl.getD u 0 * (s.getD (loIx cl s) 0 + 1) ≤ cl.getD (loIx cl s) 0 * s.getD u 0)
def divE (pr : Int) (cl s : List Int) : Int := if fairE pr cl s ≠ 0 then fairE pr cl s else if divBad cl s then 24 else 0
def divLN (pr : Int) (cl s : List Int) : Int := if divE pr cl s = 0 then byN (cl.getD (loIx cl s) 0) (s.getD (loIx cl s) 0 + 1) else 0
def divLD (pr : Int) (cl s : List Int) : Int := if divE pr cl s = 0 then byD (cl.getD (loIx cl s) 0) (s.getD (loIx cl s) 0 + 1) else 0
def hiN (cl s : List Int) : Option Nat → Int | none => 0 | some u => byN (cl.getD u 0) (s.getD u 0)
def hiD (cl s : List Int) : Option Nat → Int | none => 1 | some u => byD (cl.getD u 0) (s.getD u 0)
def divHN (pr : Int) (cl s : List Int) : Int := if divE pr cl s = 0 then hiN cl s (hiUp cl s s.length) else 0
def divHD (pr : Int) (cl s : List Int) : Int := if divE pr cl s = 0 then hiD cl s (hiUp cl s s.length) else 0
/-! spans -/
def truthAt (rs : List (Int × Int)) (f : Int) (least : Bool) (i : Nat) : Int := if decide ((i : Int) = f) == least then (rs.getD i (0, 0)).1 else (rs.getD i (0, 0)).2
def truthOf (rs : List (Int × Int)) (f : Int) (least : Bool) : List Int := (List.range rs.length).map (truthAt rs f least)
def spanE (pr : Int) (rs : List (Int × Int)) (f : Int) : Int := if roughErr pr rs ≠ 0 then roughErr pr rs else if f < 0 ∨ (rs.length : Int) ≤ f then 2 else 0
def spanLo (pr : Int) (rs : List (Int × Int)) (f : Int) : Int := if spanE pr rs f = 0 then at0 (fairOf pr (truthOf rs f true)) f else 0
def spanHi (pr : Int) (rs : List (Int × Int)) (f : Int) : Int := if spanE pr rs f = 0 then at0 (fairOf pr (truthOf rs f false)) f else 0
/-! given shares, given truths -/
def moveOne (s : List Int) (a b : Nat) : List Int :=
  if 0 < s.getD a 0 then (s.set a (s.getD a 0 - 1)).set b ((s.set a (s.getD a 0 - 1)).getD b 0 + 1) else s
def givenFrom (s : List Int) : List Int → List Int
  | a :: b :: l => givenFrom (moveOne s (a % (s.length : Int)).toNat (b % (s.length : Int)).toNat) l
  | _ => s
def given (pr : Int) (cl by8 : List Int) : List Int := givenFrom (fairOf pr cl) by8
def trueAt (rs : List (Int × Int)) (by8 : List Int) (i : Nat) : Int :=
  (rs.getD i (0, 0)).1 + (if by8 = [] then 0 else by8.getD (i % by8.length) 0) % ((rs.getD i (0, 0)).2 - (rs.getD i (0, 0)).1 + 1)
def trueOf (rs : List (Int × Int)) (by8 : List Int) : List Int := (List.range rs.length).map (trueAt rs by8)
end Go.Abs.Farm
end

section
/- Plain laws: near shares. -/
set_option linter.unusedVariables false
namespace Go.Abs.Farm

/-- A farm of which more is left comes first, then the first one. -/
def BefR (r : Nat → Int) (i j : Nat) : Prop := r j < r i ∨ r j = r i ∧ i < j
instance (r : Nat → Int) (i j : Nat) : Decidable (BefR r i j) := by unfold BefR; infer_instance
def remAt (pr : Int) (cl : List Int) (i : Nat) : Int := cl.getD i 0 * pr % sumL cl
def flAt (pr : Int) (cl : List Int) (i : Nat) : Int := cl.getD i 0 * pr / sumL cl
theorem befR_total {r : Nat → Int} {i j : Nat} (h : i ≠ j) : BefR r i j ∨ BefR r j i := by unfold BefR; omega
theorem befR_irr (r : Nat → Int) (i : Nat) : ¬ BefR r i i := by unfold BefR; omega
theorem befR_tr {r : Nat → Int} {i j k : Nat} (h : BefR r i j) (h' : BefR r j k) : BefR r i k := by unfold BefR at *; omega

/-- The first best one. -/
theorem best_spec {off : List Int} : ∀ n, (∀ b, b = (List.range n).foldl (bestStep off) 0 → (0 < n → b < n) ∧ (n = 0 → b = 0) ∧ ∀ j, j < n → j ≠ b → BefR (fun i => off.getD i 0) b j) := by
  intro n
  induction n with
  | zero => rintro b rfl; exact ⟨fun h => absurd h (Nat.not_lt_zero _), fun _ => rfl, fun j hj => absurd hj (Nat.not_lt_zero _)⟩
  | succ n ih =>
    rintro b' rfl
    rw [List.range_succ, List.foldl_append, List.foldl_cons, List.foldl_nil]
    obtain ⟨h1, h0, h2⟩ := ih _ rfl
    generalize (List.range n).foldl (bestStep off) 0 = b at h1 h0 h2 ⊢
    unfold bestStep
    by_cases hc : off.getD n 0 > off.getD b 0
    · rw [if_pos hc]
      refine ⟨fun _ => Nat.lt_succ_self _, fun h => by omega, fun j hj hne => ?_⟩
      by_cases hjb : j = b
      · subst hjb; exact .inl hc
      · exact befR_tr (show BefR (fun i => off.getD i 0) n b from .inl hc) (h2 j (by omega) hjb)
    · rw [if_neg hc]
      refine ⟨fun _ => ?_, fun h => by omega, fun j hj hne => ?_⟩
      · rcases Nat.eq_zero_or_pos n with h | h
        · have := h0 h; omega
        · have := h1 h; omega
      · rcases Nat.lt_or_ge j n with h | h
        · exact h2 j h hne
        · obtain rfl : j = n := by omega
          have hbn : b < j := by
            rcases Nat.eq_zero_or_pos j with h' | h'
            · have := h0 h'; omega
            · exact h1 h'
          show off.getD j 0 < off.getD b 0 ∨ off.getD j 0 = off.getD b 0 ∧ b < j
          omega
theorem bestIx_spec {off : List Int} (h : 0 < off.length) : bestIx off < off.length ∧ ∀ j, j < off.length → j ≠ bestIx off → BefR (fun i => off.getD i 0) (bestIx off) j := by
  obtain ⟨h1, _, h2⟩ := best_spec (off := off) off.length _ rfl
  exact ⟨h1 h, h2⟩
theorem nearUp_len (pr : Int) (cl : List Int) : ∀ n, (nearUp pr cl n).1.length = cl.length ∧ (nearUp pr cl n).2.length = cl.length
  | 0 => by simp [nearUp, fls0, offs0]
  | n + 1 => by have := nearUp_len pr cl n; simp [nearUp, this.1, this.2]
theorem getD_map0 (f : Int → Int) (l : List Int) (i : Nat) (hi : i < l.length) : (l.map f).getD i 0 = f (l.getD i 0) := by
  rw [List.getD_eq_getElem?_getD, List.getElem?_map, List.getElem?_eq_getElem hi, List.getD_eq_getElem?_getD, List.getElem?_eq_getElem hi]; rfl
theorem fls_get {pr : Int} {cl : List Int} {i : Nat} (hi : i < cl.length) : (fls0 pr cl).getD i 0 = flAt pr cl i := getD_map0 _ cl i hi
theorem offs_get {pr : Int} {cl : List Int} {i : Nat} (hi : i < cl.length) : (offs0 pr cl).getD i 0 = remAt pr cl i := getD_map0 _ cl i hi
/-- Place by place, an order of the farms by what is left of them says who gets a coin more. -/
theorem near_spec {pr : Int} {cl : List Int} (hT : 0 < sumL cl) {S : List Nat} (hp : S.Perm (List.range cl.length)) (hs : S.Pairwise (BefR (remAt pr cl))) :
    ∀ n : Nat, n ≤ cl.length → (∀ i, i < cl.length → (nearUp pr cl n).1.getD i 0 = flAt pr cl i + (if i ∈ S.take n then 1 else 0) ∧ (nearUp pr cl n).2.getD i 0 = (if i ∈ S.take n then -1 else remAt pr cl i)) ∧
      ∀ h : n < S.length, S[n] = bestIx (nearUp pr cl n).2 := by
  have hlen : S.length = cl.length := by rw [hp.length_eq, List.length_range]
  have hmem : ∀ i, i ∈ S ↔ i < cl.length := fun i => by rw [hp.mem_iff, List.mem_range]
  have hpw := List.pairwise_iff_getElem.1 hs
  have hr : ∀ i, 0 ≤ remAt pr cl i := fun i => Int.emod_nonneg _ (by omega)
  have second : ∀ n : Nat, (∀ i, i < cl.length → (nearUp pr cl n).2.getD i 0 = (if i ∈ S.take n then -1 else remAt pr cl i)) → ∀ h : n < S.length, S[n] = bestIx (nearUp pr cl n).2 := by
    intro n hT h
    obtain ⟨hl1, hl2⟩ := nearUp_len pr cl n
    obtain ⟨hb, hbest⟩ := bestIx_spec (off := (nearUp pr cl n).2) (by omega)
    generalize bestIx (nearUp pr cl n).2 = b at hb hbest ⊢
    rw [hl2] at hb hbest
    have hn1 : S[n] < cl.length := (hmem _).1 (List.getElem_mem h)
    have hn2 : ¬ S[n] ∈ S.take n := by
      intro hm
      obtain ⟨i, hi, e⟩ := List.mem_take_iff_getElem.1 hm
      have := hpw i n (by omega) h (by omega)
      rw [e] at this
      exact befR_irr _ _ this
    rcases Classical.em (S[n] = b) with e | e
    · exact e
    exfalso
    have h1 := hbest _ hn1 e
    unfold BefR at h1
    simp only [] at h1
    rw [hT _ hn1, hT _ hb, if_neg hn2] at h1
    have r1 := hr S[n]
    by_cases hbt : b ∈ S.take n
    · rw [if_pos hbt] at h1; omega
    · rw [if_neg hbt] at h1
      obtain ⟨j, hj, ej⟩ := List.getElem_of_mem ((hmem b).2 hb)
      have hjn : n ≤ j := by
        rcases Nat.lt_or_ge j n with h' | h'
        · exact absurd (List.mem_take_iff_getElem.2 ⟨j, by omega, ej⟩) hbt
        · exact h'
      have hjne : j ≠ n := fun e' => by subst e'; exact e ej
      have h2 := hpw n j h hj (by omega)
      rw [ej] at h2
      unfold BefR at h2
      omega
  intro n
  induction n with
  | zero =>
    intro _
    have h1 : ∀ i, i < cl.length → (nearUp pr cl 0).1.getD i 0 = flAt pr cl i + (if i ∈ S.take 0 then 1 else 0) ∧ (nearUp pr cl 0).2.getD i 0 = (if i ∈ S.take 0 then -1 else remAt pr cl i) := fun i hi => by
      have e1 : (nearUp pr cl 0).1.getD i 0 = flAt pr cl i := fls_get hi
      have e2 : (nearUp pr cl 0).2.getD i 0 = remAt pr cl i := offs_get hi
      rw [e1, e2]; simp
    exact ⟨h1, second 0 (fun i hi => (h1 i hi).2)⟩
  | succ n ih =>
    intro hn
    obtain ⟨h1, h2⟩ := ih (by omega)
    have hnl : n < S.length := by omega
    have e := h2 hnl
    obtain ⟨hl1, hl2⟩ := nearUp_len pr cl n
    obtain ⟨hb, _⟩ := bestIx_spec (off := (nearUp pr cl n).2) (by omega)
    rw [hl2] at hb
    have hnt : ¬ bestIx (nearUp pr cl n).2 ∈ S.take n := by
      rw [← e]
      intro hm
      obtain ⟨i, hi, e⟩ := List.mem_take_iff_getElem.1 hm
      have := hpw i n (by omega) hnl (by omega)
      rw [e] at this
      exact befR_irr _ _ this
    have h3 : ∀ i, i < cl.length → (nearUp pr cl (n + 1)).1.getD i 0 = flAt pr cl i + (if i ∈ S.take (n + 1) then 1 else 0) ∧ (nearUp pr cl (n + 1)).2.getD i 0 = (if i ∈ S.take (n + 1) then -1 else remAt pr cl i) := fun i hi => by
      have g1 : (nearUp pr cl (n + 1)).1.getD i 0 = if i = bestIx (nearUp pr cl n).2 then (nearUp pr cl n).1.getD i 0 + 1 else (nearUp pr cl n).1.getD i 0 := by
        show ((nearUp pr cl n).1.set _ _).getD i 0 = _
        rw [getD_set (by rw [hl1]; exact hb)]
        split
        · rename_i e'; rw [e']
        · rfl
      have g2 : (nearUp pr cl (n + 1)).2.getD i 0 = if i = bestIx (nearUp pr cl n).2 then -1 else (nearUp pr cl n).2.getD i 0 := by
        show ((nearUp pr cl n).2.set _ _).getD i 0 = _
        rw [getD_set (by rw [hl2]; exact hb)]
      have g3 : i ∈ S.take (n + 1) ↔ i ∈ S.take n ∨ i = bestIx (nearUp pr cl n).2 := by
        rw [List.take_succ_eq_append_getElem hnl, List.mem_append, List.mem_singleton, e]
      obtain ⟨k1, k2⟩ := h1 i hi
      rw [g1, g2]
      by_cases ei : i = bestIx (nearUp pr cl n).2
      · rw [if_pos ei, if_pos ei, if_pos (g3.2 (.inr ei)), if_pos (g3.2 (.inr ei)), k1, if_neg (by rw [ei]; exact hnt)]
        exact ⟨by omega, rfl⟩
      · rw [if_neg ei, if_neg ei, k1, k2]
        by_cases et : i ∈ S.take n
        · rw [if_pos et, if_pos et, if_pos (g3.2 (.inl et)), if_pos (g3.2 (.inl et))]; exact ⟨rfl, rfl⟩
        · have : ¬ i ∈ S.take (n + 1) := fun h => (g3.1 h).elim et ei
          rw [if_neg et, if_neg et, if_neg this, if_neg this]; exact ⟨rfl, rfl⟩
    exact ⟨h3, second (n + 1) (fun i hi => (h3 i hi).2)⟩
/-- There is such an order. -/
theorem order_ex (r : Nat → Int) (n : Nat) : ∃ S : List Nat, S.Perm (List.range n) ∧ S.Pairwise (BefR r) := by
  let q : Nat → Nat → Bool := fun i j => decide (i = j ∨ BefR r i j)
  refine ⟨(List.range n).mergeSort q, List.mergeSort_perm _ _, ?_⟩
  have h1 := List.pairwise_mergeSort (le := q) (fun a b c h1 h2 => by
    simp only [q, decide_eq_true_eq] at *
    rcases h1 with rfl | h1
    · exact h2
    · rcases h2 with rfl | h2
      · exact .inr h1
      · exact .inr (befR_tr h1 h2)) (fun a b => by
    simp only [q, Bool.or_eq_true, decide_eq_true_eq]
    by_cases e : a = b
    · exact .inl (.inl e)
    · rcases befR_total (r := r) e with h | h
      · exact .inl (.inr h)
      · exact .inr (.inr h)) (List.range n)
  have h2 : ((List.range n).mergeSort q).Nodup := (List.mergeSort_perm _ _).nodup_iff.2 List.nodup_range
  refine (List.Pairwise.and h1 h2).imp (fun {a b} h => ?_)
  have := of_decide_eq_true h.1
  rcases this with e | h3
  · exact absurd e h.2
  · exact h3

/-! ### how many coins are left -/
theorem sum_map_mul (pr : Int) : ∀ l : List Int, sumL (l.map (fun c => c * pr)) = sumL l * pr
  | [] => by simp [sumL]
  | x :: l => by rw [List.map_cons, sum_cons, sum_cons, sum_map_mul pr l, Int.add_mul]
theorem sum_split (T : Int) (f : Int → Int) : ∀ l : List Int, sumL (l.map (fun c => f c / T)) * T + sumL (l.map (fun c => f c % T)) = sumL (l.map f)
  | [] => by simp [sumL]
  | x :: l => by
    have := sum_split T f l
    simp only [List.map_cons, sum_cons]
    have e := Int.mul_ediv_add_emod (f x) T
    rw [Int.add_mul, Int.mul_comm (f x / T)]; omega
theorem rems_small {T : Int} (hT : 0 < T) : ∀ l : List Int, (∀ x ∈ l, 0 ≤ x ∧ x < T) → 0 ≤ sumL l ∧ (0 < l.length → sumL l < T * (l.length : Int))
  | [], _ => by simp [sumL]
  | x :: l, h => by
    have h0 := h x (by simp)
    have := rems_small hT l (fun y hy => h y (by simp [hy]))
    rw [sum_cons]
    refine ⟨by omega, fun _ => ?_⟩
    have e : T * (((x :: l).length : Nat) : Int) = T * (l.length : Int) + T := by
      rw [List.length_cons]; show T * ((l.length : Int) + 1) = _; rw [Int.mul_add, Int.mul_one]
    rw [e]
    rcases Nat.eq_zero_or_pos l.length with h1 | h1
    · have := List.eq_nil_of_length_eq_zero h1
      subst this; simp [sumL] at *; omega
    · have := this.2 h1; omega
theorem left_in {pr : Int} {cl : List Int} (hT : 0 < sumL cl) (h0 : 0 < cl.length) : 0 ≤ leftN pr cl ∧ leftN pr cl < (cl.length : Int) := by
  have h1 := sum_split (sumL cl) (fun c => c * pr) cl
  rw [sum_map_mul] at h1
  have h2 := rems_small hT (cl.map (fun c => c * pr % sumL cl)) (fun x hx => by
    obtain ⟨c, _, rfl⟩ := List.mem_map.1 hx
    exact ⟨Int.emod_nonneg _ (by omega), Int.emod_lt_of_pos _ hT⟩)
  have h3 := h2.2 (by simpa using h0)
  rw [List.length_map] at h3
  have e : sumL cl * leftN pr cl = sumL (cl.map (fun c => c * pr % sumL cl)) := by
    unfold leftN fls0
    rw [Int.mul_sub, Int.mul_comm (sumL cl) (sumL (List.map _ _))]; omega
  rw [← e] at h3 h2
  refine ⟨?_, ?_⟩
  · refine Int.not_lt.1 (fun h => ?_)
    have := Int.mul_neg_of_pos_of_neg hT h
    omega
  · exact Int.lt_of_mul_lt_mul_left h3 (by omega)

/-- What near shares are: for some order, each of the first farms has a coin more than what is whole. -/
theorem near_ex {pr : Int} {cl : List Int} (hT : 0 < sumL cl) (h0 : 0 < cl.length) : ∃ S : List Nat, S.Perm (List.range cl.length) ∧ S.Pairwise (BefR (remAt pr cl)) ∧
    ∀ i, i < cl.length → (nearOf pr cl).getD i 0 = flAt pr cl i + (if i ∈ S.take (leftN pr cl).toNat then 1 else 0) := by
  obtain ⟨S, h1, h2⟩ := order_ex (remAt pr cl) cl.length
  have hl := left_in (pr := pr) hT h0
  exact ⟨S, h1, h2, fun i hi => ((near_spec hT h1 h2 (leftN pr cl).toNat (by omega)).1 i hi).1⟩
theorem take_before {S : List Nat} {r : Nat → Int} (hs : S.Pairwise (BefR r)) {n i j : Nat} (hi : i ∈ S.take n) (hj : j ∈ S) (hjn : ¬ j ∈ S.take n) : BefR r i j := by
  obtain ⟨a, ha, rfl⟩ := List.mem_take_iff_getElem.1 hi
  obtain ⟨b, hb, rfl⟩ := List.getElem_of_mem hj
  have : n ≤ b := by
    rcases Nat.lt_or_ge b n with h | h
    · exact absurd (List.mem_take_iff_getElem.2 ⟨b, by omega, rfl⟩) hjn
    · exact h
  exact List.pairwise_iff_getElem.1 hs a b (by omega) hb (by omega)
theorem near_len (pr : Int) (cl : List Int) : (nearOf pr cl).length = cl.length := (nearUp_len pr cl _).1
theorem near_sum {pr : Int} {cl : List Int} (hT : 0 < sumL cl) (h0 : 0 < cl.length) : sumL (nearOf pr cl) = pr := by
  have hl := left_in (pr := pr) hT h0
  have h : ∀ n, sumL (nearUp pr cl n).1 = sumL (fls0 pr cl) + (n : Int) := by
    intro n
    induction n with
    | zero => show sumL (fls0 pr cl) = _; omega
    | succ n ih =>
      obtain ⟨hl1, hl2⟩ := nearUp_len pr cl n
      obtain ⟨hb, _⟩ := bestIx_spec (off := (nearUp pr cl n).2) (by omega)
      rw [hl2] at hb
      show sumL ((nearUp pr cl n).1.set _ _) = _
      rw [sum_set _ _ _ (by rw [hl1]; exact hb), ih]; omega
  unfold nearOf
  rw [h]
  have : leftN pr cl = pr - sumL (fls0 pr cl) := rfl
  omega

/-! ### near shares are off by least -/
theorem off_point {T r k t : Int} (hT : 0 < T) (r0 : 0 ≤ r) (r1 : r < T) (t0 : 0 ≤ t) (t1 : t ≤ T) :
    (r ≤ t → r ≤ absI (k * T - r) - (T - 2 * t) * k) ∧ (t ≤ r → 2 * t - r ≤ absI (k * T - r) - (T - 2 * t) * k) := by
  have e : (T - 2 * t) * k = k * T - 2 * (t * k) := by
    rw [Int.sub_mul, Int.mul_comm T k, Int.mul_assoc]
  rw [e]
  rcases Int.lt_or_le 0 k with hk | hk
  · have h1 : t * 1 ≤ t * k := Int.mul_le_mul_of_nonneg_left (by omega) t0
    have h2 : 1 * T ≤ k * T := Int.mul_le_mul_of_nonneg_right (by omega) (by omega)
    have : absI (k * T - r) = k * T - r := by unfold absI; rw [if_neg (by omega)]
    rw [this]
    exact ⟨fun h => by omega, fun h => by omega⟩
  · have h1 : 0 ≤ (-k) * (2 * T - 2 * t) := Int.mul_nonneg (by omega) (by omega)
    have e1 : (-k) * (2 * T - 2 * t) = 2 * (t * k) - 2 * (k * T) := by
      rw [Int.mul_sub, Int.neg_mul, Int.neg_mul, show k * (2 * T) = 2 * (k * T) by rw [Int.mul_left_comm], show k * (2 * t) = 2 * (t * k) by rw [Int.mul_left_comm, Int.mul_comm k t]]; omega
    have h2 : k * T ≤ 0 := Int.mul_nonpos_of_nonpos_of_nonneg hk (by omega)
    have : absI (k * T - r) = r - k * T := by unfold absI; split <;> omega
    rw [this]
    exact ⟨fun h => by omega, fun h => by omega⟩
theorem off_sum {pr : Int} {cl x s : List Int} {L : Int} (hl : x.length = s.length) (h : ∀ i : Nat, i < s.length → absI (offAt pr cl x i) - L * x.getD i 0 ≤ absI (offAt pr cl s i) - L * s.getD i 0) : ∀ n, n ≤ s.length → offTo pr cl x n - L * sumL (x.take n) ≤ offTo pr cl s n - L * sumL (s.take n)
  | 0, _ => by simp [offTo, sumL]
  | n + 1, hn => by
    have ih := off_sum hl h n (by omega)
    have h1 := h n (by omega)
    have e : ∀ l : List Int, n < l.length → sumL (l.take (n + 1)) = sumL (l.take n) + l.getD n 0 := fun l hl => by
      rw [List.take_succ_eq_append_getElem hl]
      unfold sumL
      rw [List.foldl_append, List.foldl_cons, List.foldl_nil, List.getD_eq_getElem?_getD, List.getElem?_eq_getElem hl]; rfl
    rw [e x (by omega), e s (by omega), Int.mul_add, Int.mul_add]
    show offTo pr cl x n + absI (offAt pr cl x n) - _ ≤ offTo pr cl s n + absI (offAt pr cl s n) - _
    omega
theorem near_least {pr : Int} {cl s : List Int} (hT : 0 < sumL cl) (h0 : 0 < cl.length) (hl : s.length = cl.length) (hs : sumL s = pr) : offN pr cl (nearOf pr cl) ≤ offN pr cl s := by
  obtain ⟨S, h1, h2, h3⟩ := near_ex (pr := pr) hT h0
  have hmem : ∀ i, i ∈ S ↔ i < cl.length := fun i => by rw [h1.mem_iff, List.mem_range]
  have hlen : S.length = cl.length := by rw [h1.length_eq, List.length_range]
  have hlf := left_in (pr := pr) hT h0
  have hr : ∀ i, 0 ≤ remAt pr cl i ∧ remAt pr cl i < sumL cl := fun i => ⟨Int.emod_nonneg _ (by omega), Int.emod_lt_of_pos _ hT⟩
  have hd : ∀ i, flAt pr cl i * sumL cl + remAt pr cl i = cl.getD i 0 * pr := fun i => by
    have := Int.mul_ediv_add_emod (cl.getD i 0 * pr) (sumL cl)
    rw [Int.mul_comm] at this; exact this
  -- the threshold
  obtain ⟨t, t0, t1, t2⟩ : ∃ t : Int, 0 ≤ t ∧ t ≤ sumL cl ∧ ∀ i, i < cl.length → (i ∈ S.take (leftN pr cl).toNat → t ≤ remAt pr cl i) ∧ (¬ i ∈ S.take (leftN pr cl).toNat → remAt pr cl i ≤ t) := by
    rcases Nat.eq_zero_or_pos (leftN pr cl).toNat with e | e
    · refine ⟨sumL cl, by omega, Int.le_refl _, fun i hi => ⟨fun h => ?_, fun _ => by have := hr i; omega⟩⟩
      rw [e] at h; simp at h
    · have hin : (leftN pr cl).toNat - 1 < S.length := by omega
      refine ⟨remAt pr cl S[(leftN pr cl).toNat - 1], (hr _).1, by have := hr S[(leftN pr cl).toNat - 1]; omega, fun i hi => ⟨fun h => ?_, fun h => ?_⟩⟩
      · obtain ⟨a, ha, rfl⟩ := List.mem_take_iff_getElem.1 h
        rcases Nat.eq_or_lt_of_le (show a ≤ (leftN pr cl).toNat - 1 by omega) with e' | e'
        · simp only [e']; exact Int.le_refl _
        · have := List.pairwise_iff_getElem.1 h2 a _ (by omega) hin e'
          unfold BefR at this; omega
      · have hm : S[(leftN pr cl).toNat - 1] ∈ S.take (leftN pr cl).toNat := List.mem_take_iff_getElem.2 ⟨_, by omega, rfl⟩
        have := take_before h2 hm ((hmem i).2 hi) h
        unfold BefR at this; omega
  have hnl : (nearOf pr cl).length = s.length := by rw [near_len, hl]
  have key := off_sum (pr := pr) (cl := cl) (x := nearOf pr cl) (s := s) (L := sumL cl - 2 * t) hnl (fun i hi => by
    have hi' : i < cl.length := by omega
    have e1 : ∀ y : List Int, offAt pr cl y i = (y.getD i 0 - flAt pr cl i) * sumL cl - remAt pr cl i := fun y => by
      unfold offAt; rw [Int.sub_mul]; have := hd i; omega
    obtain ⟨p1, p2⟩ := off_point (T := sumL cl) (r := remAt pr cl i) (k := s.getD i 0 - flAt pr cl i) (t := t) hT (hr i).1 (hr i).2 t0 t1
    have e3 := h3 i hi'
    obtain ⟨q1, q2⟩ := t2 i hi'
    rw [e1, e1]
    have e4 : ∀ y : Int, (sumL cl - 2 * t) * y = (sumL cl - 2 * t) * (y - flAt pr cl i) + (sumL cl - 2 * t) * flAt pr cl i := fun y => by
      rw [← Int.mul_add]; congr 1; omega
    rw [e4 ((nearOf pr cl).getD i 0), e4 (s.getD i 0)]
    by_cases hm : i ∈ S.take (leftN pr cl).toNat
    · rw [if_pos hm] at e3
      have e5 : (nearOf pr cl).getD i 0 - flAt pr cl i = 1 := by omega
      rw [e5, Int.one_mul, Int.mul_one]
      have := p2 (q1 hm)
      have hri := hr i
      have e6 : absI (sumL cl - remAt pr cl i) = sumL cl - remAt pr cl i := by unfold absI; rw [if_neg (by omega)]
      rw [e6]; omega
    · rw [if_neg hm] at e3
      have e5 : (nearOf pr cl).getD i 0 - flAt pr cl i = 0 := by omega
      rw [e5, Int.zero_mul, Int.mul_zero]
      have := p1 (q2 hm)
      have hri := hr i
      have e6 : absI (0 - remAt pr cl i) = remAt pr cl i := by unfold absI; split <;> omega
      rw [e6]; omega) s.length (Nat.le_refl _)
  rw [List.take_of_length_le (by omega), List.take_of_length_le (Nat.le_refl _), near_sum hT h0, hs] at key
  unfold offN
  rw [hnl]; omega
/-- Two farms with as much. -/
theorem near_alike {pr : Int} {cl : List Int} (hT : 0 < sumL cl) {i k : Nat} (hik : i < k) (hk : k < cl.length) (he : cl.getD i 0 = cl.getD k 0) : (nearOf pr cl).getD k 0 ≤ (nearOf pr cl).getD i 0 ∧ (nearOf pr cl).getD i 0 ≤ (nearOf pr cl).getD k 0 + 1 := by
  obtain ⟨S, h1, h2, h3⟩ := near_ex (pr := pr) hT (show 0 < cl.length by omega)
  have e1 := h3 i (by omega)
  have e2 := h3 k hk
  have e3 : flAt pr cl i = flAt pr cl k := by unfold flAt; rw [he]
  have e4 : remAt pr cl i = remAt pr cl k := by unfold remAt; rw [he]
  have hmem : i ∈ S := by rw [h1.mem_iff, List.mem_range]; omega
  have : k ∈ S.take (leftN pr cl).toNat → i ∈ S.take (leftN pr cl).toNat := fun h => Classical.byContradiction (fun h' => by
    have := take_before h2 h hmem h'
    unfold BefR at this; omega)
  rw [e1, e2]
  by_cases a : i ∈ S.take (leftN pr cl).toNat
  · rw [if_pos a]; split <;> omega
  · rw [if_neg a, if_neg (fun h => a (this h))]; omega
end Go.Abs.Farm
end

section
/- The contracts of the farm's functions: fourth part. -/
namespace Go.Abs.Farm
abbrev sU : VS := .imm (.int .u8) false
abbrev rB2 (a b c d e : Int) : RTree := one (.tup [two a b, two c d, rI e])
/- near shares -/
def v64 : Var := ⟨.cs sI (.cs sI (.cs (.iptr (.cs sP .nl)) (.cs (.iptr (.cs sI .nl)) .nl))), [], fun x => Fine x.2.2.1 x.2.2.2.1 ∧ x.2.2.2.2.1 = sumL x.2.2.2.1 ∧ 0 ≤ x.1 ∧ x.1 < (x.2.2.2.1.length : Int) ∧ 0 ≤ x.2.1 ∧ x.2.1 < (x.2.2.2.1.length : Int), fun x => one (rI (cmpR x.2.2.1 x.2.2.2.1 x.1 x.2.1))⟩
abbrev sC64 : VS := .fn 64 .nl (.cs (.iptr (.cs sP .nl)) (.cs (.iptr (.cs sI .nl)) .nl))
abbrev inFarms (cl : List Int) (l : List Int) : Prop := ∀ a ∈ l, 0 ≤ a ∧ a < (cl.length : Int)
def v95 : Var := ⟨.cs (.reg 0 false) (.cs sI (.cs sI (.cs sC64 .nl))), [.sl (.int .i64)], fun x => Fine x.2.2.1 x.2.2.2.1 ∧ x.2.2.2.2.1 = sumL x.2.2.2.1 ∧ inFarms x.2.2.2.1 x.2.2.2.2.2.1 ∧ x.1 = 0 ∧ x.2.1 = (x.2.2.2.2.2.1.length : Int) ∧ x.2.2.2.2.2.1.length ≤ 8,
  fun x => .leaf (.tup []) [.sl (.int .i64) (isort x.2.2.1 x.2.2.2.1 x.2.2.2.2.2.1)]⟩
def v86 : Var := ⟨.cs (.reg 0 false) (.cs sI (.cs sC64 .nl)), [.sl (.int .i64)], fun x => Fine x.2.1 x.2.2.1 ∧ x.2.2.2.1 = sumL x.2.2.1 ∧ inFarms x.2.2.1 x.2.2.2.2.1 ∧ x.1 = (x.2.2.2.2.1.length : Int) ∧ x.2.2.2.2.1.length ≤ 8,
  fun x => .leaf (.tup []) [.sl (.int .i64) (isort x.2.1 x.2.2.1 x.2.2.2.2.1)]⟩
def v63 : Var := ⟨.cs (.reg 0 false) (.cs sC64 .nl), [.sl (.int .i64)], fun x => Fine x.1 x.2.1 ∧ x.2.2.1 = sumL x.2.1 ∧ inFarms x.2.1 x.2.2.2.1 ∧ x.2.2.2.1.length ≤ 8,
  fun x => .leaf (.tup []) [.sl (.int .i64) (isort x.1 x.2.1 x.2.2.2.1)]⟩
def v65 : Var := ⟨.cs sYr .nl, [], fun x => Fine x.1 x.2.1, fun x => own (nearOf x.1 x.2.1)⟩
def v25 : Var := ⟨.cs sYr .nl, [], fun x => x.2.1.length ≤ 14, fun x => ownE (nearL x.1 x.2.1) (yearErr x.1 x.2.1)⟩
def v24 : Var := ⟨.cs sYr .nl, [], fun x => x.2.1.length ≤ 14, fun x => ownE (nearL x.1 x.2.1) (yearErr x.1 x.2.1)⟩
/- divisors -/
def v71 : Var := ⟨.cs sP (.cs sTwo .nl), [], fun x => smallC x.2.1 ∧ inC x.2.1 x.2.2.1 x.2.2.2.1 ∧ 1 ≤ x.2.2.2.1, fun x => one (two (byN (at0 x.2.1 x.2.2.1) x.2.2.2.1) (byD (at0 x.2.1 x.2.2.1) x.2.2.2.1))⟩
def v70 : Var := ⟨.cs sTwo (.cs sTwo (.cs (.iptr (.cs sC67 .nl)) .nl)), [], fun x => smallC x.2.2.2.2.2.1 ∧ inC x.2.2.2.2.2.1 x.1 x.2.1 ∧ inC x.2.2.2.2.2.1 x.2.2.1 x.2.2.2.1, fun x => one (.bool (gtC x.2.2.2.2.2.1 (x.1, x.2.1) (x.2.2.1, x.2.2.2.1)))⟩
def v72 : Var := ⟨.cs sTwo (.cs sTwo (.cs (.iptr (.cs sC67 .nl)) .nl)), [], fun x => smallC x.2.2.2.2.2.1 ∧ inC x.2.2.2.2.2.1 x.1 x.2.1 ∧ inC x.2.2.2.2.2.1 x.2.2.1 x.2.2.2.1, fun x => one (.bool (ltC x.2.2.2.2.2.1 (x.1, x.2.1) (x.2.2.1, x.2.2.2.1)))⟩
abbrev sC70 : VS := .fn 70 .nl (.cs (.iptr (.cs sC67 .nl)) .nl)
abbrev sC72 : VS := .fn 72 .nl (.cs (.iptr (.cs sC67 .nl)) .nl)
abbrev allC1 (cl : List Int) (l : List (Int × Int)) : Prop := ∀ a ∈ l, 0 ≤ a.1 ∧ a.1 < (cl.length : Int) ∧ 0 ≤ a.2 ∧ a.2 ≤ 1000
def v69a : Var := ⟨.cs sBL (.cs sC70 .nl), [], fun x => smallC x.2.2.1 ∧ allC1 x.2.2.1 x.1 ∧ 0 < x.1.length ∧ x.1.length ≤ 100, fun x => one (two (gt1 x.2.2.1 x.1) (gt2 x.2.2.1 x.1))⟩
def v69b : Var := ⟨.cs sBL (.cs sC72 .nl), [], fun x => smallC x.2.2.1 ∧ allC1 x.2.2.1 x.1 ∧ 0 < x.1.length ∧ x.1.length ≤ 100, fun x => one (two (lt1 x.2.2.1 x.1) (lt2 x.2.2.1 x.1))⟩
def v35 : Var := ⟨sYS, [], fun x => x.2.1.length ≤ 14 ∧ x.2.2.1.length ≤ 14, fun x => rB2 (divLN x.1 x.2.1 x.2.2.1) (divLD x.1 x.2.1 x.2.2.1) (divHN x.1 x.2.1 x.2.2.1) (divHD x.1 x.2.1 x.2.2.1) (divE x.1 x.2.1 x.2.2.1)⟩
def v36 : Var := ⟨sYS, [], fun x => x.2.1.length ≤ 14 ∧ x.2.2.1.length ≤ 14, fun x => rB2 (divLN x.1 x.2.1 x.2.2.1) (divLD x.1 x.2.1 x.2.2.1) (divHN x.1 x.2.1 x.2.2.1) (divHD x.1 x.2.1 x.2.2.1) (divE x.1 x.2.1 x.2.2.1)⟩
/- spans -/
def v73 : Var := ⟨.cs sRg (.cs sI (.cs .bool .nl)), [], fun x => x.2.1.length ≤ 14, fun x => one (.agg [rI x.1, .imm (.int .i64) (truthOf x.2.1 x.2.2.1 x.2.2.2.1) false])⟩
def v38 : Var := ⟨.cs sRg (.cs sI .nl), [], fun x => x.2.1.length ≤ 14, fun x => one (.tup [two (spanLo x.1 x.2.1 x.2.2.1) (spanHi x.1 x.2.1 x.2.2.1), rI (spanE x.1 x.2.1 x.2.2.1)])⟩
def v39 : Var := ⟨.cs sRg (.cs sI .nl), [], fun x => x.2.1.length ≤ 14, fun x => one (.tup [two (spanLo x.1 x.2.1 x.2.2.1) (spanHi x.1 x.2.1 x.2.2.1), rI (spanE x.1 x.2.1 x.2.2.1)])⟩
/- given shares, given truths -/
def v44 : Var := ⟨.cs sYr (.cs sU .nl), [], fun x => Fine x.1 x.2.1 ∧ x.2.2.1.length ≤ 1000 ∧ inL 0 255 x.2.2.1, fun x => one (.imm (.int .i64) (given x.1 x.2.1 x.2.2.1) false)⟩
abbrev rngOk (l : List (Int × Int)) : Prop := ∀ r ∈ l, 0 ≤ r.1 ∧ r.1 ≤ r.2 ∧ r.2 ≤ 100
def v51 : Var := ⟨.cs sRg (.cs sU .nl), [], fun x => x.2.1.length ≤ 14 ∧ rngOk x.2.1 ∧ x.2.2.1.length ≤ 1000 ∧ inL 0 255 x.2.2.1, fun x => one (.agg [rI x.1, .imm (.int .i64) (trueOf x.2.1 x.2.2.1) false])⟩
end Go.Abs.Farm
end

section
/- Conditions and their equations, printed by a program. -/
open Go.Proofs
set_option maxRecDepth 100000
set_option linter.unusedVariables false
namespace Go.Abs.Farm
def vc64 (a b : Int) (pr : Int) (cl : List Int) (t : Int) (k : AVal → List Cont → Prop) : Prop :=
  ∃ h6 : (((0 : Int) ≤ b) ∧ ((Int.toNat b) < (List.length cl))),
  (Go.Abs.fitsK Go.IntKind.i64 ((cl[(Int.toNat b)]'h6.2) * pr)) ∧
  (((0 : Int) ≤ ((cl[(Int.toNat b)]'h6.2) * pr)) ∧ ((0 : Int) < t)) ∧
  ∃ h7 : (((0 : Int) ≤ a) ∧ ((Int.toNat a) < (List.length cl))),
  (Go.Abs.fitsK Go.IntKind.i64 ((cl[(Int.toNat a)]'h7.2) * pr)) ∧
  (((0 : Int) ≤ ((cl[(Int.toNat a)]'h7.2) * pr)) ∧ ((0 : Int) < t)) ∧
  (Go.Abs.fitsK Go.IntKind.i64 ((HMod.hMod ((cl[(Int.toNat b)]'h6.2) * pr) t) - (HMod.hMod ((cl[(Int.toNat a)]'h7.2) * pr) t))) ∧
  (k (Go.Abs.AVal.int Go.IntKind.i64 ((HMod.hMod ((cl[(Int.toNat b)]'h6.2) * pr) t) - (HMod.hMod ((cl[(Int.toNat a)]'h7.2) * pr) t))) [])
theorem eq64 (a b : Int) (pr : Int) (cl : List Int) (t : Int) (k : AVal → List Cont → Prop) : awpF (envOf []) Try.prog kt 64 false Try.f64 (v64.args (a, b, pr, cl, t, ())) (v64.conts (a, b, pr, cl, t, ())) k = vc64 a b pr cl t k := by kernel_rfl
theorem tx64 : (Try.f64.body.map Code.textsOk).getD true = true := by kernel_rfl

def vc95 (a b : Int) (pr : Int) (cl : List Int) (t : Int) (l : List Int) (k : AVal → List Cont → Prop) : Prop :=
  (Go.Abs.fitsK Go.IntKind.i64 (a + (1 : Int))) ∧
  Go.Abs.Loop (σ := (Int × (Int × (Int × ((List Int) × (Int × (Int × ((List Int) × Unit)))))))) (fun K7 x7 =>
    br ((decide (x7.2.2.2.2.2.1 < x7.2.1)))
     (Go.Abs.Loop (σ := (Int × (Int × (Int × ((List Int) × (Int × (Int × (Int × ((List Int) × Unit))))))))) (fun K9 x9 =>
       br (((decide (x9.2.2.2.2.2.2.1 > x9.1)) == Bool.true))
        ((((0 : Int) ≤ x9.2.2.2.2.2.2.1) ∧ ((Int.toNat x9.2.2.2.2.2.2.1) < (List.length x9.2.2.2.2.2.2.2.1))) ∧
        ∃ h11 : ((Int.toNat x9.2.2.2.2.2.2.1) < (List.length x9.2.2.2.2.2.2.2.1)),
        (Go.Abs.fitsK Go.IntKind.i64 (x9.2.2.2.2.2.2.1 - (1 : Int))) ∧
        (((0 : Int) ≤ (x9.2.2.2.2.2.2.1 - (1 : Int))) ∧ ((Int.toNat (x9.2.2.2.2.2.2.1 - (1 : Int))) < (List.length x9.2.2.2.2.2.2.2.1))) ∧
        ∃ h12 : ((Int.toNat (x9.2.2.2.2.2.2.1 - (1 : Int))) < (List.length x9.2.2.2.2.2.2.2.1)),
        (Go.Abs.Farm.v64.p ((x9.2.2.2.2.2.2.2.1[(Int.toNat x9.2.2.2.2.2.2.1)]'h11), ((x9.2.2.2.2.2.2.2.1[(Int.toNat (x9.2.2.2.2.2.2.1 - (1 : Int)))]'h12), (x9.2.2.1, (x9.2.2.2.1, (x9.2.2.2.2.1, ())))))) ∧
        br ((decide ((Go.Abs.Farm.cmpR x9.2.2.1 x9.2.2.2.1 (x9.2.2.2.2.2.2.2.1[(Int.toNat x9.2.2.2.2.2.2.1)]'h11) (x9.2.2.2.2.2.2.2.1[(Int.toNat (x9.2.2.2.2.2.2.1 - (1 : Int)))]'h12)) < (0 : Int))))
         ((Go.Abs.fitsK Go.IntKind.i64 (x9.2.2.2.2.2.2.1 - (1 : Int))) ∧
         (Go.Abs.fitsK Go.IntKind.i64 (x9.2.2.2.2.2.2.1 - (1 : Int))) ∧
         (((0 : Int) ≤ (x9.2.2.2.2.2.2.1 - (1 : Int))) ∧ ((Int.toNat (x9.2.2.2.2.2.2.1 - (1 : Int))) < (List.length x9.2.2.2.2.2.2.2.1))) ∧
         ∃ h13 : ((Int.toNat (x9.2.2.2.2.2.2.1 - (1 : Int))) < (List.length x9.2.2.2.2.2.2.2.1)),
         (((0 : Int) ≤ x9.2.2.2.2.2.2.1) ∧ ((Int.toNat x9.2.2.2.2.2.2.1) < (List.length x9.2.2.2.2.2.2.2.1))) ∧
         ∃ h14 : ((Int.toNat x9.2.2.2.2.2.2.1) < (List.length x9.2.2.2.2.2.2.2.1)),
         (((0 : Int) ≤ x9.2.2.2.2.2.2.1) ∧ ((Int.toNat x9.2.2.2.2.2.2.1) < (List.length x9.2.2.2.2.2.2.2.1))) ∧
         ∃ h15 : ((Int.toNat x9.2.2.2.2.2.2.1) < (List.length x9.2.2.2.2.2.2.2.1)),
         (((0 : Int) ≤ (x9.2.2.2.2.2.2.1 - (1 : Int))) ∧ ((Int.toNat (x9.2.2.2.2.2.2.1 - (1 : Int))) < (List.length (List.set x9.2.2.2.2.2.2.2.1 (Int.toNat x9.2.2.2.2.2.2.1) (x9.2.2.2.2.2.2.2.1[(Int.toNat (x9.2.2.2.2.2.2.1 - (1 : Int)))]'h13))))) ∧
         ∃ h16 : ((Int.toNat (x9.2.2.2.2.2.2.1 - (1 : Int))) < (List.length (List.set x9.2.2.2.2.2.2.2.1 (Int.toNat x9.2.2.2.2.2.2.1) (x9.2.2.2.2.2.2.2.1[(Int.toNat (x9.2.2.2.2.2.2.1 - (1 : Int)))]'h13)))),
         (Go.Abs.fitsK Go.IntKind.i64 (x9.2.2.2.2.2.2.1 - (1 : Int))) ∧
         (K9 (x9.1, (x9.2.1, (x9.2.2.1, (x9.2.2.2.1, (x9.2.2.2.2.1, (x9.2.2.2.2.2.1, ((x9.2.2.2.2.2.2.1 - (1 : Int)), ((List.set (List.set x9.2.2.2.2.2.2.2.1 (Int.toNat x9.2.2.2.2.2.2.1) (x9.2.2.2.2.2.2.2.1[(Int.toNat (x9.2.2.2.2.2.2.1 - (1 : Int)))]'h13)) (Int.toNat (x9.2.2.2.2.2.2.1 - (1 : Int))) (x9.2.2.2.2.2.2.2.1[(Int.toNat x9.2.2.2.2.2.2.1)]'h14)), ()))))))))))
         ((Go.Abs.fitsK Go.IntKind.i64 (x9.2.2.2.2.2.1 + (1 : Int))) ∧
         (K7 (x9.1, (x9.2.1, (x9.2.2.1, (x9.2.2.2.1, (x9.2.2.2.2.1, ((x9.2.2.2.2.2.1 + (1 : Int)), (x9.2.2.2.2.2.2.2.1, ()))))))))))
        ((Go.Abs.fitsK Go.IntKind.i64 (x9.2.2.2.2.2.1 + (1 : Int))) ∧
        (K7 (x9.1, (x9.2.1, (x9.2.2.1, (x9.2.2.2.1, (x9.2.2.2.2.1, ((x9.2.2.2.2.2.1 + (1 : Int)), (x9.2.2.2.2.2.2.2.1, ())))))))))) ((x7.1, (x7.2.1, (x7.2.2.1, (x7.2.2.2.1, (x7.2.2.2.2.1, (x7.2.2.2.2.2.1, (x7.2.2.2.2.2.1, (x7.2.2.2.2.2.2.1, ()))))))))))
     ((k (Go.Abs.AVal.tup []) ((Go.Abs.Cont.sl (Go.Abs.Ty.int Go.IntKind.i64) x7.2.2.2.2.2.2.1) :: [])))) ((a, (b, (pr, (cl, (t, ((a + (1 : Int)), (l, ()))))))))
theorem eq95 (a b : Int) (pr : Int) (cl : List Int) (t : Int) (l : List Int) (k : AVal → List Cont → Prop) : awpF (envOf [(64, mkC [v64])]) Try.prog kt 95 false Try.f95 (v95.args (a, b, pr, cl, t, l, ())) (v95.conts (a, b, pr, cl, t, l, ())) k = vc95 a b pr cl t l k := by kernel_rfl
theorem tx95 : (Try.f95.body.map Code.textsOk).getD true = true := by kernel_rfl

def vc86 (n : Int) (pr : Int) (cl : List Int) (t : Int) (l : List Int) (k : AVal → List Cont → Prop) : Prop :=
  Go.Abs.Loop (σ := (Int × (Int × ((List Int) × (Int × (Int × (Int × (Int × ((List Int) × Unit))))))))) (fun K6 x6 =>
    br ((decide (x6.2.2.2.2.2.2.1 ≤ x6.1)))
     ((Go.Abs.Farm.v95.p (x6.2.2.2.2.2.1, (x6.2.2.2.2.2.2.1, (x6.2.1, (x6.2.2.1, (x6.2.2.2.1, (x6.2.2.2.2.2.2.2.1, ()))))))) ∧
     (Go.Abs.fitsK Go.IntKind.i64 (x6.2.2.2.2.2.2.1 + x6.2.2.2.2.1)) ∧
     (K6 (x6.1, (x6.2.1, (x6.2.2.1, (x6.2.2.2.1, (x6.2.2.2.2.1, (x6.2.2.2.2.2.2.1, ((x6.2.2.2.2.2.2.1 + x6.2.2.2.2.1), ((Go.Abs.Farm.isort x6.2.1 x6.2.2.1 x6.2.2.2.2.2.2.2.1), ()))))))))))
     ((Go.Abs.Farm.v95.p (x6.2.2.2.2.2.1, (x6.1, (x6.2.1, (x6.2.2.1, (x6.2.2.2.1, (x6.2.2.2.2.2.2.2.1, ()))))))) ∧
     Go.Abs.Loop (σ := (Int × (Int × ((List Int) × (Int × (Int × ((List Int) × Unit))))))) (fun K8 x8 =>
       br ((decide (x8.2.2.2.2.1 < x8.1)))
        ((Go.Abs.fitsK Go.IntKind.i64 ((2 : Int) * x8.2.2.2.2.1)) ∧
        Go.Abs.Loop (σ := (Int × (Int × ((List Int) × (Int × (Int × (Int × (Int × ((List Int) × Unit))))))))) (fun K10 x10 =>
          br ((decide (x10.2.2.2.2.2.2.1 ≤ x10.1)))
           ((Go.Abs.fitsK Go.IntKind.i64 (x10.2.2.2.2.2.1 + x10.2.2.2.2.1)) ∧
           False)
           ((Go.Abs.fitsK Go.IntKind.i64 (x10.2.2.2.2.2.1 + x10.2.2.2.2.1)) ∧
           br ((decide ((x10.2.2.2.2.2.1 + x10.2.2.2.2.1) < x10.1)))
            (False)
            ((Go.Abs.fitsK Go.IntKind.i64 (x10.2.2.2.2.1 * (2 : Int))) ∧
            (K8 (x10.1, (x10.2.1, (x10.2.2.1, (x10.2.2.2.1, ((x10.2.2.2.2.1 * (2 : Int)), (x10.2.2.2.2.2.2.2.1, ())))))))))) ((x8.1, (x8.2.1, (x8.2.2.1, (x8.2.2.2.1, (x8.2.2.2.2.1, ((0 : Int), (((2 : Int) * x8.2.2.2.2.1), (x8.2.2.2.2.2.1, ()))))))))))
        ((k (Go.Abs.AVal.tup []) ((Go.Abs.Cont.sl (Go.Abs.Ty.int Go.IntKind.i64) x8.2.2.2.2.2.1) :: [])))) ((x6.1, (x6.2.1, (x6.2.2.1, (x6.2.2.2.1, (x6.2.2.2.2.1, ((Go.Abs.Farm.isort x6.2.1 x6.2.2.1 x6.2.2.2.2.2.2.2.1), ()))))))))) ((n, (pr, (cl, (t, ((20 : Int), ((0 : Int), ((20 : Int), (l, ())))))))))
theorem eq86 (n : Int) (pr : Int) (cl : List Int) (t : Int) (l : List Int) (k : AVal → List Cont → Prop) : awpF (envOf [(95, mkC [v95])]) Try.prog kt 86 false Try.f86 (v86.args (n, pr, cl, t, l, ())) (v86.conts (n, pr, cl, t, l, ())) k = vc86 n pr cl t l k := by kernel_rfl
theorem tx86 : (Try.f86.body.map Code.textsOk).getD true = true := by kernel_rfl

def vc63 (pr : Int) (cl : List Int) (t : Int) (l : List Int) (k : AVal → List Cont → Prop) : Prop :=
  (Go.Abs.Farm.v86.p ((((List.length l) : Nat) : Int), (pr, (cl, (t, (l, ())))))) ∧
  (k (Go.Abs.AVal.tup []) ((Go.Abs.Cont.sl (Go.Abs.Ty.int Go.IntKind.i64) (Go.Abs.Farm.isort pr cl l)) :: []))
theorem eq63 (pr : Int) (cl : List Int) (t : Int) (l : List Int) (k : AVal → List Cont → Prop) : awpF (envOf [(86, mkC [v86])]) Try.prog kt 63 false Try.f63 (v63.args (pr, cl, t, l, ())) (v63.conts (pr, cl, t, l, ())) k = vc63 pr cl t l k := by kernel_rfl
theorem tx63 : (Try.f63.body.map Code.textsOk).getD true = true := by kernel_rfl

def vc65 (pr : Int) (cl : List Int) (k : AVal → List Cont → Prop) : Prop :=
  (Go.Abs.Farm.v48.p (cl, ())) ∧
  (((0 : Int) ≤ (((List.length cl) : Nat) : Int)) ∧ (((((List.length cl) : Nat) : Int) = (((List.length cl) : Nat) : Int)) ∧ ((((List.length cl) : Nat) : Int) ≤ ((Go.Abs.big : Nat) : Int)))) ∧
  Go.Abs.Loop (σ := (Int × (Int × (Int × (Int × ((List Int) × ((List Int) × ((List Int) × Unit)))))))) (fun K3 x3 =>
    br ((decide (x3.2.2.1 < (((List.length x3.2.2.2.2.2.1) : Nat) : Int))))
     (∃ h5 : (((0 : Int) ≤ x3.2.2.1) ∧ ((Int.toNat x3.2.2.1) < (List.length x3.2.2.2.2.1))),
     (Go.Abs.fitsK Go.IntKind.i64 ((x3.2.2.2.2.1[(Int.toNat x3.2.2.1)]'h5.2) * x3.2.2.2.1)) ∧
     (((0 : Int) ≤ ((x3.2.2.2.2.1[(Int.toNat x3.2.2.1)]'h5.2) * x3.2.2.2.1)) ∧ (((0 : Int) < x3.1) ∧ (Go.Abs.fitsK Go.IntKind.i64 (HDiv.hDiv ((x3.2.2.2.2.1[(Int.toNat x3.2.2.1)]'h5.2) * x3.2.2.2.1) x3.1)))) ∧
     (((0 : Int) ≤ x3.2.2.1) ∧ ((Int.toNat x3.2.2.1) < (List.length x3.2.2.2.2.2.1))) ∧
     ∃ h6 : ((Int.toNat x3.2.2.1) < (List.length x3.2.2.2.2.2.1)),
     ∃ h7 : (((0 : Int) ≤ x3.2.2.1) ∧ ((Int.toNat x3.2.2.1) < (List.length x3.2.2.2.2.1))),
     (Go.Abs.fitsK Go.IntKind.i64 ((x3.2.2.2.2.1[(Int.toNat x3.2.2.1)]'h7.2) * x3.2.2.2.1)) ∧
     (((0 : Int) ≤ ((x3.2.2.2.2.1[(Int.toNat x3.2.2.1)]'h7.2) * x3.2.2.2.1)) ∧ ((0 : Int) < x3.1)) ∧
     (((List.length x3.2.2.2.2.2.2.1) + (List.length ((HMod.hMod ((x3.2.2.2.2.1[(Int.toNat x3.2.2.1)]'h7.2) * x3.2.2.2.1) x3.1) :: ([] : List Int)))) ≤ Go.Abs.big) ∧
     (((0 : Int) ≤ x3.2.2.1) ∧ ((Int.toNat x3.2.2.1) < (List.length (List.set x3.2.2.2.2.2.1 (Int.toNat x3.2.2.1) (HDiv.hDiv ((x3.2.2.2.2.1[(Int.toNat x3.2.2.1)]'h5.2) * x3.2.2.2.1) x3.1))))) ∧
     ∃ h8 : ((Int.toNat x3.2.2.1) < (List.length (List.set x3.2.2.2.2.2.1 (Int.toNat x3.2.2.1) (HDiv.hDiv ((x3.2.2.2.2.1[(Int.toNat x3.2.2.1)]'h5.2) * x3.2.2.2.1) x3.1)))),
     (Go.Abs.fitsK Go.IntKind.i64 (x3.2.1 - ((List.set x3.2.2.2.2.2.1 (Int.toNat x3.2.2.1) (HDiv.hDiv ((x3.2.2.2.2.1[(Int.toNat x3.2.2.1)]'h5.2) * x3.2.2.2.1) x3.1))[(Int.toNat x3.2.2.1)]'h8))) ∧
     (Go.Abs.fitsK Go.IntKind.i64 (x3.2.2.1 + (1 : Int))) ∧
     (K3 (x3.1, ((x3.2.1 - ((List.set x3.2.2.2.2.2.1 (Int.toNat x3.2.2.1) (HDiv.hDiv ((x3.2.2.2.2.1[(Int.toNat x3.2.2.1)]'h5.2) * x3.2.2.2.1) x3.1))[(Int.toNat x3.2.2.1)]'h8)), ((x3.2.2.1 + (1 : Int)), (x3.2.2.2.1, (x3.2.2.2.2.1, ((List.set x3.2.2.2.2.2.1 (Int.toNat x3.2.2.1) (HDiv.hDiv ((x3.2.2.2.2.1[(Int.toNat x3.2.2.1)]'h5.2) * x3.2.2.2.1) x3.1)), ((x3.2.2.2.2.2.2.1 ++ ((HMod.hMod ((x3.2.2.2.2.1[(Int.toNat x3.2.2.1)]'h7.2) * x3.2.2.2.1) x3.1) :: ([] : List Int))), ())))))))))
     (Go.Abs.Loop (σ := (Int × ((List Int) × ((List Int) × Unit)))) (fun K5 x5 =>
       br ((decide (x5.1 > (0 : Int))))
        (Go.Abs.Loop (σ := (Int × (Int × (Int × ((List Int) × ((List Int) × Unit)))))) (fun K7 x7 =>
          br ((decide (x7.2.2.1 < (((List.length x7.2.2.2.2.1) : Nat) : Int))))
           ((((0 : Int) ≤ x7.2.2.1) ∧ ((Int.toNat x7.2.2.1) < (List.length x7.2.2.2.2.1))) ∧
           ∃ h9 : ((Int.toNat x7.2.2.1) < (List.length x7.2.2.2.2.1)),
           (((0 : Int) ≤ x7.2.1) ∧ ((Int.toNat x7.2.1) < (List.length x7.2.2.2.2.1))) ∧
           ∃ h10 : ((Int.toNat x7.2.1) < (List.length x7.2.2.2.2.1)),
           br ((decide ((x7.2.2.2.2.1[(Int.toNat x7.2.2.1)]'h9) > (x7.2.2.2.2.1[(Int.toNat x7.2.1)]'h10))))
            ((Go.Abs.fitsK Go.IntKind.i64 (x7.2.2.1 + (1 : Int))) ∧
            (K7 (x7.1, (x7.2.2.1, ((x7.2.2.1 + (1 : Int)), (x7.2.2.2.1, (x7.2.2.2.2.1, ())))))))
            ((Go.Abs.fitsK Go.IntKind.i64 (x7.2.2.1 + (1 : Int))) ∧
            (K7 (x7.1, (x7.2.1, ((x7.2.2.1 + (1 : Int)), (x7.2.2.2.1, (x7.2.2.2.2.1, ()))))))))
           ((((0 : Int) ≤ x7.2.1) ∧ ((Int.toNat x7.2.1) < (List.length x7.2.2.2.1))) ∧
           ∃ h9 : ((Int.toNat x7.2.1) < (List.length x7.2.2.2.1)),
           (Go.Abs.fitsK Go.IntKind.i64 ((x7.2.2.2.1[(Int.toNat x7.2.1)]'h9) + (1 : Int))) ∧
           (((0 : Int) ≤ x7.2.1) ∧ ((Int.toNat x7.2.1) < (List.length x7.2.2.2.1))) ∧
           ∃ h10 : ((Int.toNat x7.2.1) < (List.length x7.2.2.2.1)),
           (((0 : Int) ≤ x7.2.1) ∧ ((Int.toNat x7.2.1) < (List.length x7.2.2.2.2.1))) ∧
           ∃ h11 : ((Int.toNat x7.2.1) < (List.length x7.2.2.2.2.1)),
           (Go.Abs.fitsK Go.IntKind.i64 (x7.1 - (1 : Int))) ∧
           (K5 ((x7.1 - (1 : Int)), ((List.set x7.2.2.2.1 (Int.toNat x7.2.1) ((x7.2.2.2.1[(Int.toNat x7.2.1)]'h9) + (1 : Int))), ((List.set x7.2.2.2.2.1 (Int.toNat x7.2.1) (-(1 : Int) : Int)), ())))))) ((x5.1, ((0 : Int), ((1 : Int), (x5.2.1, (x5.2.2.1, ())))))))
        ((k (Go.Abs.AVal.reg 0 Bool.false) ((Go.Abs.Cont.sl (Go.Abs.Ty.int Go.IntKind.i64) x5.2.1) :: [])))) ((x3.2.1, (x3.2.2.2.2.2.1, (x3.2.2.2.2.2.2.1, ())))))) (((Go.Abs.Farm.sumL cl), (pr, ((0 : Int), (pr, (cl, ((List.replicate (Int.toNat (((List.length cl) : Nat) : Int)) (Int.ofNat 0)), (([] : List Int), ()))))))))
theorem eq65 (pr : Int) (cl : List Int) (k : AVal → List Cont → Prop) : awpF (envOf [(48, mkC [v48])]) Try.prog kt 65 false Try.f65 (v65.args (pr, cl, ())) (v65.conts (pr, cl, ())) k = vc65 pr cl k := by kernel_rfl
theorem tx65 : (Try.f65.body.map Code.textsOk).getD true = true := by kernel_rfl

def vc25 (pr : Int) (cl : List Int) (k : AVal → List Cont → Prop) : Prop :=
  (Go.Abs.Farm.v27.p (pr, (cl, ()))) ∧
  br (((Go.Abs.Farm.yearErr pr cl) != (0 : Int)))
   ((Go.Abs.Farm.v27.p (pr, (cl, ()))) ∧
   (k (Go.Abs.AVal.tup ((Go.Abs.AVal.reg 0 Bool.false) :: ((Go.Abs.AVal.int Go.IntKind.i64 (Go.Abs.Farm.yearErr pr cl)) :: []))) ((Go.Abs.Cont.sl (Go.Abs.Ty.int Go.IntKind.i64) ([] : List Int)) :: [])))
   ((Go.Abs.Farm.v65.p (pr, (cl, ()))) ∧
   (k (Go.Abs.AVal.tup ((Go.Abs.AVal.reg 0 Bool.false) :: ((Go.Abs.AVal.int Go.IntKind.i64 (0 : Int)) :: []))) ((Go.Abs.Cont.sl (Go.Abs.Ty.int Go.IntKind.i64) (Go.Abs.Farm.nearOf pr cl)) :: [])))
theorem eq25 (pr : Int) (cl : List Int) (k : AVal → List Cont → Prop) : awpF (envOf [(27, mkC [v27]), (65, mkC [v65])]) Try.prog kt 25 false Try.f25 (v25.args (pr, cl, ())) (v25.conts (pr, cl, ())) k = vc25 pr cl k := by kernel_rfl
theorem tx25 : (Try.f25.body.map Code.textsOk).getD true = true := by kernel_rfl

def vc24 (pr : Int) (cl : List Int) (k : AVal → List Cont → Prop) : Prop :=
  (Go.Abs.Farm.v55.p (pr, (cl, (([] : List (List Int)), ())))) ∧
  br ((Go.Abs.Farm.oeIs pr cl ([] : List (List Int)) (3 : Int)))
   ((k (Go.Abs.AVal.tup ((Go.Abs.AVal.reg 0 Bool.false) :: ((Go.Abs.AVal.int Go.IntKind.i64 (3 : Int)) :: []))) ((Go.Abs.Cont.sl (Go.Abs.Ty.int Go.IntKind.i64) ([] : List Int)) :: [])))
   (br ((Go.Abs.Farm.oeIs pr cl ([] : List (List Int)) (6 : Int)))
    ((k (Go.Abs.AVal.tup ((Go.Abs.AVal.reg 0 Bool.false) :: ((Go.Abs.AVal.int Go.IntKind.i64 (6 : Int)) :: []))) ((Go.Abs.Cont.sl (Go.Abs.Ty.int Go.IntKind.i64) ([] : List Int)) :: [])))
    (br ((Go.Abs.Farm.oeIs pr cl ([] : List (List Int)) (16 : Int)))
     ((k (Go.Abs.AVal.tup ((Go.Abs.AVal.reg 0 Bool.false) :: ((Go.Abs.AVal.int Go.IntKind.i64 (16 : Int)) :: []))) ((Go.Abs.Cont.sl (Go.Abs.Ty.int Go.IntKind.i64) ([] : List Int)) :: [])))
     (br ((Go.Abs.Farm.oeIs pr cl ([] : List (List Int)) (15 : Int)))
      ((k (Go.Abs.AVal.tup ((Go.Abs.AVal.reg 0 Bool.false) :: ((Go.Abs.AVal.int Go.IntKind.i64 (15 : Int)) :: []))) ((Go.Abs.Cont.sl (Go.Abs.Ty.int Go.IntKind.i64) ([] : List Int)) :: [])))
      (br ((Go.Abs.Farm.oeIs pr cl ([] : List (List Int)) (14 : Int)))
       ((k (Go.Abs.AVal.tup ((Go.Abs.AVal.reg 0 Bool.false) :: ((Go.Abs.AVal.int Go.IntKind.i64 (14 : Int)) :: []))) ((Go.Abs.Cont.sl (Go.Abs.Ty.int Go.IntKind.i64) ([] : List Int)) :: [])))
       ((Go.Abs.Farm.v58.p (cl, ())) ∧
       Go.Abs.Loop (σ := (Int × ((List Int) × (Int × (Int × (Int × ((List Int) × (Int × ((List Int) × ((List Int) × Unit)))))))))) (fun K3 x3 =>
         br ((decide (x3.2.2.2.1 < x3.2.2.1)))
          (∃ h5 : (((0 : Int) ≤ x3.2.2.2.1) ∧ ((Int.toNat x3.2.2.2.1) < (List.length x3.2.1))),
          (Go.Abs.fitsK Go.IntKind.i64 ((x3.2.1[(Int.toNat x3.2.2.2.1)]'h5.2) * x3.2.2.2.2.1)) ∧
          (((0 : Int) ≤ ((x3.2.1[(Int.toNat x3.2.2.2.1)]'h5.2) * x3.2.2.2.2.1)) ∧ (((0 : Int) < x3.2.2.2.2.2.2.1) ∧ (Go.Abs.fitsK Go.IntKind.i64 (HDiv.hDiv ((x3.2.1[(Int.toNat x3.2.2.2.1)]'h5.2) * x3.2.2.2.2.1) x3.2.2.2.2.2.2.1)))) ∧
          (((List.length x3.2.2.2.2.2.2.2.1) + (List.length ((HDiv.hDiv ((x3.2.1[(Int.toNat x3.2.2.2.1)]'h5.2) * x3.2.2.2.2.1) x3.2.2.2.2.2.2.1) :: ([] : List Int)))) ≤ Go.Abs.big) ∧
          (((List.length x3.2.2.2.2.2.2.2.2.1) + (List.length (x3.2.2.2.1 :: ([] : List Int)))) ≤ Go.Abs.big) ∧
          (((0 : Int) ≤ x3.2.2.2.1) ∧ ((Int.toNat x3.2.2.2.1) < (List.length (x3.2.2.2.2.2.2.2.1 ++ ((HDiv.hDiv ((x3.2.1[(Int.toNat x3.2.2.2.1)]'h5.2) * x3.2.2.2.2.1) x3.2.2.2.2.2.2.1) :: ([] : List Int)))))) ∧
          ∃ h6 : ((Int.toNat x3.2.2.2.1) < (List.length (x3.2.2.2.2.2.2.2.1 ++ ((HDiv.hDiv ((x3.2.1[(Int.toNat x3.2.2.2.1)]'h5.2) * x3.2.2.2.2.1) x3.2.2.2.2.2.2.1) :: ([] : List Int))))),
          (Go.Abs.fitsK Go.IntKind.i64 (x3.1 - ((x3.2.2.2.2.2.2.2.1 ++ ((HDiv.hDiv ((x3.2.1[(Int.toNat x3.2.2.2.1)]'h5.2) * x3.2.2.2.2.1) x3.2.2.2.2.2.2.1) :: ([] : List Int)))[(Int.toNat x3.2.2.2.1)]'h6))) ∧
          (Go.Abs.fitsK Go.IntKind.i64 (x3.2.2.2.1 + (1 : Int))) ∧
          (K3 ((x3.1 - ((x3.2.2.2.2.2.2.2.1 ++ ((HDiv.hDiv ((x3.2.1[(Int.toNat x3.2.2.2.1)]'h5.2) * x3.2.2.2.2.1) x3.2.2.2.2.2.2.1) :: ([] : List Int)))[(Int.toNat x3.2.2.2.1)]'h6)), (x3.2.1, (x3.2.2.1, ((x3.2.2.2.1 + (1 : Int)), (x3.2.2.2.2.1, (x3.2.2.2.2.2.1, (x3.2.2.2.2.2.2.1, ((x3.2.2.2.2.2.2.2.1 ++ ((HDiv.hDiv ((x3.2.1[(Int.toNat x3.2.2.2.1)]'h5.2) * x3.2.2.2.2.1) x3.2.2.2.2.2.2.1) :: ([] : List Int))), ((x3.2.2.2.2.2.2.2.2.1 ++ (x3.2.2.2.1 :: ([] : List Int))), ())))))))))))
          ((Go.Abs.Farm.v63.p (x3.2.2.2.2.1, (x3.2.2.2.2.2.1, (x3.2.2.2.2.2.2.1, (x3.2.2.2.2.2.2.2.2.1, ()))))) ∧
          (((0 : Int) ≤ x3.1) ∧ (x3.1 ≤ (((List.length (Go.Abs.Farm.isort x3.2.2.2.2.1 x3.2.2.2.2.2.1 x3.2.2.2.2.2.2.2.2.1)) : Nat) : Int))) ∧
          Go.Abs.Loop (σ := (Nat × (Nat × (Int × (Int × ((List Int) × ((List Int) × Unit))))))) (fun K5 x5 =>
            br ((decide (x5.2.2.2.1 < x5.2.2.1)))
             ((((0 : Int) ≤ x5.2.2.2.1) ∧ ((Int.toNat x5.2.2.2.1) < x5.2.1)) ∧
             ∃ h7 : ((x5.1 + (Int.toNat x5.2.2.2.1)) < (List.length x5.2.2.2.2.2.1)),
             (((0 : Int) ≤ (x5.2.2.2.2.2.1[(x5.1 + (Int.toNat x5.2.2.2.1))]'h7)) ∧ ((Int.toNat (x5.2.2.2.2.2.1[(x5.1 + (Int.toNat x5.2.2.2.1))]'h7)) < (List.length x5.2.2.2.2.1))) ∧
             ∃ h8 : ((Int.toNat (x5.2.2.2.2.2.1[(x5.1 + (Int.toNat x5.2.2.2.1))]'h7)) < (List.length x5.2.2.2.2.1)),
             (Go.Abs.fitsK Go.IntKind.i64 ((x5.2.2.2.2.1[(Int.toNat (x5.2.2.2.2.2.1[(x5.1 + (Int.toNat x5.2.2.2.1))]'h7))]'h8) + (1 : Int))) ∧
             (((0 : Int) ≤ (x5.2.2.2.2.2.1[(x5.1 + (Int.toNat x5.2.2.2.1))]'h7)) ∧ ((Int.toNat (x5.2.2.2.2.2.1[(x5.1 + (Int.toNat x5.2.2.2.1))]'h7)) < (List.length x5.2.2.2.2.1))) ∧
             ∃ h9 : ((Int.toNat (x5.2.2.2.2.2.1[(x5.1 + (Int.toNat x5.2.2.2.1))]'h7)) < (List.length x5.2.2.2.2.1)),
             (Go.Abs.fitsK Go.IntKind.i64 (x5.2.2.2.1 + (1 : Int))) ∧
             (K5 (x5.1, (x5.2.1, (x5.2.2.1, ((x5.2.2.2.1 + (1 : Int)), ((List.set x5.2.2.2.2.1 (Int.toNat (x5.2.2.2.2.2.1[(x5.1 + (Int.toNat x5.2.2.2.1))]'h7)) ((x5.2.2.2.2.1[(Int.toNat (x5.2.2.2.2.2.1[(x5.1 + (Int.toNat x5.2.2.2.1))]'h7))]'h8) + (1 : Int))), (x5.2.2.2.2.2.1, ()))))))))
             ((k (Go.Abs.AVal.tup ((Go.Abs.AVal.reg 0 Bool.false) :: ((Go.Abs.AVal.int Go.IntKind.i64 (0 : Int)) :: []))) ((Go.Abs.Cont.sl (Go.Abs.Ty.int Go.IntKind.i64) x5.2.2.2.2.1) :: [])))) (((0 : Nat), ((Int.toNat x3.1), ((((Int.toNat x3.1) : Nat) : Int), ((0 : Int), (x3.2.2.2.2.2.2.2.1, ((Go.Abs.Farm.isort x3.2.2.2.2.1 x3.2.2.2.2.2.1 x3.2.2.2.2.2.2.2.2.1), ()))))))))) ((pr, (cl, ((((List.length cl) : Nat) : Int), ((0 : Int), (pr, (cl, ((Go.Abs.Farm.sumL cl), (([] : List Int), (([] : List Int), ())))))))))))))))
theorem eq24 (pr : Int) (cl : List Int) (k : AVal → List Cont → Prop) : awpF (envOf [(55, mkC [v55]), (58, mkC [v58]), (63, mkC [v63]), (64, mkC [v64])]) Try.prog kt 24 false Try.f24 (v24.args (pr, cl, ())) (v24.conts (pr, cl, ())) k = vc24 pr cl k := by kernel_rfl
theorem tx24 : (Try.f24.body.map Code.textsOk).getD true = true := by kernel_rfl

def vc71 (pr : Int) (cl : List Int) (f c : Int) (k : AVal → List Cont → Prop) : Prop :=
  ∃ h5 : (((0 : Int) ≤ f) ∧ ((Int.toNat f) < (List.length cl))),
  (Go.Abs.Farm.v57.p ((cl[(Int.toNat f)]'h5.2), (c, ()))) ∧
  (k (Go.Abs.AVal.agg ((Go.Abs.AVal.int Go.IntKind.i64 (Go.Abs.Farm.byN (cl[(Int.toNat f)]'h5.2) c)) :: ((Go.Abs.AVal.int Go.IntKind.i64 (Go.Abs.Farm.byD (cl[(Int.toNat f)]'h5.2) c)) :: []))) [])
theorem eq71 (pr : Int) (cl : List Int) (f c : Int) (k : AVal → List Cont → Prop) : awpF (envOf [(57, mkC [v57])]) Try.prog kt 71 false Try.f71 (v71.args (pr, cl, f, c, ())) (v71.conts (pr, cl, f, c, ())) k = vc71 pr cl f c k := by kernel_rfl
theorem tx71 : (Try.f71.body.map Code.textsOk).getD true = true := by kernel_rfl

def vc70 (a1 a2 b1 b2 : Int) (pr : Int) (cl : List Int) (k : AVal → List Cont → Prop) : Prop :=
  (Go.Abs.Farm.v67.p (pr, (cl, (a1, (a2, (b1, (b2, ()))))))) ∧
  (k (Go.Abs.AVal.bool (decide ((Go.Abs.Farm.moreI cl a1 a2 b1 b2) > (0 : Int)))) [])
theorem eq70 (a1 a2 b1 b2 : Int) (pr : Int) (cl : List Int) (k : AVal → List Cont → Prop) : awpF (envOf [(67, mkC [v67])]) Try.prog kt 70 false Try.f70 (v70.args (a1, a2, b1, b2, pr, cl, ())) (v70.conts (a1, a2, b1, b2, pr, cl, ())) k = vc70 a1 a2 b1 b2 pr cl k := by kernel_rfl
theorem tx70 : (Try.f70.body.map Code.textsOk).getD true = true := by kernel_rfl

def vc72 (a1 a2 b1 b2 : Int) (pr : Int) (cl : List Int) (k : AVal → List Cont → Prop) : Prop :=
  (Go.Abs.Farm.v67.p (pr, (cl, (a1, (a2, (b1, (b2, ()))))))) ∧
  (k (Go.Abs.AVal.bool (decide ((Go.Abs.Farm.moreI cl a1 a2 b1 b2) < (0 : Int)))) [])
theorem eq72 (a1 a2 b1 b2 : Int) (pr : Int) (cl : List Int) (k : AVal → List Cont → Prop) : awpF (envOf [(67, mkC [v67])]) Try.prog kt 72 false Try.f72 (v72.args (a1, a2, b1, b2, pr, cl, ())) (v72.conts (a1, a2, b1, b2, pr, cl, ())) k = vc72 a1 a2 b1 b2 pr cl k := by kernel_rfl
theorem tx72 : (Try.f72.body.map Code.textsOk).getD true = true := by kernel_rfl

def vc69a (l : List (Int × Int)) (pr : Int) (cl : List Int) (k : AVal → List Cont → Prop) : Prop :=
  ∃ h4 : (((0 : Int) ≤ (0 : Int)) ∧ ((Int.toNat (0 : Int)) < (List.length l))),
  (((0 : Int) ≤ (1 : Int)) ∧ ((1 : Int) ≤ (((List.length l) : Nat) : Int))) ∧
  Go.Abs.Loop (σ := (Int × ((List Int) × ((List (Int × Int)) × (Int × (Int × (Int × (Int × (Int × (Int × Unit)))))))))) (fun K5 x5 =>
    br ((decide (x5.2.2.2.2.1 < x5.2.2.2.1)))
     (∃ h7 : (((0 : Int) ≤ x5.2.2.2.2.1) ∧ ((Int.toNat x5.2.2.2.2.1) < (List.length x5.2.2.1))),
     (Go.Abs.Farm.v70.p ((x5.2.2.1[(Int.toNat x5.2.2.2.2.1)]'h7.2).1, ((x5.2.2.1[(Int.toNat x5.2.2.2.2.1)]'h7.2).2, (x5.2.2.2.2.2.2.2.1, (x5.2.2.2.2.2.2.2.2.1, (x5.1, (x5.2.1, ()))))))) ∧
     br ((Go.Abs.Farm.gtC x5.2.1 ((x5.2.2.1[(Int.toNat x5.2.2.2.2.1)]'h7.2).1, (x5.2.2.1[(Int.toNat x5.2.2.2.2.1)]'h7.2).2) (x5.2.2.2.2.2.2.2.1, x5.2.2.2.2.2.2.2.2.1)))
      ((Go.Abs.fitsK Go.IntKind.i64 (x5.2.2.2.2.1 + (1 : Int))) ∧
      (K5 (x5.1, (x5.2.1, (x5.2.2.1, (x5.2.2.2.1, ((x5.2.2.2.2.1 + (1 : Int)), (x5.2.2.2.2.2.1, (x5.2.2.2.2.2.2.1, ((x5.2.2.1[(Int.toNat x5.2.2.2.2.1)]'h7.2).1, ((x5.2.2.1[(Int.toNat x5.2.2.2.2.1)]'h7.2).2, ())))))))))))
      ((Go.Abs.fitsK Go.IntKind.i64 (x5.2.2.2.2.1 + (1 : Int))) ∧
      (K5 (x5.1, (x5.2.1, (x5.2.2.1, (x5.2.2.2.1, ((x5.2.2.2.2.1 + (1 : Int)), (x5.2.2.2.2.2.1, (x5.2.2.2.2.2.2.1, (x5.2.2.2.2.2.2.2.1, (x5.2.2.2.2.2.2.2.2.1, ()))))))))))))
     ((k (Go.Abs.AVal.agg ((Go.Abs.AVal.int Go.IntKind.i64 x5.2.2.2.2.2.2.2.1) :: ((Go.Abs.AVal.int Go.IntKind.i64 x5.2.2.2.2.2.2.2.2.1) :: []))) []))) ((pr, (cl, ((List.drop (Int.toNat (1 : Int)) l), ((((List.length (List.drop (Int.toNat (1 : Int)) l)) : Nat) : Int), ((0 : Int), ((0 : Int), ((0 : Int), ((l[(Int.toNat (0 : Int))]'h4.2).1, ((l[(Int.toNat (0 : Int))]'h4.2).2, ()))))))))))
theorem eq69a (l : List (Int × Int)) (pr : Int) (cl : List Int) (k : AVal → List Cont → Prop) : awpF (envOf [(70, mkC [v70])]) Try.prog kt 69 false Try.f69 (v69a.args (l, pr, cl, ())) (v69a.conts (l, pr, cl, ())) k = vc69a l pr cl k := by kernel_rfl
theorem tx69 : (Try.f69.body.map Code.textsOk).getD true = true := by kernel_rfl

def vc69b (l : List (Int × Int)) (pr : Int) (cl : List Int) (k : AVal → List Cont → Prop) : Prop :=
  ∃ h4 : (((0 : Int) ≤ (0 : Int)) ∧ ((Int.toNat (0 : Int)) < (List.length l))),
  (((0 : Int) ≤ (1 : Int)) ∧ ((1 : Int) ≤ (((List.length l) : Nat) : Int))) ∧
  Go.Abs.Loop (σ := (Int × ((List Int) × ((List (Int × Int)) × (Int × (Int × (Int × (Int × (Int × (Int × Unit)))))))))) (fun K5 x5 =>
    br ((decide (x5.2.2.2.2.1 < x5.2.2.2.1)))
     (∃ h7 : (((0 : Int) ≤ x5.2.2.2.2.1) ∧ ((Int.toNat x5.2.2.2.2.1) < (List.length x5.2.2.1))),
     (Go.Abs.Farm.v72.p ((x5.2.2.1[(Int.toNat x5.2.2.2.2.1)]'h7.2).1, ((x5.2.2.1[(Int.toNat x5.2.2.2.2.1)]'h7.2).2, (x5.2.2.2.2.2.2.2.1, (x5.2.2.2.2.2.2.2.2.1, (x5.1, (x5.2.1, ()))))))) ∧
     br ((Go.Abs.Farm.ltC x5.2.1 ((x5.2.2.1[(Int.toNat x5.2.2.2.2.1)]'h7.2).1, (x5.2.2.1[(Int.toNat x5.2.2.2.2.1)]'h7.2).2) (x5.2.2.2.2.2.2.2.1, x5.2.2.2.2.2.2.2.2.1)))
      ((Go.Abs.fitsK Go.IntKind.i64 (x5.2.2.2.2.1 + (1 : Int))) ∧
      (K5 (x5.1, (x5.2.1, (x5.2.2.1, (x5.2.2.2.1, ((x5.2.2.2.2.1 + (1 : Int)), (x5.2.2.2.2.2.1, (x5.2.2.2.2.2.2.1, ((x5.2.2.1[(Int.toNat x5.2.2.2.2.1)]'h7.2).1, ((x5.2.2.1[(Int.toNat x5.2.2.2.2.1)]'h7.2).2, ())))))))))))
      ((Go.Abs.fitsK Go.IntKind.i64 (x5.2.2.2.2.1 + (1 : Int))) ∧
      (K5 (x5.1, (x5.2.1, (x5.2.2.1, (x5.2.2.2.1, ((x5.2.2.2.2.1 + (1 : Int)), (x5.2.2.2.2.2.1, (x5.2.2.2.2.2.2.1, (x5.2.2.2.2.2.2.2.1, (x5.2.2.2.2.2.2.2.2.1, ()))))))))))))
     ((k (Go.Abs.AVal.agg ((Go.Abs.AVal.int Go.IntKind.i64 x5.2.2.2.2.2.2.2.1) :: ((Go.Abs.AVal.int Go.IntKind.i64 x5.2.2.2.2.2.2.2.2.1) :: []))) []))) ((pr, (cl, ((List.drop (Int.toNat (1 : Int)) l), ((((List.length (List.drop (Int.toNat (1 : Int)) l)) : Nat) : Int), ((0 : Int), ((0 : Int), ((0 : Int), ((l[(Int.toNat (0 : Int))]'h4.2).1, ((l[(Int.toNat (0 : Int))]'h4.2).2, ()))))))))))
theorem eq69b (l : List (Int × Int)) (pr : Int) (cl : List Int) (k : AVal → List Cont → Prop) : awpF (envOf [(72, mkC [v72])]) Try.prog kt 69 false Try.f69 (v69b.args (l, pr, cl, ())) (v69b.conts (l, pr, cl, ())) k = vc69b l pr cl k := by kernel_rfl

def vc36 (pr : Int) (cl : List Int) (s : List Int) (k : AVal → List Cont → Prop) : Prop :=
  (Go.Abs.Farm.v34.p (pr, (cl, (s, ())))) ∧
  br (((Go.Abs.Farm.fairE pr cl s) != (0 : Int)))
   ((Go.Abs.Farm.v34.p (pr, (cl, (s, ())))) ∧
   (k (Go.Abs.AVal.tup ((Go.Abs.AVal.agg ((Go.Abs.AVal.int Go.IntKind.i64 (0 : Int)) :: ((Go.Abs.AVal.int Go.IntKind.i64 (0 : Int)) :: []))) :: ((Go.Abs.AVal.agg ((Go.Abs.AVal.int Go.IntKind.i64 (0 : Int)) :: ((Go.Abs.AVal.int Go.IntKind.i64 (0 : Int)) :: []))) :: ((Go.Abs.AVal.int Go.IntKind.i64 (Go.Abs.Farm.fairE pr cl s)) :: [])))) []))
   (Go.Abs.Loop (σ := ((List Int) × (Int × (Int × ((List Int) × (Int × (Int × (Int × (Int × (Int × (Int × (Int × (Int × Unit))))))))))))) (fun K4 x4 =>
     br ((decide (x4.2.1 < (((List.length x4.1) : Nat) : Int))))
      (∃ h6 : (((0 : Int) ≤ x4.2.1) ∧ ((Int.toNat x4.2.1) < (List.length x4.2.2.2.1))),
      ∃ h7 : (((0 : Int) ≤ x4.2.1) ∧ ((Int.toNat x4.2.1) < (List.length x4.1))),
      (Go.Abs.fitsK Go.IntKind.i64 ((x4.1[(Int.toNat x4.2.1)]'h7.2) + (1 : Int))) ∧
      (Go.Abs.Farm.v47.p ((x4.2.2.2.1[(Int.toNat x4.2.1)]'h6.2), (((x4.1[(Int.toNat x4.2.1)]'h7.2) + (1 : Int)), ()))) ∧
      (Go.Abs.fitsK Go.IntKind.i64 ((Go.Abs.Farm.byN (x4.2.2.2.1[(Int.toNat x4.2.1)]'h6.2) ((x4.1[(Int.toNat x4.2.1)]'h7.2) + (1 : Int))) * x4.2.2.2.2.2.2.2.2.2.1)) ∧
      (Go.Abs.fitsK Go.IntKind.i64 (x4.2.2.2.2.2.2.2.2.1 * (Go.Abs.Farm.byD (x4.2.2.2.1[(Int.toNat x4.2.1)]'h6.2) ((x4.1[(Int.toNat x4.2.1)]'h7.2) + (1 : Int))))) ∧
      br ((decide (((Go.Abs.Farm.byN (x4.2.2.2.1[(Int.toNat x4.2.1)]'h6.2) ((x4.1[(Int.toNat x4.2.1)]'h7.2) + (1 : Int))) * x4.2.2.2.2.2.2.2.2.2.1) > (x4.2.2.2.2.2.2.2.2.1 * (Go.Abs.Farm.byD (x4.2.2.2.1[(Int.toNat x4.2.1)]'h6.2) ((x4.1[(Int.toNat x4.2.1)]'h7.2) + (1 : Int)))))))
       (∃ h8 : (((0 : Int) ≤ x4.2.1) ∧ ((Int.toNat x4.2.1) < (List.length x4.1))),
       br ((decide ((x4.1[(Int.toNat x4.2.1)]'h8.2) > (0 : Int))))
        (∃ h9 : (((0 : Int) ≤ x4.2.1) ∧ ((Int.toNat x4.2.1) < (List.length x4.2.2.2.1))),
        ∃ h10 : (((0 : Int) ≤ x4.2.1) ∧ ((Int.toNat x4.2.1) < (List.length x4.1))),
        (Go.Abs.Farm.v47.p ((x4.2.2.2.1[(Int.toNat x4.2.1)]'h9.2), ((x4.1[(Int.toNat x4.2.1)]'h10.2), ()))) ∧
        br (((x4.2.2.2.2.2.2.2.2.2.2.1 == (0 : Int)) == Bool.false))
         ((Go.Abs.fitsK Go.IntKind.i64 ((Go.Abs.Farm.byN (x4.2.2.2.1[(Int.toNat x4.2.1)]'h9.2) (x4.1[(Int.toNat x4.2.1)]'h10.2)) * x4.2.2.2.2.2.2.2.2.2.2.2.1)) ∧
         (Go.Abs.fitsK Go.IntKind.i64 (x4.2.2.2.2.2.2.2.2.2.2.1 * (Go.Abs.Farm.byD (x4.2.2.2.1[(Int.toNat x4.2.1)]'h9.2) (x4.1[(Int.toNat x4.2.1)]'h10.2)))) ∧
         br ((decide (((Go.Abs.Farm.byN (x4.2.2.2.1[(Int.toNat x4.2.1)]'h9.2) (x4.1[(Int.toNat x4.2.1)]'h10.2)) * x4.2.2.2.2.2.2.2.2.2.2.2.1) < (x4.2.2.2.2.2.2.2.2.2.2.1 * (Go.Abs.Farm.byD (x4.2.2.2.1[(Int.toNat x4.2.1)]'h9.2) (x4.1[(Int.toNat x4.2.1)]'h10.2))))))
          ((Go.Abs.fitsK Go.IntKind.i64 (x4.2.1 + (1 : Int))) ∧
          (K4 (x4.1, ((x4.2.1 + (1 : Int)), (x4.2.2.1, (x4.2.2.2.1, (x4.2.2.2.2.1, (x4.2.2.2.2.2.1, (x4.2.2.2.2.2.2.1, (x4.2.2.2.2.2.2.2.1, ((Go.Abs.Farm.byN (x4.2.2.2.1[(Int.toNat x4.2.1)]'h6.2) ((x4.1[(Int.toNat x4.2.1)]'h7.2) + (1 : Int))), ((Go.Abs.Farm.byD (x4.2.2.2.1[(Int.toNat x4.2.1)]'h6.2) ((x4.1[(Int.toNat x4.2.1)]'h7.2) + (1 : Int))), ((Go.Abs.Farm.byN (x4.2.2.2.1[(Int.toNat x4.2.1)]'h9.2) (x4.1[(Int.toNat x4.2.1)]'h10.2)), ((Go.Abs.Farm.byD (x4.2.2.2.1[(Int.toNat x4.2.1)]'h9.2) (x4.1[(Int.toNat x4.2.1)]'h10.2)), ()))))))))))))))
          ((Go.Abs.fitsK Go.IntKind.i64 (x4.2.1 + (1 : Int))) ∧
          (K4 (x4.1, ((x4.2.1 + (1 : Int)), (x4.2.2.1, (x4.2.2.2.1, (x4.2.2.2.2.1, (x4.2.2.2.2.2.1, (x4.2.2.2.2.2.2.1, (x4.2.2.2.2.2.2.2.1, ((Go.Abs.Farm.byN (x4.2.2.2.1[(Int.toNat x4.2.1)]'h6.2) ((x4.1[(Int.toNat x4.2.1)]'h7.2) + (1 : Int))), ((Go.Abs.Farm.byD (x4.2.2.2.1[(Int.toNat x4.2.1)]'h6.2) ((x4.1[(Int.toNat x4.2.1)]'h7.2) + (1 : Int))), (x4.2.2.2.2.2.2.2.2.2.2.1, (x4.2.2.2.2.2.2.2.2.2.2.2.1, ())))))))))))))))
         ((Go.Abs.fitsK Go.IntKind.i64 (x4.2.1 + (1 : Int))) ∧
         (K4 (x4.1, ((x4.2.1 + (1 : Int)), (x4.2.2.1, (x4.2.2.2.1, (x4.2.2.2.2.1, (x4.2.2.2.2.2.1, (x4.2.2.2.2.2.2.1, (x4.2.2.2.2.2.2.2.1, ((Go.Abs.Farm.byN (x4.2.2.2.1[(Int.toNat x4.2.1)]'h6.2) ((x4.1[(Int.toNat x4.2.1)]'h7.2) + (1 : Int))), ((Go.Abs.Farm.byD (x4.2.2.2.1[(Int.toNat x4.2.1)]'h6.2) ((x4.1[(Int.toNat x4.2.1)]'h7.2) + (1 : Int))), ((Go.Abs.Farm.byN (x4.2.2.2.1[(Int.toNat x4.2.1)]'h9.2) (x4.1[(Int.toNat x4.2.1)]'h10.2)), ((Go.Abs.Farm.byD (x4.2.2.2.1[(Int.toNat x4.2.1)]'h9.2) (x4.1[(Int.toNat x4.2.1)]'h10.2)), ())))))))))))))))
        ((Go.Abs.fitsK Go.IntKind.i64 (x4.2.1 + (1 : Int))) ∧
        (K4 (x4.1, ((x4.2.1 + (1 : Int)), (x4.2.2.1, (x4.2.2.2.1, (x4.2.2.2.2.1, (x4.2.2.2.2.2.1, (x4.2.2.2.2.2.2.1, (x4.2.2.2.2.2.2.2.1, ((Go.Abs.Farm.byN (x4.2.2.2.1[(Int.toNat x4.2.1)]'h6.2) ((x4.1[(Int.toNat x4.2.1)]'h7.2) + (1 : Int))), ((Go.Abs.Farm.byD (x4.2.2.2.1[(Int.toNat x4.2.1)]'h6.2) ((x4.1[(Int.toNat x4.2.1)]'h7.2) + (1 : Int))), (x4.2.2.2.2.2.2.2.2.2.2.1, (x4.2.2.2.2.2.2.2.2.2.2.2.1, ())))))))))))))))
       (∃ h8 : (((0 : Int) ≤ x4.2.1) ∧ ((Int.toNat x4.2.1) < (List.length x4.1))),
       br ((decide ((x4.1[(Int.toNat x4.2.1)]'h8.2) > (0 : Int))))
        (∃ h9 : (((0 : Int) ≤ x4.2.1) ∧ ((Int.toNat x4.2.1) < (List.length x4.2.2.2.1))),
        ∃ h10 : (((0 : Int) ≤ x4.2.1) ∧ ((Int.toNat x4.2.1) < (List.length x4.1))),
        (Go.Abs.Farm.v47.p ((x4.2.2.2.1[(Int.toNat x4.2.1)]'h9.2), ((x4.1[(Int.toNat x4.2.1)]'h10.2), ()))) ∧
        br (((x4.2.2.2.2.2.2.2.2.2.2.1 == (0 : Int)) == Bool.false))
         ((Go.Abs.fitsK Go.IntKind.i64 ((Go.Abs.Farm.byN (x4.2.2.2.1[(Int.toNat x4.2.1)]'h9.2) (x4.1[(Int.toNat x4.2.1)]'h10.2)) * x4.2.2.2.2.2.2.2.2.2.2.2.1)) ∧
         (Go.Abs.fitsK Go.IntKind.i64 (x4.2.2.2.2.2.2.2.2.2.2.1 * (Go.Abs.Farm.byD (x4.2.2.2.1[(Int.toNat x4.2.1)]'h9.2) (x4.1[(Int.toNat x4.2.1)]'h10.2)))) ∧
         br ((decide (((Go.Abs.Farm.byN (x4.2.2.2.1[(Int.toNat x4.2.1)]'h9.2) (x4.1[(Int.toNat x4.2.1)]'h10.2)) * x4.2.2.2.2.2.2.2.2.2.2.2.1) < (x4.2.2.2.2.2.2.2.2.2.2.1 * (Go.Abs.Farm.byD (x4.2.2.2.1[(Int.toNat x4.2.1)]'h9.2) (x4.1[(Int.toNat x4.2.1)]'h10.2))))))
          ((Go.Abs.fitsK Go.IntKind.i64 (x4.2.1 + (1 : Int))) ∧
          (K4 (x4.1, ((x4.2.1 + (1 : Int)), (x4.2.2.1, (x4.2.2.2.1, (x4.2.2.2.2.1, (x4.2.2.2.2.2.1, (x4.2.2.2.2.2.2.1, (x4.2.2.2.2.2.2.2.1, (x4.2.2.2.2.2.2.2.2.1, (x4.2.2.2.2.2.2.2.2.2.1, ((Go.Abs.Farm.byN (x4.2.2.2.1[(Int.toNat x4.2.1)]'h9.2) (x4.1[(Int.toNat x4.2.1)]'h10.2)), ((Go.Abs.Farm.byD (x4.2.2.2.1[(Int.toNat x4.2.1)]'h9.2) (x4.1[(Int.toNat x4.2.1)]'h10.2)), ()))))))))))))))
          ((Go.Abs.fitsK Go.IntKind.i64 (x4.2.1 + (1 : Int))) ∧
          (K4 (x4.1, ((x4.2.1 + (1 : Int)), (x4.2.2.1, (x4.2.2.2.1, (x4.2.2.2.2.1, (x4.2.2.2.2.2.1, (x4.2.2.2.2.2.2.1, (x4.2.2.2.2.2.2.2.1, (x4.2.2.2.2.2.2.2.2.1, (x4.2.2.2.2.2.2.2.2.2.1, (x4.2.2.2.2.2.2.2.2.2.2.1, (x4.2.2.2.2.2.2.2.2.2.2.2.1, ())))))))))))))))
         ((Go.Abs.fitsK Go.IntKind.i64 (x4.2.1 + (1 : Int))) ∧
         (K4 (x4.1, ((x4.2.1 + (1 : Int)), (x4.2.2.1, (x4.2.2.2.1, (x4.2.2.2.2.1, (x4.2.2.2.2.2.1, (x4.2.2.2.2.2.2.1, (x4.2.2.2.2.2.2.2.1, (x4.2.2.2.2.2.2.2.2.1, (x4.2.2.2.2.2.2.2.2.2.1, ((Go.Abs.Farm.byN (x4.2.2.2.1[(Int.toNat x4.2.1)]'h9.2) (x4.1[(Int.toNat x4.2.1)]'h10.2)), ((Go.Abs.Farm.byD (x4.2.2.2.1[(Int.toNat x4.2.1)]'h9.2) (x4.1[(Int.toNat x4.2.1)]'h10.2)), ())))))))))))))))
        ((Go.Abs.fitsK Go.IntKind.i64 (x4.2.1 + (1 : Int))) ∧
        (K4 (x4.1, ((x4.2.1 + (1 : Int)), (x4.2.2.1, (x4.2.2.2.1, (x4.2.2.2.2.1, (x4.2.2.2.2.2.1, (x4.2.2.2.2.2.2.1, (x4.2.2.2.2.2.2.2.1, (x4.2.2.2.2.2.2.2.2.1, (x4.2.2.2.2.2.2.2.2.2.1, (x4.2.2.2.2.2.2.2.2.2.2.1, (x4.2.2.2.2.2.2.2.2.2.2.2.1, ()))))))))))))))))
      (br (((decide (x4.2.2.1 > (0 : Int))) == Bool.true))
       ((Go.Abs.fitsK Go.IntKind.i64 (x4.2.2.2.2.2.2.2.2.1 * x4.2.2.2.2.2.2.2.2.2.2.2.1)) ∧
       (Go.Abs.fitsK Go.IntKind.i64 (x4.2.2.2.2.2.2.2.2.2.2.1 * x4.2.2.2.2.2.2.2.2.2.1)) ∧
       br ((decide ((x4.2.2.2.2.2.2.2.2.1 * x4.2.2.2.2.2.2.2.2.2.2.2.1) ≥ (x4.2.2.2.2.2.2.2.2.2.2.1 * x4.2.2.2.2.2.2.2.2.2.1))))
        ((k (Go.Abs.AVal.tup ((Go.Abs.AVal.agg ((Go.Abs.AVal.int Go.IntKind.i64 (0 : Int)) :: ((Go.Abs.AVal.int Go.IntKind.i64 (0 : Int)) :: []))) :: ((Go.Abs.AVal.agg ((Go.Abs.AVal.int Go.IntKind.i64 (0 : Int)) :: ((Go.Abs.AVal.int Go.IntKind.i64 (0 : Int)) :: []))) :: ((Go.Abs.AVal.int Go.IntKind.i64 (24 : Int)) :: [])))) []))
        ((k (Go.Abs.AVal.tup ((Go.Abs.AVal.agg ((Go.Abs.AVal.int Go.IntKind.i64 x4.2.2.2.2.2.2.2.2.1) :: ((Go.Abs.AVal.int Go.IntKind.i64 x4.2.2.2.2.2.2.2.2.2.1) :: []))) :: ((Go.Abs.AVal.agg ((Go.Abs.AVal.int Go.IntKind.i64 x4.2.2.2.2.2.2.2.2.2.2.1) :: ((Go.Abs.AVal.int Go.IntKind.i64 x4.2.2.2.2.2.2.2.2.2.2.2.1) :: []))) :: ((Go.Abs.AVal.int Go.IntKind.i64 (0 : Int)) :: [])))) [])))
       ((k (Go.Abs.AVal.tup ((Go.Abs.AVal.agg ((Go.Abs.AVal.int Go.IntKind.i64 x4.2.2.2.2.2.2.2.2.1) :: ((Go.Abs.AVal.int Go.IntKind.i64 x4.2.2.2.2.2.2.2.2.2.1) :: []))) :: ((Go.Abs.AVal.agg ((Go.Abs.AVal.int Go.IntKind.i64 x4.2.2.2.2.2.2.2.2.2.2.1) :: ((Go.Abs.AVal.int Go.IntKind.i64 x4.2.2.2.2.2.2.2.2.2.2.2.1) :: []))) :: ((Go.Abs.AVal.int Go.IntKind.i64 (0 : Int)) :: [])))) [])))) ((s, ((0 : Int), (pr, (cl, ((0 : Int), ((0 : Int), ((0 : Int), ((0 : Int), ((0 : Int), ((1 : Int), ((0 : Int), ((1 : Int), ()))))))))))))))
theorem eq36 (pr : Int) (cl : List Int) (s : List Int) (k : AVal → List Cont → Prop) : awpF (envOf [(34, mkC [v34]), (47, mkC [v47])]) Try.prog kt 36 false Try.f36 (v36.args (pr, cl, s, ())) (v36.conts (pr, cl, s, ())) k = vc36 pr cl s k := by kernel_rfl
theorem tx36 : (Try.f36.body.map Code.textsOk).getD true = true := by kernel_rfl

def vc73 (pr : Int) (rs : List (Int × Int)) (f : Int) (b : Bool) (k : AVal → List Cont → Prop) : Prop :=
  Go.Abs.Loop (σ := (Int × (Bool × (Int × (Int × ((List (Int × Int)) × (Int × (Int × ((List Int) × ((List Int) × Unit)))))))))) (fun K5 x5 =>
    br ((decide (x5.2.2.1 < (((List.length x5.2.2.2.2.1) : Nat) : Int))))
     (br (((x5.2.2.1 == x5.1) == x5.2.1))
      (∃ h7 : (((0 : Int) ≤ x5.2.2.1) ∧ ((Int.toNat x5.2.2.1) < (List.length x5.2.2.2.2.1))),
      (((List.length x5.2.2.2.2.2.2.2.2.1) + (List.length ((x5.2.2.2.2.1[(Int.toNat x5.2.2.1)]'h7.2).1 :: ([] : List Int)))) ≤ Go.Abs.big) ∧
      (Go.Abs.fitsK Go.IntKind.i64 (x5.2.2.1 + (1 : Int))) ∧
      (K5 (x5.1, (x5.2.1, ((x5.2.2.1 + (1 : Int)), (x5.2.2.2.1, (x5.2.2.2.2.1, (x5.2.2.2.2.2.1, (x5.2.2.2.2.2.2.1, (x5.2.2.2.2.2.2.2.1, ((x5.2.2.2.2.2.2.2.2.1 ++ ((x5.2.2.2.2.1[(Int.toNat x5.2.2.1)]'h7.2).1 :: ([] : List Int))), ())))))))))))
      (∃ h7 : (((0 : Int) ≤ x5.2.2.1) ∧ ((Int.toNat x5.2.2.1) < (List.length x5.2.2.2.2.1))),
      (((List.length x5.2.2.2.2.2.2.2.2.1) + (List.length ((x5.2.2.2.2.1[(Int.toNat x5.2.2.1)]'h7.2).2 :: ([] : List Int)))) ≤ Go.Abs.big) ∧
      (Go.Abs.fitsK Go.IntKind.i64 (x5.2.2.1 + (1 : Int))) ∧
      (K5 (x5.1, (x5.2.1, ((x5.2.2.1 + (1 : Int)), (x5.2.2.2.1, (x5.2.2.2.2.1, (x5.2.2.2.2.2.1, (x5.2.2.2.2.2.2.1, (x5.2.2.2.2.2.2.2.1, ((x5.2.2.2.2.2.2.2.2.1 ++ ((x5.2.2.2.2.1[(Int.toNat x5.2.2.1)]'h7.2).2 :: ([] : List Int))), ()))))))))))))
     ((k (Go.Abs.AVal.agg ((Go.Abs.AVal.int Go.IntKind.i64 x5.2.2.2.2.2.2.1) :: ((Go.Abs.AVal.imm (Go.Abs.Ty.int Go.IntKind.i64) x5.2.2.2.2.2.2.2.2.1 Bool.false) :: []))) []))) ((f, (b, ((0 : Int), (pr, (rs, ((0 : Int), (pr, (([] : List Int), (([] : List Int), ()))))))))))
theorem eq73 (pr : Int) (rs : List (Int × Int)) (f : Int) (b : Bool) (k : AVal → List Cont → Prop) : awpF (envOf []) Try.prog kt 73 true Try.f73 (v73.args (pr, rs, f, b, ())) (v73.conts (pr, rs, f, b, ())) k = vc73 pr rs f b k := by kernel_rfl
theorem tx73 : (Try.f73.body.map Code.textsOk).getD true = true := by kernel_rfl

def vc38 (pr : Int) (rs : List (Int × Int)) (f : Int) (k : AVal → List Cont → Prop) : Prop :=
  (Go.Abs.Farm.v40.p (pr, (rs, ()))) ∧
  br (((Go.Abs.Farm.roughErr pr rs) != (0 : Int)))
   ((k (Go.Abs.AVal.tup ((Go.Abs.AVal.agg ((Go.Abs.AVal.int Go.IntKind.i64 (0 : Int)) :: ((Go.Abs.AVal.int Go.IntKind.i64 (0 : Int)) :: []))) :: ((Go.Abs.AVal.int Go.IntKind.i64 (Go.Abs.Farm.roughErr pr rs)) :: []))) []))
   ((Go.Abs.fitsK Go.IntKind.i64 ((((List.length rs) : Nat) : Int) - (1 : Int))) ∧
   (Go.Abs.Farm.v56.p ((0 : Int), (((((List.length rs) : Nat) : Int) - (1 : Int)), ((f :: ([] : List Int)), ())))) ∧
   br ((Bool.not (Bool.not (Go.Abs.Farm.anyOut (0 : Int) ((((List.length rs) : Nat) : Int) - (1 : Int)) (f :: ([] : List Int))))))
    ((k (Go.Abs.AVal.tup ((Go.Abs.AVal.agg ((Go.Abs.AVal.int Go.IntKind.i64 (0 : Int)) :: ((Go.Abs.AVal.int Go.IntKind.i64 (0 : Int)) :: []))) :: ((Go.Abs.AVal.int Go.IntKind.i64 (2 : Int)) :: []))) []))
    ((((0 : Int) ≤ (((List.length rs) : Nat) : Int)) ∧ (((((List.length rs) : Nat) : Int) = (((List.length rs) : Nat) : Int)) ∧ ((((List.length rs) : Nat) : Int) ≤ ((Go.Abs.big : Nat) : Int)))) ∧
    (((0 : Int) ≤ (((List.length rs) : Nat) : Int)) ∧ (((((List.length rs) : Nat) : Int) = (((List.length rs) : Nat) : Int)) ∧ ((((List.length rs) : Nat) : Int) ≤ ((Go.Abs.big : Nat) : Int)))) ∧
    Go.Abs.Loop (σ := (Int × ((List (Int × Int)) × (Int × (Int × (Int × ((List (Int × Int)) × (Int × (Int × ((List Int) × ((List Int) × Unit))))))))))) (fun K4 x4 =>
      br ((decide (x4.2.2.2.1 < x4.2.2.1)))
       (∃ h6 : (((0 : Int) ≤ x4.2.2.2.1) ∧ ((Int.toNat x4.2.2.2.1) < (List.length x4.2.1))),
       (((0 : Int) ≤ x4.2.2.2.1) ∧ ((Int.toNat x4.2.2.2.1) < (List.length x4.2.2.2.2.2.2.2.2.1))) ∧
       ∃ h7 : ((Int.toNat x4.2.2.2.1) < (List.length x4.2.2.2.2.2.2.2.2.1)),
       (((0 : Int) ≤ x4.2.2.2.1) ∧ ((Int.toNat x4.2.2.2.1) < (List.length x4.2.2.2.2.2.2.2.2.2.1))) ∧
       ∃ h8 : ((Int.toNat x4.2.2.2.1) < (List.length x4.2.2.2.2.2.2.2.2.2.1)),
       (Go.Abs.fitsK Go.IntKind.i64 (x4.2.2.2.1 + (1 : Int))) ∧
       (K4 (x4.1, (x4.2.1, (x4.2.2.1, ((x4.2.2.2.1 + (1 : Int)), (x4.2.2.2.2.1, (x4.2.2.2.2.2.1, (x4.2.2.2.2.2.2.1, (x4.2.2.2.2.2.2.2.1, ((List.set x4.2.2.2.2.2.2.2.2.1 (Int.toNat x4.2.2.2.1) (x4.2.1[(Int.toNat x4.2.2.2.1)]'h6.2).2), ((List.set x4.2.2.2.2.2.2.2.2.2.1 (Int.toNat x4.2.2.2.1) (x4.2.1[(Int.toNat x4.2.2.2.1)]'h6.2).1), ()))))))))))))
       (∃ h6 : (((0 : Int) ≤ x4.1) ∧ ((Int.toNat x4.1) < (List.length x4.2.2.2.2.2.1))),
       ∃ h7 : (((0 : Int) ≤ x4.1) ∧ ((Int.toNat x4.1) < (List.length x4.2.2.2.2.2.1))),
       (((0 : Int) ≤ x4.1) ∧ ((Int.toNat x4.1) < (List.length x4.2.2.2.2.2.2.2.2.1))) ∧
       ∃ h8 : ((Int.toNat x4.1) < (List.length x4.2.2.2.2.2.2.2.2.1)),
       (((0 : Int) ≤ x4.1) ∧ ((Int.toNat x4.1) < (List.length x4.2.2.2.2.2.2.2.2.2.1))) ∧
       ∃ h9 : ((Int.toNat x4.1) < (List.length x4.2.2.2.2.2.2.2.2.2.1)),
       (Go.Abs.Farm.v59.p (x4.2.2.2.2.1, ((List.set x4.2.2.2.2.2.2.2.2.1 (Int.toNat x4.1) (x4.2.2.2.2.2.1[(Int.toNat x4.1)]'h6.2).1), (x4.2.2.2.2.1, ())))) ∧
       ∃ h10 : (((0 : Int) ≤ x4.1) ∧ ((Int.toNat x4.1) < (List.length (Go.Abs.Farm.fair8 x4.2.2.2.2.1 (List.set x4.2.2.2.2.2.2.2.2.1 (Int.toNat x4.1) (x4.2.2.2.2.2.1[(Int.toNat x4.1)]'h6.2).1))))),
       ((Int.toNat x4.1) < (8 : Nat)) ∧
       ((List.length (Go.Abs.Farm.fair8 x4.2.2.2.2.1 (List.set x4.2.2.2.2.2.2.2.2.1 (Int.toNat x4.1) (x4.2.2.2.2.2.1[(Int.toNat x4.1)]'h6.2).1))) = (8 : Nat)) ∧
       (Go.Abs.Farm.v59.p (x4.2.2.2.2.1, ((List.set x4.2.2.2.2.2.2.2.2.2.1 (Int.toNat x4.1) (x4.2.2.2.2.2.1[(Int.toNat x4.1)]'h7.2).2), (x4.2.2.2.2.1, ())))) ∧
       ∃ h11 : (((0 : Int) ≤ x4.1) ∧ ((Int.toNat x4.1) < (List.length (Go.Abs.Farm.fair8 x4.2.2.2.2.1 (List.set x4.2.2.2.2.2.2.2.2.2.1 (Int.toNat x4.1) (x4.2.2.2.2.2.1[(Int.toNat x4.1)]'h7.2).2))))),
       ((Int.toNat x4.1) < (8 : Nat)) ∧
       ((List.length (Go.Abs.Farm.fair8 x4.2.2.2.2.1 (List.set x4.2.2.2.2.2.2.2.2.2.1 (Int.toNat x4.1) (x4.2.2.2.2.2.1[(Int.toNat x4.1)]'h7.2).2))) = (8 : Nat)) ∧
       (k (Go.Abs.AVal.tup ((Go.Abs.AVal.agg ((Go.Abs.AVal.int Go.IntKind.i64 ((Go.Abs.Farm.fair8 x4.2.2.2.2.1 (List.set x4.2.2.2.2.2.2.2.2.1 (Int.toNat x4.1) (x4.2.2.2.2.2.1[(Int.toNat x4.1)]'h6.2).1))[(Int.toNat x4.1)]'h10.2)) :: ((Go.Abs.AVal.int Go.IntKind.i64 ((Go.Abs.Farm.fair8 x4.2.2.2.2.1 (List.set x4.2.2.2.2.2.2.2.2.2.1 (Int.toNat x4.1) (x4.2.2.2.2.2.1[(Int.toNat x4.1)]'h7.2).2))[(Int.toNat x4.1)]'h11.2)) :: []))) :: ((Go.Abs.AVal.int Go.IntKind.i64 (0 : Int)) :: []))) []))) ((f, (rs, ((((List.length rs) : Nat) : Int), ((0 : Int), (pr, (rs, ((0 : Int), ((0 : Int), ((List.replicate (Int.toNat (((List.length rs) : Nat) : Int)) (Int.ofNat 0)), ((List.replicate (Int.toNat (((List.length rs) : Nat) : Int)) (Int.ofNat 0)), ())))))))))))))
theorem eq38 (pr : Int) (rs : List (Int × Int)) (f : Int) (k : AVal → List Cont → Prop) : awpF (envOf [(40, mkC [v40]), (56, mkC [v56]), (59, mkC [v59])]) Try.prog kt 38 false Try.f38 (v38.args (pr, rs, f, ())) (v38.conts (pr, rs, f, ())) k = vc38 pr rs f k := by kernel_rfl
theorem tx38 : (Try.f38.body.map Code.textsOk).getD true = true := by kernel_rfl

def vc39 (pr : Int) (rs : List (Int × Int)) (f : Int) (k : AVal → List Cont → Prop) : Prop :=
  (Go.Abs.Farm.v41.p (pr, (rs, ()))) ∧
  br (((Go.Abs.Farm.roughErr pr rs) != (0 : Int)))
   ((Go.Abs.Farm.v41.p (pr, (rs, ()))) ∧
   (k (Go.Abs.AVal.tup ((Go.Abs.AVal.agg ((Go.Abs.AVal.int Go.IntKind.i64 (0 : Int)) :: ((Go.Abs.AVal.int Go.IntKind.i64 (0 : Int)) :: []))) :: ((Go.Abs.AVal.int Go.IntKind.i64 (Go.Abs.Farm.roughErr pr rs)) :: []))) []))
   (br (((decide (f < (0 : Int))) == Bool.false))
    (br ((decide (f ≥ (((List.length rs) : Nat) : Int))))
     ((k (Go.Abs.AVal.tup ((Go.Abs.AVal.agg ((Go.Abs.AVal.int Go.IntKind.i64 (0 : Int)) :: ((Go.Abs.AVal.int Go.IntKind.i64 (0 : Int)) :: []))) :: ((Go.Abs.AVal.int Go.IntKind.i64 (2 : Int)) :: []))) []))
     ((Go.Abs.Farm.v73.p (pr, (rs, (f, (Bool.true, ()))))) ∧
     (Go.Abs.Farm.v60.p (pr, ((Go.Abs.Farm.truthOf rs f Bool.true), ()))) ∧
     (((0 : Int) ≤ f) ∧ ((Int.toNat f) < (List.length (Go.Abs.Farm.fairOf pr (Go.Abs.Farm.truthOf rs f Bool.true))))) ∧
     ∃ h4 : ((Int.toNat f) < (List.length (Go.Abs.Farm.fairOf pr (Go.Abs.Farm.truthOf rs f Bool.true)))),
     (Go.Abs.Farm.v73.p (pr, (rs, (f, (Bool.false, ()))))) ∧
     (Go.Abs.Farm.v60.p (pr, ((Go.Abs.Farm.truthOf rs f Bool.false), ()))) ∧
     (((0 : Int) ≤ f) ∧ ((Int.toNat f) < (List.length (Go.Abs.Farm.fairOf pr (Go.Abs.Farm.truthOf rs f Bool.false))))) ∧
     ∃ h5 : ((Int.toNat f) < (List.length (Go.Abs.Farm.fairOf pr (Go.Abs.Farm.truthOf rs f Bool.false)))),
     (k (Go.Abs.AVal.tup ((Go.Abs.AVal.agg ((Go.Abs.AVal.int Go.IntKind.i64 ((Go.Abs.Farm.fairOf pr (Go.Abs.Farm.truthOf rs f Bool.true))[(Int.toNat f)]'h4)) :: ((Go.Abs.AVal.int Go.IntKind.i64 ((Go.Abs.Farm.fairOf pr (Go.Abs.Farm.truthOf rs f Bool.false))[(Int.toNat f)]'h5)) :: []))) :: ((Go.Abs.AVal.int Go.IntKind.i64 (0 : Int)) :: []))) [])))
    ((k (Go.Abs.AVal.tup ((Go.Abs.AVal.agg ((Go.Abs.AVal.int Go.IntKind.i64 (0 : Int)) :: ((Go.Abs.AVal.int Go.IntKind.i64 (0 : Int)) :: []))) :: ((Go.Abs.AVal.int Go.IntKind.i64 (2 : Int)) :: []))) [])))
theorem eq39 (pr : Int) (rs : List (Int × Int)) (f : Int) (k : AVal → List Cont → Prop) : awpF (envOf [(41, mkC [v41]), (73, mkC [v73]), (60, mkC [v60])]) Try.prog kt 39 false Try.f39 (v39.args (pr, rs, f, ())) (v39.conts (pr, rs, f, ())) k = vc39 pr rs f k := by kernel_rfl
theorem tx39 : (Try.f39.body.map Code.textsOk).getD true = true := by kernel_rfl

def vc44 (pr : Int) (cl : List Int) (by8 : List Int) (k : AVal → List Cont → Prop) : Prop :=
  (Go.Abs.Farm.v60.p (pr, (cl, ()))) ∧
  Go.Abs.Loop (σ := ((List Int) × (Int × ((List Int) × Unit)))) (fun K4 x4 =>
    (Go.Abs.fitsK Go.IntKind.i64 (x4.2.1 + (1 : Int))) ∧
    br ((decide ((x4.2.1 + (1 : Int)) < (((List.length x4.1) : Nat) : Int))))
     (∃ h6 : (((0 : Int) ≤ x4.2.1) ∧ ((Int.toNat x4.2.1) < (List.length x4.1))),
     (Go.Abs.fitsK Go.IntKind.i64 (x4.1[(Int.toNat x4.2.1)]'h6.2)) ∧
     (((0 : Int) ≤ (x4.1[(Int.toNat x4.2.1)]'h6.2)) ∧ ((0 : Int) < (((List.length x4.2.2.1) : Nat) : Int))) ∧
     (Go.Abs.fitsK Go.IntKind.i64 (x4.2.1 + (1 : Int))) ∧
     ∃ h7 : (((0 : Int) ≤ (x4.2.1 + (1 : Int))) ∧ ((Int.toNat (x4.2.1 + (1 : Int))) < (List.length x4.1))),
     (Go.Abs.fitsK Go.IntKind.i64 (x4.1[(Int.toNat (x4.2.1 + (1 : Int)))]'h7.2)) ∧
     (((0 : Int) ≤ (x4.1[(Int.toNat (x4.2.1 + (1 : Int)))]'h7.2)) ∧ ((0 : Int) < (((List.length x4.2.2.1) : Nat) : Int))) ∧
     (((0 : Int) ≤ (HMod.hMod (x4.1[(Int.toNat x4.2.1)]'h6.2) (((List.length x4.2.2.1) : Nat) : Int))) ∧ ((Int.toNat (HMod.hMod (x4.1[(Int.toNat x4.2.1)]'h6.2) (((List.length x4.2.2.1) : Nat) : Int))) < (List.length x4.2.2.1))) ∧
     ∃ h8 : ((Int.toNat (HMod.hMod (x4.1[(Int.toNat x4.2.1)]'h6.2) (((List.length x4.2.2.1) : Nat) : Int))) < (List.length x4.2.2.1)),
     br ((decide ((x4.2.2.1[(Int.toNat (HMod.hMod (x4.1[(Int.toNat x4.2.1)]'h6.2) (((List.length x4.2.2.1) : Nat) : Int)))]'h8) > (0 : Int))))
      ((((0 : Int) ≤ (HMod.hMod (x4.1[(Int.toNat x4.2.1)]'h6.2) (((List.length x4.2.2.1) : Nat) : Int))) ∧ ((Int.toNat (HMod.hMod (x4.1[(Int.toNat x4.2.1)]'h6.2) (((List.length x4.2.2.1) : Nat) : Int))) < (List.length x4.2.2.1))) ∧
      ∃ h9 : ((Int.toNat (HMod.hMod (x4.1[(Int.toNat x4.2.1)]'h6.2) (((List.length x4.2.2.1) : Nat) : Int))) < (List.length x4.2.2.1)),
      (Go.Abs.fitsK Go.IntKind.i64 ((x4.2.2.1[(Int.toNat (HMod.hMod (x4.1[(Int.toNat x4.2.1)]'h6.2) (((List.length x4.2.2.1) : Nat) : Int)))]'h9) - (1 : Int))) ∧
      (((0 : Int) ≤ (HMod.hMod (x4.1[(Int.toNat x4.2.1)]'h6.2) (((List.length x4.2.2.1) : Nat) : Int))) ∧ ((Int.toNat (HMod.hMod (x4.1[(Int.toNat x4.2.1)]'h6.2) (((List.length x4.2.2.1) : Nat) : Int))) < (List.length x4.2.2.1))) ∧
      ∃ h10 : ((Int.toNat (HMod.hMod (x4.1[(Int.toNat x4.2.1)]'h6.2) (((List.length x4.2.2.1) : Nat) : Int))) < (List.length x4.2.2.1)),
      (((0 : Int) ≤ (HMod.hMod (x4.1[(Int.toNat (x4.2.1 + (1 : Int)))]'h7.2) (((List.length x4.2.2.1) : Nat) : Int))) ∧ ((Int.toNat (HMod.hMod (x4.1[(Int.toNat (x4.2.1 + (1 : Int)))]'h7.2) (((List.length x4.2.2.1) : Nat) : Int))) < (List.length (List.set x4.2.2.1 (Int.toNat (HMod.hMod (x4.1[(Int.toNat x4.2.1)]'h6.2) (((List.length x4.2.2.1) : Nat) : Int))) ((x4.2.2.1[(Int.toNat (HMod.hMod (x4.1[(Int.toNat x4.2.1)]'h6.2) (((List.length x4.2.2.1) : Nat) : Int)))]'h9) - (1 : Int)))))) ∧
      ∃ h11 : ((Int.toNat (HMod.hMod (x4.1[(Int.toNat (x4.2.1 + (1 : Int)))]'h7.2) (((List.length x4.2.2.1) : Nat) : Int))) < (List.length (List.set x4.2.2.1 (Int.toNat (HMod.hMod (x4.1[(Int.toNat x4.2.1)]'h6.2) (((List.length x4.2.2.1) : Nat) : Int))) ((x4.2.2.1[(Int.toNat (HMod.hMod (x4.1[(Int.toNat x4.2.1)]'h6.2) (((List.length x4.2.2.1) : Nat) : Int)))]'h9) - (1 : Int))))),
      (Go.Abs.fitsK Go.IntKind.i64 (((List.set x4.2.2.1 (Int.toNat (HMod.hMod (x4.1[(Int.toNat x4.2.1)]'h6.2) (((List.length x4.2.2.1) : Nat) : Int))) ((x4.2.2.1[(Int.toNat (HMod.hMod (x4.1[(Int.toNat x4.2.1)]'h6.2) (((List.length x4.2.2.1) : Nat) : Int)))]'h9) - (1 : Int)))[(Int.toNat (HMod.hMod (x4.1[(Int.toNat (x4.2.1 + (1 : Int)))]'h7.2) (((List.length x4.2.2.1) : Nat) : Int)))]'h11) + (1 : Int))) ∧
      (((0 : Int) ≤ (HMod.hMod (x4.1[(Int.toNat (x4.2.1 + (1 : Int)))]'h7.2) (((List.length x4.2.2.1) : Nat) : Int))) ∧ ((Int.toNat (HMod.hMod (x4.1[(Int.toNat (x4.2.1 + (1 : Int)))]'h7.2) (((List.length x4.2.2.1) : Nat) : Int))) < (List.length (List.set x4.2.2.1 (Int.toNat (HMod.hMod (x4.1[(Int.toNat x4.2.1)]'h6.2) (((List.length x4.2.2.1) : Nat) : Int))) ((x4.2.2.1[(Int.toNat (HMod.hMod (x4.1[(Int.toNat x4.2.1)]'h6.2) (((List.length x4.2.2.1) : Nat) : Int)))]'h9) - (1 : Int)))))) ∧
      ∃ h12 : ((Int.toNat (HMod.hMod (x4.1[(Int.toNat (x4.2.1 + (1 : Int)))]'h7.2) (((List.length x4.2.2.1) : Nat) : Int))) < (List.length (List.set x4.2.2.1 (Int.toNat (HMod.hMod (x4.1[(Int.toNat x4.2.1)]'h6.2) (((List.length x4.2.2.1) : Nat) : Int))) ((x4.2.2.1[(Int.toNat (HMod.hMod (x4.1[(Int.toNat x4.2.1)]'h6.2) (((List.length x4.2.2.1) : Nat) : Int)))]'h9) - (1 : Int))))),
      (Go.Abs.fitsK Go.IntKind.i64 (x4.2.1 + (2 : Int))) ∧
      (K4 (x4.1, ((x4.2.1 + (2 : Int)), ((List.set (List.set x4.2.2.1 (Int.toNat (HMod.hMod (x4.1[(Int.toNat x4.2.1)]'h6.2) (((List.length x4.2.2.1) : Nat) : Int))) ((x4.2.2.1[(Int.toNat (HMod.hMod (x4.1[(Int.toNat x4.2.1)]'h6.2) (((List.length x4.2.2.1) : Nat) : Int)))]'h9) - (1 : Int))) (Int.toNat (HMod.hMod (x4.1[(Int.toNat (x4.2.1 + (1 : Int)))]'h7.2) (((List.length x4.2.2.1) : Nat) : Int))) (((List.set x4.2.2.1 (Int.toNat (HMod.hMod (x4.1[(Int.toNat x4.2.1)]'h6.2) (((List.length x4.2.2.1) : Nat) : Int))) ((x4.2.2.1[(Int.toNat (HMod.hMod (x4.1[(Int.toNat x4.2.1)]'h6.2) (((List.length x4.2.2.1) : Nat) : Int)))]'h9) - (1 : Int)))[(Int.toNat (HMod.hMod (x4.1[(Int.toNat (x4.2.1 + (1 : Int)))]'h7.2) (((List.length x4.2.2.1) : Nat) : Int)))]'h11) + (1 : Int))), ())))))
      ((Go.Abs.fitsK Go.IntKind.i64 (x4.2.1 + (2 : Int))) ∧
      (K4 (x4.1, ((x4.2.1 + (2 : Int)), (x4.2.2.1, ()))))))
     ((k (Go.Abs.AVal.imm (Go.Abs.Ty.int Go.IntKind.i64) x4.2.2.1 Bool.false) []))) ((by8, ((0 : Int), ((Go.Abs.Farm.fairOf pr cl), ()))))
theorem eq44 (pr : Int) (cl : List Int) (by8 : List Int) (k : AVal → List Cont → Prop) : awpF (envOf [(60, mkC [v60])]) Try.prog kt 44 true Try.f44 (v44.args (pr, cl, by8, ())) (v44.conts (pr, cl, by8, ())) k = vc44 pr cl by8 k := by kernel_rfl
theorem tx44 : (Try.f44.body.map Code.textsOk).getD true = true := by kernel_rfl

def vc51 (pr : Int) (rs : List (Int × Int)) (by8 : List Int) (k : AVal → List Cont → Prop) : Prop :=
  Go.Abs.Loop (σ := ((List Int) × (Int × (Int × ((List (Int × Int)) × (Int × (Int × ((List Int) × ((List Int) × Unit))))))))) (fun K4 x4 =>
    br ((decide (x4.2.1 < (((List.length x4.2.2.2.1) : Nat) : Int))))
     (br ((decide ((((List.length x4.1) : Nat) : Int) > (0 : Int))))
      ((((0 : Int) ≤ x4.2.1) ∧ ((0 : Int) < (((List.length x4.1) : Nat) : Int))) ∧
      ∃ h6 : (((0 : Int) ≤ (HMod.hMod x4.2.1 (((List.length x4.1) : Nat) : Int))) ∧ ((Int.toNat (HMod.hMod x4.2.1 (((List.length x4.1) : Nat) : Int))) < (List.length x4.1))),
      (Go.Abs.fitsK Go.IntKind.i64 (x4.1[(Int.toNat (HMod.hMod x4.2.1 (((List.length x4.1) : Nat) : Int)))]'h6.2)) ∧
      ∃ h7 : (((0 : Int) ≤ x4.2.1) ∧ ((Int.toNat x4.2.1) < (List.length x4.2.2.2.1))),
      ∃ h8 : (((0 : Int) ≤ x4.2.1) ∧ ((Int.toNat x4.2.1) < (List.length x4.2.2.2.1))),
      ∃ h9 : (((0 : Int) ≤ x4.2.1) ∧ ((Int.toNat x4.2.1) < (List.length x4.2.2.2.1))),
      (Go.Abs.fitsK Go.IntKind.i64 ((x4.2.2.2.1[(Int.toNat x4.2.1)]'h8.2).2 - (x4.2.2.2.1[(Int.toNat x4.2.1)]'h9.2).1)) ∧
      (Go.Abs.fitsK Go.IntKind.i64 (((x4.2.2.2.1[(Int.toNat x4.2.1)]'h8.2).2 - (x4.2.2.2.1[(Int.toNat x4.2.1)]'h9.2).1) + (1 : Int))) ∧
      (((0 : Int) ≤ (x4.1[(Int.toNat (HMod.hMod x4.2.1 (((List.length x4.1) : Nat) : Int)))]'h6.2)) ∧ ((0 : Int) < (((x4.2.2.2.1[(Int.toNat x4.2.1)]'h8.2).2 - (x4.2.2.2.1[(Int.toNat x4.2.1)]'h9.2).1) + (1 : Int)))) ∧
      (Go.Abs.fitsK Go.IntKind.i64 ((x4.2.2.2.1[(Int.toNat x4.2.1)]'h7.2).1 + (HMod.hMod (x4.1[(Int.toNat (HMod.hMod x4.2.1 (((List.length x4.1) : Nat) : Int)))]'h6.2) (((x4.2.2.2.1[(Int.toNat x4.2.1)]'h8.2).2 - (x4.2.2.2.1[(Int.toNat x4.2.1)]'h9.2).1) + (1 : Int))))) ∧
      (((List.length x4.2.2.2.2.2.2.2.1) + (List.length (((x4.2.2.2.1[(Int.toNat x4.2.1)]'h7.2).1 + (HMod.hMod (x4.1[(Int.toNat (HMod.hMod x4.2.1 (((List.length x4.1) : Nat) : Int)))]'h6.2) (((x4.2.2.2.1[(Int.toNat x4.2.1)]'h8.2).2 - (x4.2.2.2.1[(Int.toNat x4.2.1)]'h9.2).1) + (1 : Int)))) :: ([] : List Int)))) ≤ Go.Abs.big) ∧
      (Go.Abs.fitsK Go.IntKind.i64 (x4.2.1 + (1 : Int))) ∧
      (K4 (x4.1, ((x4.2.1 + (1 : Int)), (x4.2.2.1, (x4.2.2.2.1, (x4.2.2.2.2.1, (x4.2.2.2.2.2.1, (x4.2.2.2.2.2.2.1, ((x4.2.2.2.2.2.2.2.1 ++ (((x4.2.2.2.1[(Int.toNat x4.2.1)]'h7.2).1 + (HMod.hMod (x4.1[(Int.toNat (HMod.hMod x4.2.1 (((List.length x4.1) : Nat) : Int)))]'h6.2) (((x4.2.2.2.1[(Int.toNat x4.2.1)]'h8.2).2 - (x4.2.2.2.1[(Int.toNat x4.2.1)]'h9.2).1) + (1 : Int)))) :: ([] : List Int))), ()))))))))))
      (∃ h6 : (((0 : Int) ≤ x4.2.1) ∧ ((Int.toNat x4.2.1) < (List.length x4.2.2.2.1))),
      ∃ h7 : (((0 : Int) ≤ x4.2.1) ∧ ((Int.toNat x4.2.1) < (List.length x4.2.2.2.1))),
      ∃ h8 : (((0 : Int) ≤ x4.2.1) ∧ ((Int.toNat x4.2.1) < (List.length x4.2.2.2.1))),
      (Go.Abs.fitsK Go.IntKind.i64 ((x4.2.2.2.1[(Int.toNat x4.2.1)]'h7.2).2 - (x4.2.2.2.1[(Int.toNat x4.2.1)]'h8.2).1)) ∧
      (Go.Abs.fitsK Go.IntKind.i64 (((x4.2.2.2.1[(Int.toNat x4.2.1)]'h7.2).2 - (x4.2.2.2.1[(Int.toNat x4.2.1)]'h8.2).1) + (1 : Int))) ∧
      (((0 : Int) ≤ (0 : Int)) ∧ ((0 : Int) < (((x4.2.2.2.1[(Int.toNat x4.2.1)]'h7.2).2 - (x4.2.2.2.1[(Int.toNat x4.2.1)]'h8.2).1) + (1 : Int)))) ∧
      (Go.Abs.fitsK Go.IntKind.i64 ((x4.2.2.2.1[(Int.toNat x4.2.1)]'h6.2).1 + (HMod.hMod (0 : Int) (((x4.2.2.2.1[(Int.toNat x4.2.1)]'h7.2).2 - (x4.2.2.2.1[(Int.toNat x4.2.1)]'h8.2).1) + (1 : Int))))) ∧
      (((List.length x4.2.2.2.2.2.2.2.1) + (List.length (((x4.2.2.2.1[(Int.toNat x4.2.1)]'h6.2).1 + (HMod.hMod (0 : Int) (((x4.2.2.2.1[(Int.toNat x4.2.1)]'h7.2).2 - (x4.2.2.2.1[(Int.toNat x4.2.1)]'h8.2).1) + (1 : Int)))) :: ([] : List Int)))) ≤ Go.Abs.big) ∧
      (Go.Abs.fitsK Go.IntKind.i64 (x4.2.1 + (1 : Int))) ∧
      (K4 (x4.1, ((x4.2.1 + (1 : Int)), (x4.2.2.1, (x4.2.2.2.1, (x4.2.2.2.2.1, (x4.2.2.2.2.2.1, (x4.2.2.2.2.2.2.1, ((x4.2.2.2.2.2.2.2.1 ++ (((x4.2.2.2.1[(Int.toNat x4.2.1)]'h6.2).1 + (HMod.hMod (0 : Int) (((x4.2.2.2.1[(Int.toNat x4.2.1)]'h7.2).2 - (x4.2.2.2.1[(Int.toNat x4.2.1)]'h8.2).1) + (1 : Int)))) :: ([] : List Int))), ())))))))))))
     ((k (Go.Abs.AVal.agg ((Go.Abs.AVal.int Go.IntKind.i64 x4.2.2.2.2.2.1) :: ((Go.Abs.AVal.imm (Go.Abs.Ty.int Go.IntKind.i64) x4.2.2.2.2.2.2.2.1 Bool.false) :: []))) []))) ((by8, ((0 : Int), (pr, (rs, ((0 : Int), (pr, (([] : List Int), (([] : List Int), ())))))))))
theorem eq51 (pr : Int) (rs : List (Int × Int)) (by8 : List Int) (k : AVal → List Cont → Prop) : awpF (envOf []) Try.prog kt 51 true Try.f51 (v51.args (pr, rs, by8, ())) (v51.conts (pr, rs, by8, ())) k = vc51 pr rs by8 k := by kernel_rfl
theorem tx51 : (Try.f51.body.map Code.textsOk).getD true = true := by kernel_rfl

end Go.Abs.Farm
end

section
/- The farm's functions keep their contracts: near shares. -/
open Go.Proofs
set_option maxRecDepth 100000
set_option linter.unusedVariables false
namespace Go.Abs.Farm

theorem clean_mul {pr : Int} {cl : List Int} (hf : yearErr pr cl = 0) {i : Nat} (hi : i < cl.length) : 0 ≤ cl[i] * pr ∧ cl[i] * pr ≤ 20000 := by
  obtain ⟨f1, f2, f3, f4, f5, f6⟩ := fine_spec hf
  have h2 := f5 _ (List.getElem_mem hi)
  have := mul_in (A := 100) (B := 200) h2.1 h2.2 f1 f2
  exact ⟨this.1, by omega⟩
theorem rem_in {a t : Int} (ha : 0 ≤ a) (ht : 1 ≤ t) (ht2 : t ≤ 800) : 0 ≤ a % t ∧ a % t ≤ 800 := ⟨Int.emod_nonneg _ (by omega), by have := Int.emod_lt_of_pos a (show 0 < t by omega); omega⟩
theorem quo_in {a t : Int} (ha : 0 ≤ a) (ht : 1 ≤ t) : 0 ≤ a / t ∧ a / t ≤ a := ⟨Int.ediv_nonneg ha (by omega), Int.ediv_le_self _ ha⟩

theorem k64 (hG : Good Try.prog (envOf [])) : v64.Kept Try.prog 64 := by
  rintro ⟨a, b, pr, cl, t, ⟨⟩⟩ hpre k hk
  change Int at a b
  change Int at pr
  change List Int at cl
  change Int at t
  refine aspec hmix hG Try.func64 tx64 (Eq.mpr (eq64 a b pr cl t k) ?_)
  replace hk : k (rI (cmpR pr cl a b)) [] := hk
  unfold vc64
  obtain ⟨hf', ht', a0', a1', b0', b1'⟩ := hpre
  have hf : yearErr pr cl = 0 := hf'
  have ht : t = sumL cl := ht'
  have a0 : 0 ≤ a := a0'
  have a1 : a < (cl.length : Int) := a1'
  have b0 : 0 ≤ b := b0'
  have b1 : b < (cl.length : Int) := b1'
  subst ht
  obtain ⟨g1, g2, g3, g4⟩ := sum_ok hf
  have ia : a.toNat < cl.length := by omega
  have ib : b.toNat < cl.length := by omega
  have ma := clean_mul hf ia
  have mb := clean_mul hf ib
  have ra := rem_in ma.1 g3 g4
  have rb := rem_in mb.1 g3 g4
  have e : cmpR pr cl a b = cl[b.toNat] * pr % sumL cl - cl[a.toNat] * pr % sumL cl := by
    unfold cmpR at0
    rw [getD_at ia, getD_at ib]
  rw [e] at hk
  exact ⟨⟨b0, ib⟩, fits64 (by omega) (by omega), ⟨mb.1, by omega⟩, ⟨a0, ia⟩, fits64 (by omega) (by omega), ⟨ma.1, by omega⟩, fits64 (by omega) (by omega), hk⟩

/-! ### insertion -/
theorem insR_len (pr : Int) (cl : List Int) (x : Int) : ∀ R : List Int, (insR pr cl x R).length = R.length + 1
  | [] => rfl
  | p :: R => by
    unfold insR
    split
    · simp [insR_len pr cl x R]
    · simp
theorem isort_append (pr : Int) (cl : List Int) (l : List Int) (x : Int) : isort pr cl (l ++ [x]) = (insR pr cl x (isort pr cl l).reverse).reverse := by
  unfold isort
  rw [List.foldl_append, List.foldl_cons, List.foldl_nil, List.reverse_reverse]
theorem isort_len (pr : Int) (cl : List Int) (l : List Int) : (isort pr cl l).length = l.length := by
  unfold isort
  rw [List.length_reverse]
  have : ∀ (l R : List Int), (l.foldl (fun R x => insR pr cl x R) R).length = R.length + l.length := by
    intro l
    induction l with
    | nil => intro R; rfl
    | cons x l ih => intro R; rw [List.foldl_cons, ih, insR_len, List.length_cons]; omega
  rw [this]; simp
theorem insR_mem (pr : Int) (cl : List Int) (x y : Int) : ∀ R : List Int, y ∈ insR pr cl x R ↔ y = x ∨ y ∈ R
  | [] => by simp [insR]
  | p :: R => by
    unfold insR
    split
    · rw [List.mem_cons, insR_mem pr cl x y R, List.mem_cons]
      constructor
      · rintro (h | h | h)
        · exact .inr (.inl h)
        · exact .inl h
        · exact .inr (.inr h)
      · rintro (h | h | h)
        · exact .inr (.inl h)
        · exact .inl h
        · exact .inr (.inr h)
    · rw [List.mem_cons]
theorem isort_mem (pr : Int) (cl : List Int) (l : List Int) (y : Int) : y ∈ isort pr cl l ↔ y ∈ l := by
  unfold isort
  rw [List.mem_reverse]
  have : ∀ (l R : List Int), y ∈ (l.foldl (fun R x => insR pr cl x R) R) ↔ y ∈ R ∨ y ∈ l := by
    intro l
    induction l with
    | nil => intro R; simp
    | cons x l ih =>
      intro R
      rw [List.foldl_cons, ih, insR_mem, List.mem_cons]
      constructor
      · rintro ((h | h) | h)
        · exact .inr (.inl h)
        · exact .inl h
        · exact .inr (.inr h)
      · rintro (h | h | h)
        · exact .inl (.inr h)
        · exact .inl (.inl h)
        · exact .inr h
  rw [this]; simp
theorem insR_pass {pr : Int} {cl : List Int} {x : Int} : ∀ (R1 R2 : List Int), (∀ p ∈ R1, cmpR pr cl x p < 0) → insR pr cl x (R1 ++ R2) = R1 ++ insR pr cl x R2
  | [], R2, _ => rfl
  | p :: R1, R2, h => by
    show insR pr cl x (p :: (R1 ++ R2)) = _
    rw [insR, if_pos (h p (by simp)), insR_pass R1 R2 (fun q hq => h q (by simp [hq]))]; rfl
/-- Where an element comes to stand. -/
theorem ins_at {pr : Int} {cl : List Int} {x : Int} {P : List Int} {j : Nat} (hj : j ≤ P.length) (h1 : ∀ p ∈ P.drop j, cmpR pr cl x p < 0) (h2 : ∀ (h : 0 < j), ¬ cmpR pr cl x (P[j - 1]'(by omega)) < 0) :
    (insR pr cl x P.reverse).reverse = P.take j ++ x :: P.drop j := by
  have e : P.reverse = (P.drop j).reverse ++ (P.take j).reverse := by rw [← List.reverse_append, List.take_append_drop]
  rw [e, insR_pass _ _ (fun p hp => h1 p (List.mem_reverse.1 hp))]
  have e2 : insR pr cl x (P.take j).reverse = x :: (P.take j).reverse := by
    rcases Nat.eq_zero_or_pos j with h | h
    · subst h; rfl
    · have e3 : P.take j = P.take (j - 1) ++ [P[j - 1]'(by omega)] := by
        have := List.take_succ_eq_append_getElem (l := P) (i := j - 1) (by omega)
        rw [show j - 1 + 1 = j by omega] at this
        exact this
      rw [e3, List.reverse_append, List.reverse_singleton]
      show insR pr cl x (P[j - 1]'(by omega) :: (P.take (j - 1)).reverse) = _
      rw [insR, if_neg (h2 h)]; rfl
  rw [e2]
  simp
theorem mid_get {A B : List Int} {p x : Int} (h1 : A.length < (A ++ p :: x :: B).length) (h2 : A.length + 1 < (A ++ p :: x :: B).length) : (A ++ p :: x :: B)[A.length] = p ∧ (A ++ p :: x :: B)[A.length + 1] = x := by
  constructor
  · rw [List.getElem_append_right (Nat.le_refl _)]; simp
  · rw [List.getElem_append_right (by omega)]; simp
theorem mid_swap (A B : List Int) (p x : Int) : ((A ++ p :: x :: B).set (A.length + 1) p).set A.length x = A ++ x :: p :: B := by
  rw [List.set_append_right _ _ (by omega), List.set_append_right _ _ (Nat.le_refl _)]
  simp

abbrev SInv (n : Nat) (pr : Int) (cl l : List Int) (i : Nat) (s : Int × (Int × (Int × (List Int × (Int × (Int × (Int × (List Int × Unit)))))))) : Prop :=
  ∃ j : Nat, j ≤ i ∧ s = (0, (n : Int), pr, cl, sumL cl, (i : Int), (j : Int), (isort pr cl (l.take i)).take j ++ l.getD i 0 :: ((isort pr cl (l.take i)).drop j ++ l.drop (i + 1)), ()) ∧
    ∀ p ∈ (isort pr cl (l.take i)).drop j, cmpR pr cl (l.getD i 0) p < 0

theorem k95 (hG : Good Try.prog (envOf [(64, mkC [v64])])) : v95.Kept Try.prog 95 := by
  rintro ⟨a, b, pr, cl, t, l, ⟨⟩⟩ hpre k hk
  change Int at a b
  change Int at pr
  change List Int at cl
  change Int at t
  change List Int at l
  refine aspec hmix hG Try.func95 tx95 (Eq.mpr (eq95 a b pr cl t l k) ?_)
  replace hk : k (.tup []) [.sl (.int .i64) (isort pr cl l)] := hk
  unfold vc95
  obtain ⟨hf', ht', hin', ha', hb', hl'⟩ := hpre
  have hf : yearErr pr cl = 0 := hf'
  have ht : t = sumL cl := ht'
  have hin : ∀ x ∈ l, 0 ≤ x ∧ x < (cl.length : Int) := hin'
  have ha : a = 0 := ha'
  have hb : b = (l.length : Int) := hb'
  have hl : l.length ≤ 8 := hl'
  subst ht; subst ha; subst hb
  refine ⟨fits64 (by omega) (by omega), ?_⟩
  rcases Nat.eq_zero_or_pos l.length with h0 | h0
  · have e := List.eq_nil_of_length_eq_zero h0
    subst e
    refine Loop.upto (fun i => (0, ((0 : Nat) : Int), pr, cl, sumL cl, 1, [], ())) (fun i => True) 0 rfl trivial (fun i K hi => absurd hi (Nat.not_lt_zero _)) ?_
    intro K _
    dsimp only
    rw [br_decide]
    exact ⟨fun h => absurd h (by decide), fun _ => hk⟩
  have hlast : (l.length : Int) = ((l.length - 1 : Nat) : Int) + 1 := by omega
  refine Loop.upto (fun i => (0, (l.length : Int), pr, cl, sumL cl, ((i + 1 : Nat) : Int), isort pr cl (l.take (i + 1)) ++ l.drop (i + 1), ())) (fun i => True) (l.length - 1) ?_ trivial ?_ ?_
  · have e1 : l.take 1 = [l[0]] := by
      have := List.take_succ_eq_append_getElem (l := l) (i := 0) h0
      simpa using this
    have e2 : isort pr cl (l.take (0 + 1)) ++ l.drop (0 + 1) = l := by
      show isort pr cl (l.take 1) ++ l.drop 1 = l
      rw [e1]
      show [l[0]] ++ l.drop 1 = l
      rw [← e1, List.take_append_drop]
    show (0, (l.length : Int), pr, cl, sumL cl, ((0 + 1 : Nat) : Int), isort pr cl (l.take (0 + 1)) ++ l.drop (0 + 1), ()) = _
    rw [e2]; rfl
  · intro i0 K hi0 _ hK
    have hK := hK trivial
    dsimp only
    rw [br_decide]
    refine ⟨fun _ => ?_, fun h => absurd hi0 (by omega)⟩
    generalize hi' : i0 + 1 = i at hK ⊢
    have hi : i < l.length := by omega
    have hPl : (isort pr cl (l.take i)).length = i := by rw [isort_len, List.length_take]; omega
    have hx : l.getD i 0 = l[i] := getD_at hi
    have hxin := hin _ (List.getElem_mem hi)
    have hPin : ∀ p ∈ isort pr cl (l.take i), 0 ≤ p ∧ p < (cl.length : Int) := fun p hp => hin p (List.mem_of_mem_take ((isort_mem _ _ _ _).1 hp))
    refine Loop.intro (SInv l.length pr cl l i) (fun s => s.2.2.2.2.2.2.1.toNat) ?_ ⟨i, Nat.le_refl _, ?_, ?_⟩
    · rintro s K2 ⟨j, hj, rfl, hp⟩ hK2
      dsimp only
      rw [br_true]
      generalize hP : isort pr cl (l.take i) = P at hPl hPin hp hK2 ⊢
      have next : isort pr cl (l.take (i + 1)) = (insR pr cl (l.getD i 0) P.reverse).reverse := by
        rw [List.take_succ_eq_append_getElem hi, isort_append, hP, hx]
      have done : (∀ (h : 0 < j), ¬ cmpR pr cl (l.getD i 0) (P[j - 1]'(by omega)) < 0) → isort pr cl (l.take (i + 1)) ++ l.drop (i + 1) = P.take j ++ l.getD i 0 :: (P.drop j ++ l.drop (i + 1)) := fun h => by
        rw [next, ins_at (by omega) hp h]; simp
      have e1 : ((i : Int) + 1) = ((i + 1 : Nat) : Int) := rfl
      refine ⟨fun hj0 => ?_, fun hj0 => ⟨fits64 (by omega) (by omega), ?_⟩⟩
      · obtain ⟨q, rfl⟩ : ∃ q, j = q + 1 := ⟨j - 1, by omega⟩
        have hq : q < P.length := by omega
        have eP : P.take (q + 1) ++ l.getD i 0 :: (P.drop (q + 1) ++ l.drop (i + 1)) = P.take q ++ P[q] :: l.getD i 0 :: (P.drop (q + 1) ++ l.drop (i + 1)) := by
          rw [List.take_succ_eq_append_getElem hq, List.append_assoc]; rfl
        have hlq : (P.take q).length = q := by rw [List.length_take]; omega
        have hlen : (P.take q ++ P[q] :: l.getD i 0 :: (P.drop (q + 1) ++ l.drop (i + 1))).length = l.length := by simp; omega
        have ej : ((q + 1 : Nat) : Int).toNat = q + 1 := Int.toNat_natCast _
        have ej1 : (((q + 1 : Nat) : Int) - 1).toNat = q := by omega
        have ejq : ((q + 1 : Nat) : Int) - 1 = (q : Int) := by omega
        obtain ⟨m1, m2⟩ := mid_get (A := P.take q) (p := P[q]) (x := l.getD i 0) (B := P.drop (q + 1) ++ l.drop (i + 1)) (by rw [hlen]; omega) (by rw [hlen]; omega)
        have msw := mid_swap (P.take q) (P.drop (q + 1) ++ l.drop (i + 1)) P[q] (l.getD i 0)
        simp only [hlq] at m1 m2 msw
        have hPq := hPin _ (List.getElem_mem hq)
        rw [eP]
        simp only [ej, ej1]
        refine ⟨⟨by omega, by rw [hlen]; omega⟩, by rw [hlen]; omega, fits64 (by omega) (by omega), ⟨by omega, by rw [hlen]; omega⟩, by rw [hlen]; omega, ?_⟩
        rw [m1, m2]
        refine ⟨⟨hf, rfl, by rw [hx]; exact hxin.1, by show l.getD i 0 < (cl.length : Int); rw [hx]; exact hxin.2, hPq.1, hPq.2⟩, ?_⟩
        rw [br_decide]
        refine ⟨fun hc => ?_, fun hc => ⟨fits64 (by omega) (by omega), ?_⟩⟩
        · refine ⟨fits64 (by omega) (by omega), fits64 (by omega) (by omega), ⟨by omega, by rw [hlen]; omega⟩, by rw [hlen]; omega, ⟨by omega, by rw [hlen]; omega⟩, by rw [hlen]; omega, ⟨by omega, by rw [hlen]; omega⟩, by rw [hlen]; omega, ⟨by omega, by rw [List.length_set, hlen]; omega⟩, by rw [List.length_set, hlen]; omega, fits64 (by omega) (by omega), ?_⟩
          rw [m1, m2, msw]
          refine hK2 _ ⟨q, by omega, ?_, ?_⟩ (by show (((q + 1 : Nat) : Int) - 1).toNat < ((q + 1 : Nat) : Int).toNat; omega)
          · rw [ejq, hP]
            have : l.getD i 0 :: P[q] :: (P.drop (q + 1) ++ l.drop (i + 1)) = l.getD i 0 :: (P.drop q ++ l.drop (i + 1)) := by rw [List.drop_eq_getElem_cons hq]; rfl
            rw [this]
          · intro p hpm
            rw [hP, List.drop_eq_getElem_cons hq, List.mem_cons] at hpm
            rcases hpm with rfl | hpm
            · exact hc
            · exact hp p hpm
        · have := done (fun _ => by simpa using hc)
          rw [eP] at this
          rw [← this]
          exact hK
      · have := done (fun h => absurd h (by omega))
        rw [← this]
        exact hK
    · have e3 : (isort pr cl (l.take i)).take i = isort pr cl (l.take i) := List.take_of_length_le (by omega)
      have e4 : (isort pr cl (l.take i)).drop i = [] := List.drop_of_length_le (by omega)
      rw [e3, e4, hx, List.drop_eq_getElem_cons hi]; rfl
    · rw [List.drop_of_length_le (by omega)]; intro p hp; cases hp
  · intro K _
    dsimp only
    rw [br_decide]
    refine ⟨fun h => absurd h (by omega), fun _ => ?_⟩
    rw [show l.length - 1 + 1 = l.length by omega, List.take_of_length_le (Nat.le_refl _), List.drop_of_length_le (Nat.le_refl _), List.append_nil]
    exact hk

theorem k86 (hG : Good Try.prog (envOf [(95, mkC [v95])])) : v86.Kept Try.prog 86 := by
  rintro ⟨n, pr, cl, t, l, ⟨⟩⟩ hpre k hk
  change Int at n
  change Int at pr
  change List Int at cl
  change Int at t
  change List Int at l
  refine aspec hmix hG Try.func86 tx86 (Eq.mpr (eq86 n pr cl t l k) ?_)
  replace hk : k (.tup []) [.sl (.int .i64) (isort pr cl l)] := hk
  unfold vc86
  obtain ⟨hf, ht, hin, hn', hl'⟩ := hpre
  have hn : n = (l.length : Int) := hn'
  have hl : l.length ≤ 8 := hl'
  subst hn
  refine Loop.upto (fun i => ((l.length : Int), pr, cl, t, 20, 0, 20, l, ())) (fun i => True) 0 rfl trivial (fun i K hi => absurd hi (Nat.not_lt_zero _)) ?_
  intro K _
  dsimp only
  rw [br_decide]
  refine ⟨fun h => absurd h (by omega), fun _ => ⟨⟨hf, ht, hin, rfl, rfl, hl⟩, ?_⟩⟩
  refine Loop.upto (fun i => ((l.length : Int), pr, cl, t, 20, isort pr cl l, ())) (fun i => True) 0 rfl trivial (fun i K hi => absurd hi (Nat.not_lt_zero _)) ?_
  intro K _
  dsimp only
  rw [br_decide]
  exact ⟨fun h => absurd h (by omega), fun _ => hk⟩

theorem k63 (hG : Good Try.prog (envOf [(86, mkC [v86])])) : v63.Kept Try.prog 63 := by
  rintro ⟨pr, cl, t, l, ⟨⟩⟩ hpre k hk
  change Int at pr
  change List Int at cl
  change Int at t
  change List Int at l
  refine aspec hmix hG Try.func63 tx63 (Eq.mpr (eq63 pr cl t l k) ?_)
  replace hk : k (.tup []) [.sl (.int .i64) (isort pr cl l)] := hk
  unfold vc63
  obtain ⟨hf, ht, hin, hl⟩ := hpre
  exact ⟨⟨hf, ht, hin, rfl, hl⟩, hk⟩
end Go.Abs.Farm
end

section
/- The farm's functions keep their contracts: divisors, by the definition. -/
open Go.Proofs
set_option maxRecDepth 100000
set_option linter.unusedVariables false
namespace Go.Abs.Farm

theorem k71 (hG : Good Try.prog (envOf [(57, mkC [v57])])) : v71.Kept Try.prog 71 := by
  rintro ⟨pr, cl, f, c, ⟨⟩⟩ hpre k hk
  change Int at pr
  change List Int at cl
  change Int at f c
  refine aspec hmix hG Try.func71 tx71 (Eq.mpr (eq71 pr cl f c k) ?_)
  replace hk : k (two (byN (at0 cl f) c) (byD (at0 cl f) c)) [] := hk
  unfold vc71
  obtain ⟨⟨g1, g2⟩, ⟨f0, f1, c0, c1⟩, c2⟩ := hpre
  have g2 : ∀ x ∈ cl, (0 : Int) ≤ x ∧ x ≤ 1000 := g2
  have f0 : 0 ≤ f := f0
  have f1 : f < (cl.length : Int) := f1
  have c1 : c ≤ 1000 := c1
  have c2 : 1 ≤ c := c2
  have i1 : f.toNat < cl.length := by omega
  have hx := g2 _ (List.getElem_mem i1)
  have e : at0 cl f = cl[f.toNat] := by unfold at0; rw [getD_at i1]
  rw [e] at hk
  exact ⟨⟨f0, i1⟩, ⟨hx.1, by show cl[f.toNat] ≤ 1000000; omega, c2, by show c ≤ 1000000; omega⟩, hk⟩

theorem k70 (hG : Good Try.prog (envOf [(67, mkC [v67])])) : v70.Kept Try.prog 70 := by
  rintro ⟨a1, a2, b1, b2, pr, cl, ⟨⟩⟩ hpre k hk
  change Int at a1 a2 b1 b2
  change Int at pr
  change List Int at cl
  refine aspec hmix hG Try.func70 tx70 (Eq.mpr (eq70 a1 a2 b1 b2 pr cl k) ?_)
  replace hk : k (.bool (gtC cl (a1, a2) (b1, b2))) [] := hk
  unfold vc70
  exact ⟨hpre, hk⟩

theorem k72 (hG : Good Try.prog (envOf [(67, mkC [v67])])) : v72.Kept Try.prog 72 := by
  rintro ⟨a1, a2, b1, b2, pr, cl, ⟨⟩⟩ hpre k hk
  change Int at a1 a2 b1 b2
  change Int at pr
  change List Int at cl
  refine aspec hmix hG Try.func72 tx72 (Eq.mpr (eq72 a1 a2 b1 b2 pr cl k) ?_)
  replace hk : k (.bool (ltC cl (a1, a2) (b1, b2))) [] := hk
  unfold vc72
  exact ⟨hpre, hk⟩

def bestF (p : Int × Int → Int × Int → Bool) (a : Int × Int) (m : List (Int × Int)) : Int × Int := m.foldl (fun b x => if p x b then x else b) a
theorem bestF_mem (p : Int × Int → Int × Int → Bool) : ∀ (m : List (Int × Int)) (a : Int × Int), bestF p a m ∈ a :: m
  | [], a => by simp [bestF]
  | x :: m, a => by
    show bestF p (if p x a then x else a) m ∈ _
    have := bestF_mem p m (if p x a then x else a)
    rcases List.mem_cons.1 this with h | h
    · rw [h]; split <;> simp
    · simp [h]
theorem bestF_succ (p : Int × Int → Int × Int → Bool) (a : Int × Int) {m : List (Int × Int)} {i : Nat} (h : i < m.length) : bestF p a (m.take (i + 1)) = if p m[i] (bestF p a (m.take i)) then m[i] else bestF p a (m.take i) := by
  unfold bestF
  rw [List.take_succ_eq_append_getElem h, List.foldl_append]; rfl

theorem k69a (hG : Good Try.prog (envOf [(70, mkC [v70])])) : v69a.Kept Try.prog 69 := by
  rintro ⟨l, pr, cl, ⟨⟩⟩ hpre k hk
  change List (Int × Int) at l
  change Int at pr
  change List Int at cl
  refine aspec hmix hG Try.func69 tx69 (Eq.mpr (eq69a l pr cl k) ?_)
  replace hk : k (two (bestC (gtC cl) l).1 (bestC (gtC cl) l).2) [] := hk
  unfold vc69a
  obtain ⟨hs, hin, h0, h1⟩ := hpre
  have hin : ∀ a ∈ l, 0 ≤ a.1 ∧ a.1 < (cl.length : Int) ∧ 0 ≤ a.2 ∧ a.2 ≤ 1000 := hin
  have h1 : l.length ≤ 100 := h1
  cases l with
  | nil => exact absurd h0 (Nat.lt_irrefl 0)
  | cons a m =>
    have hml : m.length ≤ 99 := by simp at h1; omega
    refine ⟨⟨Int.le_refl _, Nat.succ_pos _⟩, ⟨by omega, by show (1 : Int) ≤ (((m.length + 1 : Nat)) : Int); omega⟩, ?_⟩
    refine Loop.upto (fun i => (pr, cl, m, ((m.length : Nat) : Int), (i : Int), 0, 0, (bestF (gtC cl) a (m.take i)).1, (bestF (gtC cl) a (m.take i)).2, ())) (fun i => True) m.length rfl trivial ?_ ?_
    · intro i K hi hp hK
      dsimp only
      rw [br_decide]
      refine ⟨fun _ => ?_, fun h => absurd hi (by omega)⟩
      try simp only [Int.toNat_natCast]
      have hK := hK trivial
      rw [bestF_succ (gtC cl) a hi] at hK
      have hb := bestF_mem (gtC cl) (m.take i) a
      have hb : bestF (gtC cl) a (m.take i) ∈ a :: m := by
        rcases List.mem_cons.1 hb with h | h
        · rw [h]; simp
        · exact List.mem_cons_of_mem _ (List.mem_of_mem_take h)
      have h2 := hin _ hb
      have h3 := hin m[i] (List.mem_cons_of_mem _ (List.getElem_mem hi))
      generalize bestF (gtC cl) a (m.take i) = b at hK h2 ⊢
      obtain ⟨b1, b2⟩ := b
      refine ⟨⟨by omega, hi⟩, ⟨hs, ⟨h3.1, h3.2.1, h3.2.2.1, h3.2.2.2⟩, ⟨h2.1, h2.2.1, h2.2.2.1, h2.2.2.2⟩⟩, br_intro (fun h => ⟨fits64 (by omega) (by omega), ?_⟩) (fun h => ⟨fits64 (by omega) (by omega), ?_⟩)⟩
      · have h : gtC cl m[i] (b1, b2) = true := h
        rw [if_pos h] at hK; exact hK
      · have h : gtC cl m[i] (b1, b2) = false := h
        rw [if_neg (by simp [h])] at hK; exact hK
    · intro K hp
      dsimp only
      rw [br_decide]
      refine ⟨fun h => absurd h (by omega), fun _ => ?_⟩
      rw [List.take_of_length_le (Nat.le_refl _)]
      exact hk

theorem k69b (hG : Good Try.prog (envOf [(72, mkC [v72])])) : v69b.Kept Try.prog 69 := by
  rintro ⟨l, pr, cl, ⟨⟩⟩ hpre k hk
  change List (Int × Int) at l
  change Int at pr
  change List Int at cl
  refine aspec hmix hG Try.func69 tx69 (Eq.mpr (eq69b l pr cl k) ?_)
  replace hk : k (two (bestC (ltC cl) l).1 (bestC (ltC cl) l).2) [] := hk
  unfold vc69b
  obtain ⟨hs, hin, h0, h1⟩ := hpre
  have hin : ∀ a ∈ l, 0 ≤ a.1 ∧ a.1 < (cl.length : Int) ∧ 0 ≤ a.2 ∧ a.2 ≤ 1000 := hin
  have h1 : l.length ≤ 100 := h1
  cases l with
  | nil => exact absurd h0 (Nat.lt_irrefl 0)
  | cons a m =>
    have hml : m.length ≤ 99 := by simp at h1; omega
    refine ⟨⟨Int.le_refl _, Nat.succ_pos _⟩, ⟨by omega, by show (1 : Int) ≤ (((m.length + 1 : Nat)) : Int); omega⟩, ?_⟩
    refine Loop.upto (fun i => (pr, cl, m, ((m.length : Nat) : Int), (i : Int), 0, 0, (bestF (ltC cl) a (m.take i)).1, (bestF (ltC cl) a (m.take i)).2, ())) (fun i => True) m.length rfl trivial ?_ ?_
    · intro i K hi hp hK
      dsimp only
      rw [br_decide]
      refine ⟨fun _ => ?_, fun h => absurd hi (by omega)⟩
      try simp only [Int.toNat_natCast]
      have hK := hK trivial
      rw [bestF_succ (ltC cl) a hi] at hK
      have hb := bestF_mem (ltC cl) (m.take i) a
      have hb : bestF (ltC cl) a (m.take i) ∈ a :: m := by
        rcases List.mem_cons.1 hb with h | h
        · rw [h]; simp
        · exact List.mem_cons_of_mem _ (List.mem_of_mem_take h)
      have h2 := hin _ hb
      have h3 := hin m[i] (List.mem_cons_of_mem _ (List.getElem_mem hi))
      generalize bestF (ltC cl) a (m.take i) = b at hK h2 ⊢
      obtain ⟨b1, b2⟩ := b
      refine ⟨⟨by omega, hi⟩, ⟨hs, ⟨h3.1, h3.2.1, h3.2.2.1, h3.2.2.2⟩, ⟨h2.1, h2.2.1, h2.2.2.1, h2.2.2.2⟩⟩, br_intro (fun h => ⟨fits64 (by omega) (by omega), ?_⟩) (fun h => ⟨fits64 (by omega) (by omega), ?_⟩)⟩
      · have h : ltC cl m[i] (b1, b2) = true := h
        rw [if_pos h] at hK; exact hK
      · have h : ltC cl m[i] (b1, b2) = false := h
        rw [if_neg (by simp [h])] at hK; exact hK
    · intro K hp
      dsimp only
      rw [br_decide]
      refine ⟨fun h => absurd h (by omega), fun _ => ?_⟩
      rw [List.take_of_length_le (Nat.le_refl _)]
      exact hk

/-! ### least terms -/
theorem gcd_pos {b : Int} (a : Int) (hb : 0 < b) : 0 < gcdI a b := by
  unfold gcdI
  have : 0 < Nat.gcd a.toNat b.toNat := Nat.gcd_pos_of_pos_right _ (by omega)
  omega
theorem byN_mul {a b : Int} (ha : 0 ≤ a) : byN a b * gcdI a b = a := by
  unfold byN gcdI
  refine Int.ediv_mul_cancel ?_
  have : ((Nat.gcd a.toNat b.toNat : Nat) : Int) ∣ (a.toNat : Int) := Int.natCast_dvd_natCast.2 (Nat.gcd_dvd_left _ _)
  rw [Int.toNat_of_nonneg ha] at this
  exact this
theorem byD_mul {a b : Int} (hb : 0 ≤ b) : byD a b * gcdI a b = b := by
  unfold byD gcdI
  refine Int.ediv_mul_cancel ?_
  have : ((Nat.gcd a.toNat b.toNat : Nat) : Int) ∣ (b.toNat : Int) := Int.natCast_dvd_natCast.2 (Nat.gcd_dvd_right _ _)
  rw [Int.toNat_of_nonneg hb] at this
  exact this
theorem by_in {a b : Int} (ha : 0 ≤ a) (hb : 0 < b) : 0 ≤ byN a b ∧ byN a b ≤ a ∧ 1 ≤ byD a b ∧ byD a b ≤ b ∧ (0 < a → 0 < byN a b) := by
  have g := gcd_pos a hb
  have e1 := byN_mul (b := b) ha
  have e2 := byD_mul (a := a) (b := b) (by omega)
  generalize gcdI a b = q at *
  have n0 : 0 ≤ byN a b := Int.not_lt.1 (fun h => by have := Int.mul_neg_of_neg_of_pos h g; omega)
  have d0 : 0 < byD a b := Int.not_le.1 (fun h => by have := Int.mul_nonpos_of_nonpos_of_nonneg h (show 0 ≤ q by omega); omega)
  have m1 : byN a b * 1 ≤ byN a b * q := Int.mul_le_mul_of_nonneg_left (by omega) n0
  have m2 : byD a b * 1 ≤ byD a b * q := Int.mul_le_mul_of_nonneg_left (by omega) (by omega)
  refine ⟨n0, by omega, d0, by omega, fun h => ?_⟩
  rcases Int.lt_or_eq_of_le n0 with h1 | h1
  · exact h1
  · rw [← h1] at e1; omega
theorem by_zero {b : Int} (hb : 0 < b) : byN 0 b = 0 ∧ byD 0 b = 1 := by
  have h := by_in (a := 0) (Int.le_refl _) hb
  refine ⟨by omega, ?_⟩
  unfold byD gcdI
  have : Nat.gcd (0 : Int).toNat b.toNat = b.toNat := by simp
  rw [this, Int.toNat_of_nonneg (by omega), Int.ediv_self (by omega)]
theorem by_lt {a b c d : Int} (ha : 0 ≤ a) (hb : 0 < b) (hc : 0 ≤ c) (hd : 0 < d) : byN c d * byD a b < byN a b * byD c d ↔ c * b < a * d := by
  have g1 := gcd_pos a hb
  have g2 := gcd_pos c hd
  have e1 := byN_mul (b := b) ha
  have e2 := byD_mul (a := a) (b := b) (by omega)
  have e3 := byN_mul (b := d) hc
  have e4 := byD_mul (a := c) (b := d) (by omega)
  generalize gcdI a b = g at *
  generalize gcdI c d = h at *
  generalize byN a b = n1 at *
  generalize byD a b = d1 at *
  generalize byN c d = n2 at *
  generalize byD c d = d2 at *
  have k1 : a * d = n1 * d2 * (g * h) := by rw [← e1, ← e4, Int.mul_assoc, Int.mul_assoc, Int.mul_left_comm g d2 h]
  have k2 : c * b = n2 * d1 * (g * h) := by rw [← e3, ← e2, Int.mul_assoc, Int.mul_assoc, Int.mul_left_comm h d1 g, Int.mul_comm h g]
  have hp : 0 < g * h := Int.mul_pos g1 g2
  rw [k1, k2]
  exact ⟨fun h' => Int.mul_lt_mul_of_pos_right h' hp, fun h' => Int.lt_of_mul_lt_mul_right h' (by omega)⟩

/-! ### shares of which no farm can complain -/
theorem fairE_zero {pr : Int} {cl s : List Int} (h : fairE pr cl s = 0) : sharesErr pr cl s = 0 ∧ compP cl s = none := by
  unfold fairE at h
  by_cases h1 : compE pr cl s = 0
  · rw [if_pos h1] at h; omega
  · rw [if_neg h1] at h
    by_cases h2 : compE pr cl s = 5
    · unfold compE at h2
      by_cases h3 : sharesErr pr cl s ≠ 0
      · rw [if_pos h3] at h2
        have := shares_codes pr cl s
        omega
      · rw [if_neg h3] at h2
        refine ⟨by omega, ?_⟩
        cases hc : compP cl s with
        | none => rfl
        | some x => rw [hc] at h2; simp at h2
    · rw [if_neg h2] at h; omega
theorem compP_none {cl s : List Int} : compP cl s = none ↔ ∀ i j : Nat, i < s.length → j < s.length → canB cl s (i : Int) (j : Int) = false := by
  unfold compP
  simp only [List.findSome?_eq_none_iff, List.mem_range]
  constructor
  · intro h i j hi hj
    have := h i hi j hj
    cases hc : canB cl s (i : Int) (j : Int)
    · rfl
    · rw [hc] at this; simp at this
  · intro h i hi j hj
    rw [h i j hi hj]; rfl
theorem canB_nat (cl s : List Int) (i j : Nat) : canB cl s (i : Int) (j : Int) = decide (i ≠ j ∧ 0 < s.getD j 0 ∧ cl.getD j 0 * (s.getD i 0 + 1) < cl.getD i 0 * s.getD j 0) := by
  unfold canB
  rw [decide_eq_decide, at0_nat, at0_nat, at0_nat, at0_nat]
  omega
theorem pos_getD {s : List Int} (h : ∀ x ∈ s, (0 : Int) ≤ x ∧ x ≤ 200) (i : Nat) : 0 ≤ s.getD i 0 ∧ s.getD i 0 ≤ 200 := by
  rcases Nat.lt_or_ge i s.length with hi | hi
  · rw [getD_at hi]; exact h _ (List.getElem_mem hi)
  · rw [List.getD_eq_getElem?_getD, List.getElem?_eq_none hi]; simp
theorem fine_getD {pr : Int} {cl : List Int} (hf : yearErr pr cl = 0) (i : Nat) : 0 ≤ cl.getD i 0 ∧ cl.getD i 0 ≤ 100 := by
  obtain ⟨f1, f2, f3, f4, f5, f6⟩ := fine_spec hf
  rcases Nat.lt_or_ge i cl.length with hi | hi
  · rw [getD_at hi]; exact f5 _ (List.getElem_mem hi)
  · rw [List.getD_eq_getElem?_getD, List.getElem?_eq_none hi]; simp
theorem calm_of {pr : Int} {cl s : List Int} (h : fairE pr cl s = 0) : sharesErr pr cl s = 0 ∧ Calm cl s := by
  obtain ⟨h1, h2⟩ := fairE_zero h
  obtain ⟨hf, hl, hin, hsum⟩ := shares_spec h1
  refine ⟨h1, hl, fun i => (pos_getD hin i).1, fun i j hi hj hne hp => ?_⟩
  have := compP_none.1 h2 i j (by omega) (by omega)
  rw [canB_nat, decide_eq_false_iff_not] at this
  refine Int.not_lt.1 (fun hlt => this ⟨hne, hp, hlt⟩)
theorem sum_zero {l : List Int} (h : ∀ x ∈ l, 0 ≤ x) (h0 : sumL l = 0) : ∀ x ∈ l, x = 0 := by
  induction l with
  | nil => intro x hx; cases hx
  | cons a l ih =>
    have h1 := sum_bound0 (l := l) (fun x hx => h x (by simp [hx]))
    have h2 := h a (by simp)
    rw [sum_cons] at h0
    intro x hx
    rcases List.mem_cons.1 hx with rfl | hx
    · omega
    · exact ih (fun x hx => h x (by simp [hx])) (by omega) x hx
where
  sum_bound0 {l : List Int} (h : ∀ x ∈ l, 0 ≤ x) : 0 ≤ sumL l := by
    induction l with
    | nil => simp [sumL]
    | cons a l ih => rw [sum_cons]; have := h a (by simp); have := ih (fun x hx => h x (by simp [hx])); omega
theorem fine_some {pr : Int} {cl : List Int} (hf : yearErr pr cl = 0) : ∃ q : Nat, q < cl.length ∧ 0 < cl.getD q 0 := by
  obtain ⟨f1, f2, f3, f4, f5, f6⟩ := fine_spec hf
  refine Classical.byContradiction (fun hn => f6 ?_)
  have hz : ∀ x ∈ cl, x = 0 := by
    intro x hx
    obtain ⟨i, hi, rfl⟩ := List.getElem_of_mem hx
    have := f5 _ hx
    rcases Int.lt_or_eq_of_le this.1 with h | h
    · exact absurd ⟨i, hi, by rw [getD_at hi]; exact h⟩ hn
    · exact h.symm
  have : ∀ l : List Int, (∀ x ∈ l, x = 0) → sumL l = 0 := by
    intro l
    induction l with
    | nil => intro _; rfl
    | cons a l ih => intro h; rw [sum_cons, h a (by simp), ih (fun x hx => h x (by simp [hx]))]; rfl
  exact this cl hz

/-! ### the least of what was clean for a coin -/
theorem hiUp_succ (cl s : List Int) (n : Nat) : hiUp cl s (n + 1) = hiStep cl s (hiUp cl s n) n := by
  unfold hiUp; rw [List.range_succ, List.foldl_append]; rfl
theorem hi_spec {cl s : List Int} (hcl : ∀ i : Nat, 0 ≤ cl.getD i 0) : ∀ n, (hiUp cl s n = none → ∀ i, i < n → ¬ 0 < s.getD i 0) ∧ (∀ u, hiUp cl s n = some u → u < n ∧ 0 < s.getD u 0 ∧ ∀ j, j < n → 0 < s.getD j 0 → cl.getD u 0 * s.getD j 0 ≤ cl.getD j 0 * s.getD u 0)
  | 0 => ⟨fun _ i hi => absurd hi (Nat.not_lt_zero _), fun u h => by cases h⟩
  | n + 1 => by
    obtain ⟨i1, i2⟩ := hi_spec hcl n
    rw [hiUp_succ]
    unfold hiStep
    by_cases hp : 0 < s.getD n 0
    · rw [if_pos hp]
      cases hq : hiUp cl s n with
      | none =>
        refine ⟨fun h => (by cases h), fun u h => ?_⟩
        cases h
        refine ⟨Nat.lt_succ_self _, hp, fun j hj hjp => ?_⟩
        rcases Nat.eq_or_lt_of_le (Nat.le_of_lt_succ hj) with e | e
        · subst e; exact Int.le_refl _
        · exact absurd hjp (i1 hq j e)
      | some b =>
        obtain ⟨b1, b2, b3⟩ := i2 b hq
        dsimp only
        by_cases hc : cl.getD n 0 * s.getD b 0 < cl.getD b 0 * s.getD n 0
        · rw [if_pos hc]
          refine ⟨fun h => by (cases h), fun u h => ?_⟩
          cases h
          refine ⟨Nat.lt_succ_self _, hp, fun j hj hjp => ?_⟩
          rcases Nat.eq_or_lt_of_le (Nat.le_of_lt_succ hj) with e | e
          · subst e; exact Int.le_refl _
          · have := b3 j e hjp
            exact (cross (x := cl.getD j 0) (y := cl.getD b 0) (z := cl.getD n 0) (a := s.getD j 0) (b := s.getD b 0) (c := s.getD n 0) b2 hjp hp this (by omega)).1
        · rw [if_neg hc]
          refine ⟨fun h => by (cases h), fun u h => ?_⟩
          cases h
          refine ⟨by omega, b2, fun j hj hjp => ?_⟩
          rcases Nat.eq_or_lt_of_le (Nat.le_of_lt_succ hj) with e | e
          · subst e; omega
          · exact b3 j e hjp
    · rw [if_neg hp]
      refine ⟨fun h i hi => ?_, fun u h => ?_⟩
      · rcases Nat.eq_or_lt_of_le (Nat.le_of_lt_succ hi) with e | e
        · subst e; exact hp
        · exact i1 h i e
      · obtain ⟨b1, b2, b3⟩ := i2 u h
        refine ⟨by omega, b2, fun j hj hjp => ?_⟩
        rcases Nat.eq_or_lt_of_le (Nat.le_of_lt_succ hj) with e | e
        · subst e; exact absurd hjp hp
        · exact b3 j e hjp
def loN (cl s : List Int) (i : Nat) : Int := if i = 0 then 0 else byN (cl.getD (bestTo cl s i) 0) (s.getD (bestTo cl s i) 0 + 1)
def loD (cl s : List Int) (i : Nat) : Int := if i = 0 then 1 else byD (cl.getD (bestTo cl s i) 0) (s.getD (bestTo cl s i) 0 + 1)

theorem k36 (hG : Good Try.prog (envOf [(34, mkC [v34]), (47, mkC [v47])])) : v36.Kept Try.prog 36 := by
  rintro ⟨pr, cl, s, ⟨⟩⟩ hpre k hk
  change Int at pr
  change List Int at cl
  change List Int at s
  refine aspec hmix hG Try.func36 tx36 (Eq.mpr (eq36 pr cl s k) ?_)
  replace hk : k (.tup [two (divLN pr cl s) (divLD pr cl s), two (divHN pr cl s) (divHD pr cl s), rI (divE pr cl s)]) [] := hk
  unfold vc36
  obtain ⟨hl, hsl⟩ := hpre
  have hl : cl.length ≤ 14 := hl
  have hsl : s.length ≤ 14 := hsl
  have bad : ∀ e : Int, e ≠ 0 → divE pr cl s = e → k (.tup [two 0 0, two 0 0, rI e]) [] := fun e h0 h => by
    have e1 : divLN pr cl s = 0 := by unfold divLN; rw [if_neg (by omega)]
    have e2 : divLD pr cl s = 0 := by unfold divLD; rw [if_neg (by omega)]
    have e3 : divHN pr cl s = 0 := by unfold divHN; rw [if_neg (by omega)]
    have e4 : divHD pr cl s = 0 := by unfold divHD; rw [if_neg (by omega)]
    rw [e1, e2, e3, e4, h] at hk; exact hk
  refine ⟨⟨hl, hsl⟩, ?_⟩
  rw [br_bne]
  refine ⟨fun h => ⟨⟨hl, hsl⟩, bad _ h (by unfold divE; rw [if_pos h])⟩, fun h => ?_⟩
  obtain ⟨hs0, hcalm⟩ := calm_of h
  obtain ⟨hf, hlen, hin, hsum⟩ := shares_spec hs0
  obtain ⟨f1, f2, f3, f4, f5, f6⟩ := fine_spec hf
  obtain ⟨q, hq, hq0⟩ := fine_some hf
  have hclp := fun i => (fine_getD hf i).1
  have gc := fun i => fine_getD hf i
  have gs := fun i => pos_getD hin i
  have lo_in : ∀ i, 0 ≤ loN cl s i ∧ loN cl s i ≤ 100 ∧ 1 ≤ loD cl s i ∧ loD cl s i ≤ 201 := fun i => by
    unfold loN loD
    by_cases e : i = 0
    · rw [if_pos e, if_pos e]; omega
    · rw [if_neg e, if_neg e]
      have h1 := gc (bestTo cl s i)
      have h2 := gs (bestTo cl s i)
      have := by_in h1.1 (b := s.getD (bestTo cl s i) 0 + 1) (by omega)
      omega
  have hi_in : ∀ i, i ≤ s.length → 0 ≤ hiN cl s (hiUp cl s i) ∧ hiN cl s (hiUp cl s i) ≤ 100 ∧ 1 ≤ hiD cl s (hiUp cl s i) ∧ hiD cl s (hiUp cl s i) ≤ 200 ∧ (hiN cl s (hiUp cl s i) = 0 ↔ hiUp cl s i = none) := fun i hi => by
    cases hu : hiUp cl s i with
    | none => simp [hiN, hiD]
    | some u =>
      obtain ⟨b1, b2, b3⟩ := (hi_spec hclp i).2 u hu
      have hcu := hcalm.clean hclp hq hq0 (show u < cl.length by omega) b2
      have h1 := gc u
      have h2 := gs u
      have := by_in h1.1 (b := s.getD u 0) b2
      simp only [hiN, hiD]
      refine ⟨this.1, by omega, by omega, by omega, ⟨fun h => (by have := this.2.2.2.2 hcu; omega), fun h => (by cases h)⟩⟩
  refine Loop.upto (fun i => (s, (i : Int), pr, cl, 0, 0, 0, 0, loN cl s i, loD cl s i, hiN cl s (hiUp cl s i), hiD cl s (hiUp cl s i), ())) (fun i => True) s.length rfl trivial ?_ ?_
  · intro i K hi hp hK
    dsimp only
    rw [br_decide]
    refine ⟨fun _ => ?_, fun h => absurd hi (by omega)⟩
    try simp only [Int.toNat_natCast]
    have hK := hK trivial
    have hic : i < cl.length := by omega
    have hci := f5 _ (List.getElem_mem hic)
    have hsi := hin _ (List.getElem_mem hi)
    have ec : cl.getD i 0 = cl[i] := getD_at hic
    have es : s.getD i 0 = s[i] := getD_at hi
    have hby := by_in hci.1 (b := s[i] + 1) (by omega)
    have hlo := lo_in i
    have hhi := hi_in i (by omega)
    -- the lower end
    have stepLo : loN cl s (i + 1) = (if loN cl s i * byD cl[i] (s[i] + 1) < byN cl[i] (s[i] + 1) * loD cl s i then byN cl[i] (s[i] + 1) else loN cl s i) ∧ loD cl s (i + 1) = (if loN cl s i * byD cl[i] (s[i] + 1) < byN cl[i] (s[i] + 1) * loD cl s i then byD cl[i] (s[i] + 1) else loD cl s i) := by
      unfold loN loD
      rw [if_neg (Nat.succ_ne_zero i), if_neg (Nat.succ_ne_zero i)]
      by_cases e : i = 0
      · subst e
        rw [bestTo_one, if_pos rfl, if_pos rfl, ec, es]
        rcases Int.lt_or_eq_of_le hci.1 with h1 | h1
        · have := hby.2.2.2.2 h1
          rw [if_pos (by omega), if_pos (by omega)]; exact ⟨rfl, rfl⟩
        · rw [← h1]
          have := by_zero (b := s[0] + 1) (by omega)
          rw [this.1, this.2, if_neg (by omega), if_neg (by omega)]; exact ⟨rfl, rfl⟩
      · rw [if_neg e, if_neg e, bestTo_succ]
        have h1 := gc (bestTo cl s i)
        have h2 := gs (bestTo cl s i)
        have hb := by_lt hci.1 (b := s[i] + 1) (by omega) h1.1 (d := s.getD (bestTo cl s i) 0 + 1) (by omega)
        unfold nextStep
        by_cases hc : cl.getD i 0 * (s.getD (bestTo cl s i) 0 + 1) > cl.getD (bestTo cl s i) 0 * (s.getD i 0 + 1)
        · rw [if_pos hc]
          rw [ec, es] at hc ⊢
          rw [if_pos (hb.2 hc), if_pos (hb.2 hc)]; exact ⟨rfl, rfl⟩
        · rw [if_neg hc]
          rw [ec, es] at hc
          rw [if_neg (mt hb.1 hc), if_neg (mt hb.1 hc)]; exact ⟨rfl, rfl⟩
    have stepHi0 : ¬ 0 < s[i] → hiUp cl s (i + 1) = hiUp cl s i := fun h0 => by
      rw [hiUp_succ]; unfold hiStep; rw [es, if_neg h0]
    have stepHi1 : 0 < s[i] → hiUp cl s i = none → hiUp cl s (i + 1) = some i := fun h0 h1 => by
      rw [hiUp_succ]; unfold hiStep; rw [es, if_pos h0, h1]
    have stepHi2 : ∀ u, 0 < s[i] → hiUp cl s i = some u → hiUp cl s (i + 1) = if byN cl[i] s[i] * hiD cl s (some u) < hiN cl s (some u) * byD cl[i] s[i] then some i else some u := fun u h0 h1 => by
      obtain ⟨b1, b2, b3⟩ := (hi_spec hclp i).2 u h1
      rw [hiUp_succ]; unfold hiStep; rw [es, if_pos h0, h1]
      dsimp only
      have hb := by_lt (gc u).1 (b := s.getD u 0) b2 hci.1 (d := s[i]) h0
      rw [ec]
      by_cases hc : cl[i] * s.getD u 0 < cl.getD u 0 * s[i]
      · rw [if_pos hc]; exact (if_pos (hb.2 hc)).symm
      · rw [if_neg hc]; exact (if_neg (mt hb.1 hc)).symm
    have m1 := mul_in (A := 100) (B := 201) hby.1 (by omega) (show 0 ≤ loD cl s i by omega) hlo.2.2.2
    have m2 := mul_in (A := 100) (B := 201) hlo.1 hlo.2.1 (show 0 ≤ byD cl[i] (s[i] + 1) by omega) (by omega)
    have rest : ∀ a b : Int, loN cl s (i + 1) = a → loD cl s (i + 1) = b → ∃ h8 : (0 : Int) ≤ (i : Int) ∧ i < s.length,
        br (decide (s[i] > 0)) (∃ h9 : (0 : Int) ≤ (i : Int) ∧ i < cl.length, ∃ h10 : (0 : Int) ≤ (i : Int) ∧ i < s.length, Farm.v47.p (cl[i], (s[i], ())) ∧
          br ((hiN cl s (hiUp cl s i) == 0) == false)
            (fitsK .i64 (byN cl[i] s[i] * hiD cl s (hiUp cl s i)) ∧ fitsK .i64 (hiN cl s (hiUp cl s i) * byD cl[i] s[i]) ∧
              br (decide (byN cl[i] s[i] * hiD cl s (hiUp cl s i) < hiN cl s (hiUp cl s i) * byD cl[i] s[i]))
                (fitsK .i64 ((i : Int) + 1) ∧ K (s, (i : Int) + 1, pr, cl, 0, 0, 0, 0, a, b, byN cl[i] s[i], byD cl[i] s[i], ()))
                (fitsK .i64 ((i : Int) + 1) ∧ K (s, (i : Int) + 1, pr, cl, 0, 0, 0, 0, a, b, hiN cl s (hiUp cl s i), hiD cl s (hiUp cl s i), ())))
            (fitsK .i64 ((i : Int) + 1) ∧ K (s, (i : Int) + 1, pr, cl, 0, 0, 0, 0, a, b, byN cl[i] s[i], byD cl[i] s[i], ())))
          (fitsK .i64 ((i : Int) + 1) ∧ K (s, (i : Int) + 1, pr, cl, 0, 0, 0, 0, a, b, hiN cl s (hiUp cl s i), hiD cl s (hiUp cl s i), ())) := by
      intro a b ea eb
      rw [ea, eb] at hK
      have hsome : hiN cl s (some i) = byN cl[i] s[i] ∧ hiD cl s (some i) = byD cl[i] s[i] := by
        show byN (cl.getD i 0) (s.getD i 0) = _ ∧ byD (cl.getD i 0) (s.getD i 0) = _
        rw [ec, es]; exact ⟨rfl, rfl⟩
      refine ⟨⟨by omega, hi⟩, ?_⟩
      rw [br_decide]
      refine ⟨fun h0 => ⟨⟨by omega, hic⟩, ⟨by omega, hi⟩, ⟨hci.1, by show cl[i] ≤ 1000000; omega, by show 1 ≤ s[i]; omega, by show s[i] ≤ 1000000; omega⟩, ?_⟩, fun h0 => ⟨fits64 (by omega) (by omega), ?_⟩⟩
      · have hb2 := by_in hci.1 (b := s[i]) h0
        have m3 := mul_in (A := 100) (B := 201) hb2.1 (by omega) (show 0 ≤ hiD cl s (hiUp cl s i) by omega) (by omega)
        have m4 := mul_in (A := 100) (B := 201) hhi.1 hhi.2.1 (show 0 ≤ byD cl[i] s[i] by omega) (by omega)
        rw [br_bf]
        refine ⟨fun h1 => ⟨fits64 (by omega) (by omega), fits64 (by omega) (by omega), ?_⟩, fun h1 => ⟨fits64 (by omega) (by omega), ?_⟩⟩
        · have h1 : hiN cl s (hiUp cl s i) ≠ 0 := by simpa using h1
          cases hu : hiUp cl s i with
          | none => exact absurd (hhi.2.2.2.2.2 hu) h1
          | some u =>
            have hst := stepHi2 u h0 hu
            rw [br_decide]
            refine ⟨fun h2 => ⟨fits64 (by omega) (by omega), ?_⟩, fun h2 => ⟨fits64 (by omega) (by omega), ?_⟩⟩
            · rw [if_pos h2] at hst
              rw [hst, hsome.1, hsome.2] at hK; exact hK
            · rw [if_neg h2] at hst
              rw [hst] at hK; exact hK
        · have h1 : hiN cl s (hiUp cl s i) = 0 := by simpa using h1
          have hst := stepHi1 h0 (hhi.2.2.2.2.1 h1)
          rw [hst, hsome.1, hsome.2] at hK; exact hK
      · rw [stepHi0 h0] at hK; exact hK
    refine ⟨⟨by omega, hic⟩, ⟨by omega, hi⟩, fits64 (by omega) (by omega), ⟨hci.1, by show cl[i] ≤ 1000000; omega, by show 1 ≤ s[i] + 1; omega, by show s[i] + 1 ≤ 1000000; omega⟩, fits64 (by omega) (by omega), fits64 (by omega) (by omega), ?_⟩
    rw [br_decide]
    refine ⟨fun h2 => rest _ _ (stepLo.1.trans (if_pos h2)) (stepLo.2.trans (if_pos h2)), fun h2 => rest _ _ (stepLo.1.trans (if_neg h2)) (stepLo.2.trans (if_neg h2))⟩
  · intro K hp
    dsimp only
    rw [br_decide]
    refine ⟨fun h => absurd h (by omega), fun _ => ?_⟩
    have hn0 : s.length ≠ 0 := by omega
    have hlo := lo_in s.length
    have hhi := hi_in s.length (Nat.le_refl _)
    have hbx : bestTo cl s s.length = loIx cl s := by unfold bestTo loIx nextOf; rw [hlen]
    have eLN : loN cl s s.length = byN (cl.getD (loIx cl s) 0) (s.getD (loIx cl s) 0 + 1) := by unfold loN; rw [if_neg hn0, hbx]
    have eLD : loD cl s s.length = byD (cl.getD (loIx cl s) 0) (s.getD (loIx cl s) 0 + 1) := by unfold loD; rw [if_neg hn0, hbx]
    have good : divBad cl s = false → k (.tup [two (loN cl s s.length) (loD cl s s.length), two (hiN cl s (hiUp cl s s.length)) (hiD cl s (hiUp cl s s.length)), rI 0]) [] := fun hb => by
      have e0 : divE pr cl s = 0 := by unfold divE; rw [if_neg (by omega), if_neg (by simp [hb])]
      have e1 : divLN pr cl s = loN cl s s.length := by unfold divLN; rw [if_pos e0, eLN]
      have e2 : divLD pr cl s = loD cl s s.length := by unfold divLD; rw [if_pos e0, eLD]
      have e3 : divHN pr cl s = hiN cl s (hiUp cl s s.length) := by unfold divHN; rw [if_pos e0]
      have e4 : divHD pr cl s = hiD cl s (hiUp cl s s.length) := by unfold divHD; rw [if_pos e0]
      rw [e0, e1, e2, e3, e4] at hk; exact hk
    rw [br_true]
    refine ⟨fun hp => ?_, fun hp => good ?_⟩
    · have m3 := mul_in (A := 100) (B := 201) hlo.1 hlo.2.1 (show 0 ≤ hiD cl s (hiUp cl s s.length) by omega) (by omega)
      have m4 := mul_in (A := 100) (B := 201) hhi.1 hhi.2.1 (show 0 ≤ loD cl s s.length by omega) (by omega)
      refine ⟨fits64 (by omega) (by omega), fits64 (by omega) (by omega), ?_⟩
      cases hu : hiUp cl s s.length with
      | none =>
        exfalso
        have hz := (hi_spec hclp s.length).1 hu
        have : ∀ x ∈ s, x = 0 := by
          intro x hx
          obtain ⟨i, hi, rfl⟩ := List.getElem_of_mem hx
          have h1 := hz i hi
          rw [getD_at hi] at h1
          have := hin _ hx
          omega
        have h0 : ∀ l : List Int, (∀ x ∈ l, x = 0) → sumL l = 0 := by
          intro l
          induction l with
          | nil => intro _; rfl
          | cons a l ih => intro h; rw [sum_cons, h a (by simp), ih (fun x hx => h x (by simp [hx]))]; rfl
        have := h0 s this
        omega
      | some u =>
        obtain ⟨b1, b2, b3⟩ := (hi_spec hclp s.length).2 u hu
        have hb := by_lt (gc u).1 (b := s.getD u 0) b2 (gc (loIx cl s)).1 (d := s.getD (loIx cl s) 0 + 1) (by have := gs (loIx cl s); omega)
        have hdb : divBad cl s = decide (cl.getD u 0 * (s.getD (loIx cl s) 0 + 1) ≤ cl.getD (loIx cl s) 0 * s.getD u 0) := by unfold divBad; rw [hu]
        rw [hu] at good
        rw [eLN, eLD] at good ⊢
        rw [br_decide]
        refine ⟨fun h2 => bad 24 (by omega) ?_, fun h2 => good ?_⟩
        · unfold divE; rw [if_neg (by omega), if_pos]
          rw [hdb, decide_eq_true_eq]
          refine Int.not_lt.1 (fun h3 => ?_)
          have := hb.2 h3
          simp only [hiN, hiD] at h2
          omega
        · rw [hdb, decide_eq_false_iff_not]
          intro h3
          have : ¬ _ := mt hb.1 (Int.not_lt.2 h3)
          simp only [hiN, hiD] at h2
          omega
    · have hz := sum_zero (fun x hx => (hin x hx).1) (by omega : sumL s = 0)
      cases hu : hiUp cl s s.length with
      | none => unfold divBad; rw [hu]
      | some u =>
        obtain ⟨b1, b2, b3⟩ := (hi_spec hclp s.length).2 u hu
        have := hz _ (List.getElem_mem b1)
        rw [getD_at b1] at b2
        omega
end Go.Abs.Farm
end

section
/- The farm's functions keep their contracts: near shares, by the program and by the definition. -/
open Go.Proofs
set_option maxRecDepth 100000
set_option linter.unusedVariables false
namespace Go.Abs.Farm

theorem cmpR_nat (pr : Int) (cl : List Int) (a b : Nat) : cmpR pr cl (a : Int) (b : Int) = remAt pr cl b - remAt pr cl a := by
  unfold cmpR remAt; rw [at0_nat, at0_nat]
theorem insR_nat {pr : Int} {cl : List Int} {n : Nat} : ∀ R : List Nat, (∀ y ∈ R, y < n) → R.Pairwise (fun a b => BefR (remAt pr cl) b a) →
    ∃ R' : List Nat, insR pr cl (n : Int) (R.map Int.ofNat) = R'.map Int.ofNat ∧ R'.Perm (n :: R) ∧ R'.Pairwise (fun a b => BefR (remAt pr cl) b a)
  | [], _, _ => ⟨[n], rfl, .refl _, by simp⟩
  | p :: R, hlt, hp => by
    obtain ⟨h1, h2⟩ := List.pairwise_cons.1 hp
    obtain ⟨R', e1, e2, e3⟩ := insR_nat (pr := pr) (cl := cl) (n := n) R (fun y hy => hlt y (by simp [hy])) h2
    have hc := cmpR_nat pr cl n p
    have hpn := hlt p (by simp)
    by_cases h : cmpR pr cl (n : Int) (p : Int) < 0
    · refine ⟨p :: R', ?_, ?_, ?_⟩
      · show insR pr cl (n : Int) ((p : Int) :: R.map Int.ofNat) = (p : Int) :: R'.map Int.ofNat
        rw [insR, if_pos h, e1]
      · exact (List.Perm.cons p e2).trans (List.Perm.swap n p R)
      · refine List.pairwise_cons.2 ⟨fun y hy => ?_, e3⟩
        rcases List.mem_cons.1 (e2.subset hy) with rfl | hy
        · unfold BefR; omega
        · exact h1 y hy
    · refine ⟨n :: p :: R, ?_, .refl _, ?_⟩
      · show insR pr cl (n : Int) ((p : Int) :: R.map Int.ofNat) = (n : Int) :: (p : Int) :: R.map Int.ofNat
        rw [insR, if_neg h]
      · have hb : BefR (remAt pr cl) p n := by unfold BefR; omega
        refine List.pairwise_cons.2 ⟨fun y hy => ?_, hp⟩
        rcases List.mem_cons.1 hy with rfl | hy
        · exact hb
        · exact befR_tr (h1 y hy) hb
/-- The order that the insertion gives. -/
theorem order_isort (pr : Int) (cl : List Int) : ∀ n : Nat, ∃ S : List Nat, S.Perm (List.range n) ∧ S.Pairwise (BefR (remAt pr cl)) ∧ isort pr cl ((List.range n).map Int.ofNat) = S.map Int.ofNat
  | 0 => ⟨[], .refl _, .nil, rfl⟩
  | n + 1 => by
    obtain ⟨S, h1, h2, h3⟩ := order_isort pr cl n
    obtain ⟨R', e1, e2, e3⟩ := insR_nat (pr := pr) (cl := cl) (n := n) S.reverse (fun y hy => List.mem_range.1 (h1.subset (List.mem_reverse.1 hy))) (by rw [List.pairwise_reverse]; exact h2)
    refine ⟨R'.reverse, ?_, by rw [List.pairwise_reverse]; exact e3, ?_⟩
    · rw [List.range_succ]
      refine (List.reverse_perm R').trans (e2.trans ?_)
      refine List.Perm.trans (List.Perm.cons n ((List.reverse_perm S).trans h1)) ?_
      exact (List.perm_append_singleton n (List.range n)).symm
    · rw [List.range_succ, List.map_append, List.map_singleton]
      show isort pr cl ((List.range n).map Int.ofNat ++ [(n : Int)]) = _
      rw [isort_append, h3, ← List.map_reverse, e1, List.map_reverse]

theorem fls_at {pr : Int} {cl : List Int} {j : Nat} (h : j < cl.length) (h' : j < (fls0 pr cl).length) : (fls0 pr cl)[j] = cl[j] * pr / sumL cl := by simp [fls0]
theorem fill_set {l : List Int} {n i : Nat} (hi : i < l.length) (hn : l.length = n) (v : Int) (hv : v = l[i]) : (l.take i ++ List.replicate (n - i) 0).set i v = l.take (i + 1) ++ List.replicate (n - (i + 1)) 0 := by
  have e : n - i = (n - (i + 1)) + 1 := by omega
  have hl : (l.take i).length = i := by rw [List.length_take]; omega
  rw [e, List.replicate_succ, List.set_append_right _ _ (by omega), hl, Nat.sub_self, List.set_cons_zero, List.take_succ_eq_append_getElem hi, hv, List.append_assoc]
  rfl
theorem take_sum {l : List Int} {i : Nat} (hi : i < l.length) : sumL (l.take (i + 1)) = sumL (l.take i) + l[i] := by
  rw [List.take_succ_eq_append_getElem hi]
  unfold sumL
  rw [List.foldl_append, List.foldl_cons, List.foldl_nil]
def bTo (off : List Int) (i : Nat) : Nat := (List.range i).foldl (bestStep off) 0
theorem bTo_succ (off : List Int) (i : Nat) : bTo off (i + 1) = bestStep off (bTo off i) i := by
  unfold bTo; rw [List.range_succ, List.foldl_append]; rfl
theorem bTo_lt (off : List Int) : ∀ i, bTo off (i + 1) ≤ i
  | 0 => by rw [bTo_succ]; unfold bestStep bTo; split <;> simp
  | i + 1 => by
    have := bTo_lt off i
    rw [bTo_succ]; unfold bestStep; split <;> omega
theorem bTo_one (off : List Int) : bTo off 1 = 0 := Nat.le_zero.1 (bTo_lt off 0)
theorem near_in {pr : Int} {cl : List Int} (hf : yearErr pr cl = 0) : ∀ (n i : Nat), 0 ≤ (nearUp pr cl n).1.getD i 0 ∧ (nearUp pr cl n).1.getD i 0 ≤ 20000 + (n : Int)
  | 0, i => by
    obtain ⟨g1, g2, g3, g4⟩ := sum_ok hf
    show 0 ≤ (fls0 pr cl).getD i 0 ∧ (fls0 pr cl).getD i 0 ≤ 20000 + ((0 : Nat) : Int)
    rcases Nat.lt_or_ge i cl.length with hi | hi
    · rw [fls_get hi]
      unfold flAt
      rw [getD_at hi]
      have := clean_mul hf hi
      have := quo_in this.1 g3
      omega
    · rw [List.getD_eq_getElem?_getD, List.getElem?_eq_none (by unfold fls0; rw [List.length_map]; exact hi)]
      show (0 : Int) ≤ 0 ∧ (0 : Int) ≤ 20000 + ((0 : Nat) : Int)
      omega
  | n + 1, i => by
    have ih := near_in hf n
    show 0 ≤ ((nearUp pr cl n).1.set (bestIx (nearUp pr cl n).2) ((nearUp pr cl n).1.getD (bestIx (nearUp pr cl n).2) 0 + 1)).getD i 0 ∧ ((nearUp pr cl n).1.set (bestIx (nearUp pr cl n).2) ((nearUp pr cl n).1.getD (bestIx (nearUp pr cl n).2) 0 + 1)).getD i 0 ≤ 20000 + ((n + 1 : Nat) : Int)
    have h1 := ih i
    have h2 := ih (bestIx (nearUp pr cl n).2)
    rw [List.getD_eq_getElem?_getD, List.getElem?_set]
    split
    · split
      · show 0 ≤ (nearUp pr cl n).1.getD _ 0 + 1 ∧ (nearUp pr cl n).1.getD _ 0 + 1 ≤ _; omega
      · show (0 : Int) ≤ 0 ∧ (0 : Int) ≤ _; omega
    · rw [← List.getD_eq_getElem?_getD]; omega

theorem k65 (hG : Good Try.prog (envOf [(48, mkC [v48])])) : v65.Kept Try.prog 65 := by
  rintro ⟨pr, cl, ⟨⟩⟩ hpre k hk
  change Int at pr
  change List Int at cl
  refine aspec hmix hG Try.func65 tx65 (Eq.mpr (eq65 pr cl k) ?_)
  replace hk : k (.reg 0 false) [.sl (.int .i64) (nearOf pr cl)] := hk
  unfold vc65
  have hf : yearErr pr cl = 0 := hpre
  obtain ⟨f1, f2, f3, f4, f5, f6⟩ := fine_spec hf
  obtain ⟨g1, g2, g3, g4⟩ := sum_ok hf
  have hleft := left_in (pr := pr) (cl := cl) (by omega) (by omega)
  have hfl : (fls0 pr cl).length = cl.length := by unfold fls0; rw [List.length_map]
  have hol : (offs0 pr cl).length = cl.length := by unfold offs0; rw [List.length_map]
  refine ⟨⟨g1, g2⟩, ⟨by omega, rfl, by simp only [big]; omega⟩, ?_⟩
  refine Loop.upto (fun i => (sumL cl, pr - sumL ((fls0 pr cl).take i), (i : Int), pr, cl, (fls0 pr cl).take i ++ List.replicate (cl.length - i) 0, (offs0 pr cl).take i, ())) (fun i => True) cl.length ?_ trivial ?_ ?_
  · show (sumL cl, pr - 0, ((0 : Nat) : Int), pr, cl, List.replicate cl.length 0, [], ()) = _
    rw [Int.sub_zero]; rfl
  · intro i K hi _ hK
    dsimp only
    have hK := hK trivial
    have hlen : ((fls0 pr cl).take i ++ List.replicate (cl.length - i) 0).length = cl.length := by simp [hfl]; omega
    have ef : (fls0 pr cl)[i]'(by omega) = cl[i] * pr / sumL cl := by unfold fls0; rw [List.getElem_map]
    have eo : (offs0 pr cl)[i]'(by omega) = cl[i] * pr % sumL cl := by unfold offs0; rw [List.getElem_map]
    have hset := fill_set (l := fls0 pr cl) (n := cl.length) (i := i) (by omega) hfl (cl[i] * pr / sumL cl) ef.symm
    have hm := clean_mul hf hi
    have hq := quo_in hm.1 g3
    have hol2 : ((offs0 pr cl).take i).length ≤ 8 := by rw [List.length_take]; omega
    rw [br_decide]
    refine ⟨fun _ => ?_, fun h => absurd hi (by rw [hlen] at h; omega)⟩
    simp only [Int.toNat_natCast]
    have hsb : 0 ≤ sumL ((fls0 pr cl).take i) ∧ sumL ((fls0 pr cl).take i) ≤ 20000 * (((fls0 pr cl).take i).length : Int) := sum_bound (fun x hx => by
      obtain ⟨j, hj, rfl⟩ := List.getElem_of_mem (List.mem_of_mem_take hx)
      have hj' : j < cl.length := by omega
      rw [fls_at hj' hj]
      have h1 := clean_mul hf hj'
      have := quo_in h1.1 g3
      omega)
    have hsl : ((fls0 pr cl).take i).length ≤ 8 := by rw [List.length_take]; omega
    refine ⟨⟨by omega, hi⟩, fits64 (by omega) (by omega), ⟨hm.1, by omega, fits64 (by omega) (by omega)⟩, ⟨by omega, by rw [hlen]; exact hi⟩, by rw [hlen]; exact hi, ⟨by omega, hi⟩, fits64 (by omega) (by omega), ⟨hm.1, by omega⟩, by simp only [big, List.length_singleton]; omega, ⟨by omega, by rw [List.length_set, hlen]; exact hi⟩, by rw [List.length_set, hlen]; exact hi, ?_⟩
    have hg : ((fls0 pr cl).take i ++ List.replicate (cl.length - i) 0).set i (cl[i] * pr / sumL cl) = (fls0 pr cl).take (i + 1) ++ List.replicate (cl.length - (i + 1)) 0 := hset
    rw [List.getElem_set_self]
    rw [hg]
    rw [take_sum (by omega : i < (fls0 pr cl).length), ef, List.take_succ_eq_append_getElem (by omega : i < (offs0 pr cl).length), eo] at hK
    have e2 : pr - sumL ((fls0 pr cl).take i) - cl[i] * pr / sumL cl = pr - (sumL ((fls0 pr cl).take i) + cl[i] * pr / sumL cl) := by omega
    rw [e2]
    exact ⟨fits64 (by omega) (by omega), fits64 (by omega) (by omega), hK⟩
  · intro K _
    dsimp only
    have hlen : ((fls0 pr cl).take cl.length ++ List.replicate (cl.length - cl.length) 0).length = cl.length := by simp [hfl]
    rw [br_decide]
    refine ⟨fun h => absurd h (by rw [hlen]; omega), fun _ => ?_⟩
    have e1 : (fls0 pr cl).take cl.length ++ List.replicate (cl.length - cl.length) 0 = fls0 pr cl := by
      rw [List.take_of_length_le (by omega), Nat.sub_self]; simp
    have e2 : (offs0 pr cl).take cl.length = offs0 pr cl := List.take_of_length_le (by omega)
    have e3 : pr - sumL ((fls0 pr cl).take cl.length) = leftN pr cl := by rw [List.take_of_length_le (by omega)]; rfl
    rw [e1, e2, e3]
    refine Loop.upto (fun q => (leftN pr cl - (q : Int), (nearUp pr cl q).1, (nearUp pr cl q).2, ())) (fun i => True) (leftN pr cl).toNat ?_ trivial ?_ ?_
    · show (leftN pr cl - 0, fls0 pr cl, offs0 pr cl, ()) = _
      rw [Int.sub_zero]
    · intro q K2 hq _ hK2
      dsimp only
      have hK2 := hK2 trivial
      obtain ⟨n1, n2⟩ := nearUp_len pr cl q
      have hnin := near_in hf q
      have hnext : nearUp pr cl (q + 1) = ((nearUp pr cl q).1.set (bestIx (nearUp pr cl q).2) ((nearUp pr cl q).1.getD (bestIx (nearUp pr cl q).2) 0 + 1), (nearUp pr cl q).2.set (bestIx (nearUp pr cl q).2) (-1)) := rfl
      rw [hnext] at hK2
      have hbx : bestIx (nearUp pr cl q).2 = bTo (nearUp pr cl q).2 (nearUp pr cl q).2.length := rfl
      rw [hbx] at hK2
      generalize (nearUp pr cl q).1 = out at n1 hnin hK2 ⊢
      generalize (nearUp pr cl q).2 = off at n2 hK2 ⊢
      rw [br_decide]
      refine ⟨fun _ => ?_, fun h => absurd hq (by omega)⟩
      refine Loop.upto (fun i => (leftN pr cl - (q : Int), ((bTo off (i + 1) : Nat) : Int), ((i + 1 : Nat) : Int), out, off, ())) (fun i => True) (off.length - 1) ?_ trivial ?_ ?_
      · show (leftN pr cl - (q : Int), ((bTo off 1 : Nat) : Int), ((0 + 1 : Nat) : Int), out, off, ()) = _
        rw [bTo_one]; rfl
      · intro i K3 hi _ hK3
        dsimp only
        have hK3 := hK3 trivial
        have hb := bTo_lt off i
        rw [bTo_succ off (i + 1)] at hK3
        generalize bTo off (i + 1) = b at hb hK3 ⊢
        rw [br_decide]
        refine ⟨fun _ => ?_, fun h => absurd hi (by omega)⟩
        simp only [Int.toNat_natCast]
        have hi1 : i + 1 < off.length := by omega
        have hbl : b < off.length := by omega
        refine ⟨⟨by omega, hi1⟩, hi1, ⟨by omega, hbl⟩, hbl, ?_⟩
        unfold bestStep at hK3
        rw [getD_at hi1, getD_at hbl] at hK3
        rw [br_decide]
        refine ⟨fun h => ⟨fits64 (by omega) (by omega), ?_⟩, fun h => ⟨fits64 (by omega) (by omega), ?_⟩⟩
        · rw [if_pos h] at hK3; exact hK3
        · rw [if_neg h] at hK3; exact hK3
      · intro K3 _
        dsimp only
        rw [br_decide]
        refine ⟨fun h => absurd h (by omega), fun _ => ?_⟩
        rw [show off.length - 1 + 1 = off.length by omega]
        have hb : bTo off off.length < out.length := by
          have := bTo_lt off (off.length - 1)
          rw [show off.length - 1 + 1 = off.length by omega] at this
          omega
        generalize bTo off off.length = b at hb hK2 ⊢
        have h1 := hnin b
        rw [getD_at hb] at h1 hK2
        simp only [Int.toNat_natCast]
        have e2 : leftN pr cl - (q : Int) - 1 = leftN pr cl - ((q + 1 : Nat) : Int) := by omega
        rw [e2]
        exact ⟨⟨by omega, hb⟩, hb, fits64 (by omega) (by omega), ⟨by omega, hb⟩, hb, ⟨by omega, by omega⟩, by omega, fits64 (by omega) (by omega), hK2⟩
    · intro K2 _
      dsimp only
      rw [br_decide]
      exact ⟨fun h => absurd h (by omega), fun _ => hk⟩

theorem k25 (hG : Good Try.prog (envOf [(27, mkC [v27]), (65, mkC [v65])])) : v25.Kept Try.prog 25 := by
  rintro ⟨pr, cl, ⟨⟩⟩ hpre k hk
  change Int at pr
  change List Int at cl
  refine aspec hmix hG Try.func25 tx25 (Eq.mpr (eq25 pr cl k) ?_)
  replace hk : k (.tup [.reg 0 false, rI (yearErr pr cl)]) [.sl (.int .i64) (nearL pr cl)] := hk
  unfold vc25
  have hl : cl.length ≤ 14 := hpre
  refine ⟨hl, ?_⟩
  rw [br_bne]
  refine ⟨fun h => ⟨hl, ?_⟩, fun h => ⟨h, ?_⟩⟩
  · have e : nearL pr cl = [] := by unfold nearL; rw [if_neg h]
    rw [e] at hk; exact hk
  · have e : nearL pr cl = nearOf pr cl := by unfold nearL; rw [if_pos h]
    rw [e, h] at hk; exact hk

theorem k24 (hG : Good Try.prog (envOf [(55, mkC [v55]), (58, mkC [v58]), (63, mkC [v63]), (64, mkC [v64])])) : v24.Kept Try.prog 24 := by
  rintro ⟨pr, cl, ⟨⟩⟩ hpre k hk
  change Int at pr
  change List Int at cl
  refine aspec hmix hG Try.func24 tx24 (Eq.mpr (eq24 pr cl k) ?_)
  replace hk : k (.tup [.reg 0 false, rI (yearErr pr cl)]) [.sl (.int .i64) (nearL pr cl)] := hk
  unfold vc24
  have hl : cl.length ≤ 14 := hpre
  refine ⟨⟨hl, Nat.zero_le _, fun l h => absurd h List.not_mem_nil⟩, ?_⟩
  refine br_errsO (p := fun e => k (.tup [.reg 0 false, rI e]) [.sl (.int .i64) []]) (fun h => ?_) (fun h => ?_)
  · rw [open_nil] at h ⊢
    have e : nearL pr cl = [] := by unfold nearL; rw [if_neg h]
    rw [e] at hk; exact hk
  rw [open_nil] at h
  have hf : yearErr pr cl = 0 := h
  obtain ⟨f1, f2, f3, f4, f5, f6⟩ := fine_spec hf
  obtain ⟨g1, g2, g3, g4⟩ := sum_ok hf
  have hleft := left_in (pr := pr) (cl := cl) (by omega) (by omega)
  have hfl : (fls0 pr cl).length = cl.length := by unfold fls0; rw [List.length_map]
  refine ⟨⟨g1, g2⟩, ?_⟩
  refine Loop.upto (fun i => (pr - sumL ((fls0 pr cl).take i), cl, ((cl.length : Nat) : Int), (i : Int), pr, cl, sumL cl, (fls0 pr cl).take i, (List.range i).map Int.ofNat, ())) (fun i => True) cl.length ?_ trivial ?_ ?_
  · show (pr - 0, cl, ((cl.length : Nat) : Int), ((0 : Nat) : Int), pr, cl, sumL cl, [], [], ()) = _
    rw [Int.sub_zero]; rfl
  · intro i K hi _ hK
    dsimp only
    have hK := hK trivial
    have ef : (fls0 pr cl)[i]'(by omega) = cl[i] * pr / sumL cl := by unfold fls0; rw [List.getElem_map]
    have hm := clean_mul hf hi
    have hq := quo_in hm.1 g3
    have hsl : ((fls0 pr cl).take i).length = i := by rw [List.length_take]; omega
    have hrl : ((List.range i).map Int.ofNat).length = i := by simp
    have htk : (fls0 pr cl).take i ++ [cl[i] * pr / sumL cl] = (fls0 pr cl).take (i + 1) := by rw [List.take_succ_eq_append_getElem (by omega : i < (fls0 pr cl).length), ef]
    have hrk : (List.range i).map Int.ofNat ++ [(i : Int)] = (List.range (i + 1)).map Int.ofNat := by rw [List.range_succ, List.map_append]; rfl
    have hsb : 0 ≤ sumL ((fls0 pr cl).take i) ∧ sumL ((fls0 pr cl).take i) ≤ 20000 * (((fls0 pr cl).take i).length : Int) := sum_bound (fun x hx => by
      obtain ⟨j, hj, rfl⟩ := List.getElem_of_mem (List.mem_of_mem_take hx)
      have hj' : j < cl.length := by omega
      rw [fls_at hj' hj]
      have h1 := clean_mul hf hj'
      have := quo_in h1.1 g3
      omega)
    rw [br_decide]
    refine ⟨fun _ => ?_, fun h => absurd hi (by omega)⟩
    simp only [Int.toNat_natCast]
    refine ⟨⟨by omega, hi⟩, fits64 (by omega) (by omega), ⟨hm.1, by omega, fits64 (by omega) (by omega)⟩, by simp only [big, List.length_singleton]; omega, by simp only [big, List.length_singleton]; omega, ⟨by omega, by rw [List.length_append, hsl]; simp⟩, by rw [List.length_append, hsl]; simp, ?_⟩
    have hg : ((fls0 pr cl).take i ++ [cl[i] * pr / sumL cl])[i]'(by rw [List.length_append, hsl]; simp) = cl[i] * pr / sumL cl := by
      rw [List.getElem_append_right (by omega)]; simp [hsl]
    rw [hg, htk, hrk]
    rw [take_sum (by omega : i < (fls0 pr cl).length), ef] at hK
    have e2 : pr - sumL ((fls0 pr cl).take i) - cl[i] * pr / sumL cl = pr - (sumL ((fls0 pr cl).take i) + cl[i] * pr / sumL cl) := by omega
    rw [e2]
    exact ⟨fits64 (by omega) (by omega), fits64 (by omega) (by omega), hK⟩
  · intro K _
    dsimp only
    rw [br_decide]
    refine ⟨fun h => absurd h (by omega), fun _ => ?_⟩
    have e1 : (fls0 pr cl).take cl.length = fls0 pr cl := List.take_of_length_le (by omega)
    have e3 : pr - sumL ((fls0 pr cl).take cl.length) = leftN pr cl := by rw [e1]; rfl
    rw [e3, e1]
    obtain ⟨S, s1, s2, s3⟩ := order_isort pr cl cl.length
    have hSl : S.length = cl.length := by rw [s1.length_eq, List.length_range]
    have hspec := near_spec (pr := pr) (cl := cl) (by omega) s1 s2
    have hil : (((isort pr cl ((List.range cl.length).map Int.ofNat)).length : Nat) : Int) = (cl.length : Int) := by rw [s3, List.length_map, hSl]
    refine ⟨⟨hf, rfl, fun x hx => ?_, by show ((List.range cl.length).map Int.ofNat).length ≤ 8; rw [List.length_map, List.length_range]; exact f4⟩, ⟨hleft.1, Int.le_trans (Int.le_of_lt hleft.2) (Int.le_of_eq hil.symm)⟩, ?_⟩
    · obtain ⟨i, hi, rfl⟩ := List.mem_map.1 hx
      have := List.mem_range.1 hi
      exact ⟨by show (0 : Int) ≤ (i : Int); omega, by show (i : Int) < (cl.length : Int); omega⟩
    rw [s3]
    have hlt : (((leftN pr cl).toNat : Nat) : Int) = leftN pr cl := by omega
    refine Loop.upto (fun i => ((0 : Nat), (leftN pr cl).toNat, (((leftN pr cl).toNat : Nat) : Int), (i : Int), (nearUp pr cl i).1, S.map Int.ofNat, ())) (fun i => True) (leftN pr cl).toNat rfl trivial ?_ ?_
    · intro i K2 hi _ hK2
      dsimp only
      have hK2 := hK2 trivial
      obtain ⟨n1, n2⟩ := nearUp_len pr cl i
      have hSi : i < S.length := by omega
      have hst := (hspec i (by omega)).2 hSi
      have hnext : (nearUp pr cl (i + 1)).1 = (nearUp pr cl i).1.set S[i] ((nearUp pr cl i).1.getD S[i] 0 + 1) := by rw [hst]; rfl
      have hSin : S[i] < cl.length := List.mem_range.1 (s1.subset (List.getElem_mem hSi))
      have hnin := near_in hf i S[i]
      rw [hnext] at hK2
      generalize (nearUp pr cl i).1 = out at n1 hnin hK2 ⊢
      rw [getD_at (by omega : S[i] < out.length)] at hnin hK2
      rw [br_decide]
      refine ⟨fun _ => ?_, fun h => absurd hi (by omega)⟩
      simp only [Int.toNat_natCast, Nat.zero_add]
      have hel : (S.map Int.ofNat)[i]'(by rw [List.length_map]; exact hSi) = ((S[i] : Nat) : Int) := by rw [List.getElem_map]; rfl
      refine ⟨⟨by omega, hi⟩, by rw [List.length_map]; exact hSi, ?_⟩
      simp only [hel, Int.toNat_natCast]
      exact ⟨⟨by omega, by omega⟩, by omega, fits64 (by omega) (by omega), ⟨by omega, by omega⟩, by omega, fits64 (by omega) (by omega), hK2⟩
    · intro K2 _
      dsimp only
      rw [br_decide]
      refine ⟨fun h => absurd h (by omega), fun _ => ?_⟩
      have e : nearL pr cl = nearOf pr cl := by unfold nearL; rw [if_pos hf]
      rw [e, hf] at hk
      exact hk
end Go.Abs.Farm
end

