/- Part 7 of the road to this seat's statements: lemmas about a small interpreter over the model's code, and about the functions that it is used on. No condition of its own. -/
import Derived.ProofKit
import Derived.OpenShut
import Derived.Carry
import Derived.Deep.Slices
import Derived.Test.YtpeplcbngnedbaaW6

section
/- The king's statements: one more mark is looked at. -/
open Go.Proofs
set_option maxRecDepth 100000
set_option linter.unusedVariables false
namespace Go.Abs.King

theorem br3 {b1 b2 b3 : Bool} {f g X : Prop} (h2 : b1 = true → b2 = true) (h3 : b1 = true → b3 = false) (hX : X) : br b1 (br b2 (br b3 f X) g) X := by
  cases b1 with
  | true => rw [h2 rfl, h3 rfl]; exact hX
  | false => exact hX
theorem counts_all (pots : List (List Int)) (j : Nat) : ∀ l : List Int, (∀ i ∈ l, 0 ≤ mk pots i.toNat j ∧ mk pots i.toNat j ≤ 4) → l.countP (fun i => decide (mk pots i.toNat j = 0)) + l.countP (fun i => decide (mk pots i.toNat j = 1)) + l.countP (fun i => decide (mk pots i.toNat j = 2)) + l.countP (fun i => decide (mk pots i.toNat j = 3)) + l.countP (fun i => decide (mk pots i.toNat j = 4)) = l.length
  | [], _ => by simp
  | x :: l, h => by
    have := counts_all pots j l (fun i hi => h i (List.mem_cons_of_mem _ hi))
    have hx := h x (by simp)
    simp only [List.countP_cons, List.length_cons, decide_eq_true_eq]
    generalize mk pots x.toNat j = w at hx
    by_cases h0 : w = 0
    · subst h0; simp; omega
    · by_cases h1 : w = 1
      · subst h1; simp; omega
      · by_cases h2 : w = 2
        · subst h2; simp; omega
        · by_cases h3 : w = 3
          · subst h3; simp; omega
          · have h4 : w = 4 := by omega
            subst h4; simp; omega

def mostV (pots : List (List Int)) (m b j c : Nat) : Int := (List.range c).foldl (fun a v => max a (looks pots m (partOf pots b j (v : Nat)))) 0
def allV (pots : List (List Int)) (b j : Nat) : Nat → Nat
  | 0 => 0
  | c + 1 => allV pots b j c + cnt (partOf pots b j (c : Nat)) pots.length
def hardV (pots : List (List Int)) (m b j c : Nat) : Bool := (List.range c).any (fun v => decide (looks pots m (partOf pots b j (v : Nat)) < 0))
theorem mostV_succ (pots : List (List Int)) (m b j c : Nat) : mostV pots m b j (c + 1) = max (mostV pots m b j c) (looks pots m (partOf pots b j (c : Nat))) := by
  unfold mostV
  rw [List.range_succ, List.foldl_append]; rfl
theorem hardV_succ (pots : List (List Int)) (m b j c : Nat) : hardV pots m b j (c + 1) = (hardV pots m b j c || decide (looks pots m (partOf pots b j (c : Nat)) < 0)) := by
  unfold hardV
  rw [List.range_succ, List.any_append]
  simp
theorem mostV_ge (pots : List (List Int)) (m b j : Nat) : ∀ c, 0 ≤ mostV pots m b j c ∧ ∀ v, v < c → looks pots m (partOf pots b j (v : Nat)) ≤ mostV pots m b j c
  | 0 => ⟨Int.le_refl _, fun v h => by omega⟩
  | c + 1 => by
    obtain ⟨h1, h2⟩ := mostV_ge pots m b j c
    rw [mostV_succ]
    refine ⟨by omega, fun v hv => ?_⟩
    rcases Nat.lt_or_ge v c with h' | h'
    · have := h2 v h'; omega
    · obtain rfl : v = c := by omega
      omega

theorem k10 (hG : Good Try.prog (envOf [(40, mkC [v40]), (17, mkC [v17]), (46, mkC [v46]), (20, mkC [v20]), (30, mkC [v30]), (43, mkC [v43])])) : v10.Kept Try.prog 10 := by
  rintro ⟨m, pots, which, bits, mark, ⟨⟩⟩ hpre k hk
  change List (List Int) at pots
  change Int at m which bits mark
  refine aspec hmix hG Try.func10 tx10 (Eq.mpr (eq10 m pots which bits mark k) ?_)
  replace hk : k (.bool true) [] := hk
  have hw0 : 0 ≤ which := hpre.1.1
  have hw1 : which ≤ 255 := hpre.1.2
  have hb0 : 0 ≤ bits := hpre.2.1.1
  have hb1 : bits ≤ 255 := hpre.2.1.2
  have hk0 : 0 ≤ mark := hpre.2.2.1
  have hk1 : mark ≤ 255 := hpre.2.2.2
  unfold vc10
  refine ⟨trivial, br_intro (fun h1 => ⟨trivial, hk⟩) (fun h1 => ?_)⟩
  obtain ⟨hf, hs⟩ := fine_of (notfine_f h1)
  obtain ⟨f1, f2, f3, f4⟩ := fine_spec hf
  obtain ⟨mm, rfl⟩ := Int.eq_ofNat_of_zero_le (show 0 ≤ m by omega)
  have hm0 : 0 ≤ which % (pots.length : Int) := Int.emod_nonneg _ (by omega)
  have hm1 : which % (pots.length : Int) < (pots.length : Int) := Int.emod_lt_of_pos _ (by omega)
  have hr0 : 0 ≤ mark % (mm : Int) := Int.emod_nonneg _ (by omega)
  have hr1 : mark % (mm : Int) < (mm : Int) := Int.emod_lt_of_pos _ (by omega)
  obtain ⟨p, hp⟩ := Int.eq_ofNat_of_zero_le hm0
  obtain ⟨j, hj⟩ := Int.eq_ofNat_of_zero_le hr0
  rw [hp] at hm1
  rw [hj] at hr1
  have hpn : p < pots.length := by omega
  have hjm : j < mm := by omega
  simp only [hp, hj, Int.toNat_natCast]
  have hso := seenOf_ok pots mm p bits.toNat
  have hsl := hso.len
  obtain ⟨s0, hs0⟩ : ∃ s0, (seenOf pots mm p bits.toNat).set j (-1) = s0 := ⟨_, rfl⟩
  have hs0l : s0.length = mm := by rw [← hs0, List.length_set]; exact hsl
  have hs0j : s0.getD j 0 = -1 := by rw [← hs0, getD_set _ _ _ _ _ (by omega), if_pos rfl]
  have hs0o : SeenOf pots mm p s0 := by
    refine ⟨hs0l, fun t ht => ?_⟩
    by_cases e : j = t
    · subst e; exact Or.inl hs0j
    · rw [← hs0, getD_set _ _ _ _ _ (by omega), if_neg e]
      exact hso.val t ht
  have herr0 := hs0o.err hf hpn
  have hmem0 := hs0o.mem hpn
  have hlE0 := looksE_ok herr0
  simp only [hs0]
  obtain ⟨b, hb⟩ : ∃ b, agree pots mm s0 = b := ⟨_, rfl⟩
  have hblt : b < 2 ^ pots.length := hb ▸ agree_lt _ _ _
  rw [hb] at hmem0 hlE0
  have hL0 : seenL (mm : Int) pots s0 = listed b pots.length := by
    unfold seenL
    rw [if_neg (not_not_intro herr0), Int.toNat_natCast, hb]
  have hbd := looks_bounds pots mm b
  have hlm := looks_le_m hf hblt
  have hcl := cnt_le b pots.length
  have hcnt : (listed b pots.length).length = cnt b pots.length := rfl
  have hpos : 1 ≤ cnt b pots.length := by
    have := (mem_listed' hblt p).2 hmem0
    exact List.length_pos_of_mem this
  refine ⟨fits64 (by omega) (by omega), ⟨hk0, by omega⟩, fits64 (by omega) (by omega), ⟨hw0, by omega⟩, ⟨hf, ⟨by show (0 : Int) ≤ (p : Int); omega, by show (p : Int) < (pots.length : Int); omega⟩, hb0, hb1⟩, ⟨by omega, by omega⟩, by omega, ⟨hs, by show ((seenOf pots mm p bits.toNat).set j (-1)).length ≤ 1152921504606846976; rw [hs0]; omega⟩, ⟨hs, by show ((seenOf pots mm p bits.toNat).set j (-1)).length ≤ 1152921504606846976; rw [hs0]; omega⟩, ?_⟩
  rw [herr0, n00, ff1, br_t, br_t, hL0, hlE0]
  refine ⟨by show (listed b pots.length).length ≤ 1152921504606846976; omega, ?_⟩
  rw [listed_isList b pots.length, Bool.not_true, ff1, br_t]
  have c1 : ((((listed b pots.length).length : Nat) : Int) == 0) = false := beq_false_of_ne (by omega)
  have c2 : decide (looks pots mm b < -1) = false := decide_eq_false (by omega)
  have c3 : Bool.not ((looks pots mm b == 0) == ((((listed b pots.length).length : Nat) : Int) == 1)) = false := by
    have : (looks pots mm b == 0) = ((((listed b pots.length).length : Nat) : Int) == 1) := by
      rw [Bool.eq_iff_iff, beq_iff_eq, beq_iff_eq]
      constructor
      · intro h
        have := cnt_big hblt ((looks_iff hf hblt 0).2 (by omega))
        omega
      · intro h
        rw [looks_eq, if_pos (by omega)]
    rw [this]
    cases ((((listed b pots.length).length : Nat) : Int) == 1) <;> rfl
  rw [c1, c2, c3, ff1, br_t, br_t, br_f]
  have hpart : ∀ v : Nat, v < 5 → SeenOf pots mm p s0 → seenErr (mm : Int) pots (s0.set j (v : Int)) = 0 ∧ looksE (mm : Int) pots (s0.set j (v : Int)) = looks pots mm (partOf pots b j (v : Int)) ∧ seenL (mm : Int) pots (s0.set j (v : Int)) = listed (partOf pots b j (v : Int)) pots.length := by
    intro v hv _
    have hag := agree_set (pots := pots) hs0l hjm (show s0.getD j 0 < 0 by omega) (show (0 : Int) ≤ (v : Int) by omega)
    rw [hb] at hag
    have he : seenErr (mm : Int) pots (s0.set j (v : Int)) = 0 := by
      refine seenErr_ok hf (by rw [List.length_set]; exact hs0l) (fun x hx => ?_)
      rcases List.mem_or_eq_of_mem_set hx with hx | hx
      · obtain ⟨t, ht, rfl⟩ := List.getElem_of_mem hx
        obtain ⟨_, _, g1, g2⟩ := mk_val hf hpn (show t < mm by omega)
        rw [← getD_lt _ _ ht]
        rcases hs0o.val t (by omega) with e | e <;> omega
      · omega
    refine ⟨he, by rw [looksE_ok he, hag], ?_⟩
    unfold seenL
    rw [if_neg (not_not_intro he), Int.toNat_natCast, hag]
  let S : Nat → List Int := fun c => if c = 0 then s0 else s0.set j ((c - 1 : Nat) : Int)
  have hSs : ∀ c : Nat, (S c).set j (c : Int) = s0.set j (c : Int) := by
    intro c
    show (if c = 0 then s0 else s0.set j ((c - 1 : Nat) : Int)).set j (c : Int) = _
    split
    · rfl
    · rw [List.set_set]
  have hSn : ∀ c : Nat, s0.set j (c : Int) = S (c + 1) := by
    intro c
    show _ = if c + 1 = 0 then s0 else s0.set j ((c + 1 - 1 : Nat) : Int)
    rw [if_neg (by omega)]; rfl
  have hSl : ∀ c, (S c).length = mm := by
    intro c
    show (if c = 0 then s0 else s0.set j ((c - 1 : Nat) : Int)).length = mm
    split
    · exact hs0l
    · rw [List.length_set]; exact hs0l
  have hallb : ∀ c, c ≤ 5 → allV pots b j c ≤ 8 * c := by
    intro c
    induction c with
    | zero => intro _; exact Nat.le_refl _
    | succ c ih =>
      intro hc
      have := ih (by omega)
      have h2 := cnt_le (partOf pots b j (c : Int)) pots.length
      show allV pots b j c + cnt (partOf pots b j (c : Nat)) pots.length ≤ 8 * (c + 1)
      omega
  refine Loop.upto (fun c => ((j : Int), looks pots mm b, mostV pots mm b j c, ((allV pots b j c : Nat) : Int), hardV pots mm b j c, (c : Int), (mm : Int), pots, S c, listed b pots.length, ())) (fun c => True) 5 rfl trivial ?_ ?_
  · intro c K hc _ hK
    have hK := hK trivial
    dsimp only
    obtain ⟨q1, q2, q3⟩ := hpart c hc hs0o
    have hplt := partOf_lt pots b j (c : Int)
    have hpb := looks_bounds pots mm (partOf pots b j (c : Int))
    have hpl := looks_le_m hf hplt
    have hpc := cnt_le (partOf pots b j (c : Int)) pots.length
    have hpcl : (listed (partOf pots b j (c : Int)) pots.length).length = cnt (partOf pots b j (c : Int)) pots.length := rfl
    have hab := hallb c (by omega)
    have hSc := hSl c
    rw [br_decide]
    simp only [Int.toNat_natCast, hSs]
    refine ⟨fun _ => ⟨⟨by omega, by omega⟩, by omega, ⟨hs, by show ((S c).set j (c : Int)).length ≤ 1152921504606846976; rw [List.length_set]; omega⟩, ⟨hs, by show ((S c).set j (c : Int)).length ≤ 1152921504606846976; rw [List.length_set]; omega⟩, ?_⟩, fun h => absurd hc (by omega)⟩
    rw [q1, n00, ff1, br_t, br_t, q2, q3]
    have d1 : decide (looks pots mm (partOf pots b j (c : Int)) < -1) = false := decide_eq_false (by omega)
    rw [d1, ff1, br_t]
    have hmono : 0 ≤ looks pots mm b → 0 ≤ looks pots mm (partOf pots b j (c : Int)) ∧ looks pots mm (partOf pots b j (c : Int)) ≤ looks pots mm b := fun h => looks_mono hf hblt hplt (fun i hi => ((part_set hblt i).1 hi).1) h
    refine br3 (fun h => ?_) (fun h => ?_) ?_
    · have := hmono (of_decide_eq_true (eq_of_beq h))
      rw [decide_eq_false (by omega)]; rfl
    · have := hmono (of_decide_eq_true (eq_of_beq h))
      exact decide_eq_false (by omega)
    rw [hSn] 
    rw [mostV_succ, hardV_succ] at hK
    have hsub : ∀ x ∈ listed (partOf pots b j (c : Int)) pots.length, x ∈ listed b pots.length := by
      intro x hx
      obtain ⟨i, rfl, hi, ht⟩ := mem_listed hx
      exact listed_mem.2 ⟨i, rfl, hi, ((part_set hblt i).1 ht).1⟩
    have hal : ((allV pots b j (c + 1) : Nat) : Int) = ((allV pots b j c : Nat) : Int) + (((listed (partOf pots b j (c : Int)) pots.length).length : Nat) : Int) := by
      show ((allV pots b j c + cnt (partOf pots b j (c : Nat)) pots.length : Nat) : Int) = _
      rw [hpcl]; omega
    rw [hal] at hK
    generalize listed (partOf pots b j (c : Int)) pots.length = x at hsub hK hpcl ⊢
    generalize hkk : looks pots mm (partOf pots b j (c : Int)) = kk at *
    have hbl : (listed b pots.length).length ≤ 8 := by omega
    generalize listed b pots.length = l at hsub hK hbl ⊢
    refine Loop.upto (fun t => ((j : Int), looks pots mm b, mostV pots mm b j c, ((allV pots b j c : Nat) : Int), hardV pots mm b j c, (c : Int), kk, (t : Int), (mm : Int), pots, S (c + 1), l, x, ())) (fun t => True) x.length rfl trivial ?_ ?_
    · intro t K2 ht _ hK2
      have hK2 := hK2 trivial
      dsimp only
      rw [br_decide]
      refine ⟨fun _ => ?_, fun h => absurd ht (by omega)⟩
      refine Loop.upto (fun i => ((j : Int), looks pots mm b, mostV pots mm b j c, ((allV pots b j c : Nat) : Int), hardV pots mm b j c, (c : Int), kk, (t : Int), (l.take i).any (fun y => y == x[t]), (i : Int), (mm : Int), pots, S (c + 1), l, x, ())) (fun i => True) l.length rfl trivial ?_ ?_
      · intro i K3 hi _ hK3
        have hK3 := hK3 trivial
        rw [any_take_succ _ _ _ hi] at hK3
        dsimp only
        generalize (l.take i).any (fun y => y == x[t]) = z at hK3 ⊢
        rw [br_decide]
        simp only [Int.toNat_natCast]
        refine ⟨fun _ => ?_, fun h => absurd hi (by omega)⟩
        rw [br_bf]
        refine ⟨fun hz => ?_, fun hz => ⟨fits64 (by omega) (by omega), ?_⟩⟩
        · rw [hz, Bool.false_or] at hK3
          exact ⟨⟨by omega, hi⟩, hi, ⟨by omega, ht⟩, ht, fits64 (by omega) (by omega), hK3⟩
        · rw [hz, Bool.true_or] at hK3; exact hK3
      · intro K3 _
        dsimp only
        have hany : l.any (fun y => y == x[t]) = true := List.any_eq_true.2 ⟨x[t], hsub _ (List.getElem_mem ht), by simp⟩
        rw [br_decide, List.take_length, hany, Bool.not_true, br_f]
        exact ⟨fun h => absurd h (by omega), fun _ => ⟨fits64 (by omega) (by omega), hK2⟩⟩
    · intro K2 _
      dsimp only
      rw [br_decide]
      refine ⟨fun h => absurd h (by omega), fun _ => ⟨fits64 (by omega) (by omega), ?_⟩⟩
      have hmax : (ite (kk > mostV pots mm b j c) kk (mostV pots mm b j c)) = max (mostV pots mm b j c) kk := by
        rw [Int.max_def]
        split <;> split <;> omega
      rw [hmax, br_bf]
      refine ⟨fun hz => ⟨fits64 (by omega) (by omega), ?_⟩, fun hz => ⟨fits64 (by omega) (by omega), ?_⟩⟩
      · rw [hz, Bool.false_or] at hK; exact hK
      · rw [hz, Bool.true_or] at hK; exact hK
  · intro K _
    dsimp only
    have hall : allV pots b j 5 = cnt b pots.length := by
      have h := counts_all pots j (listed b pots.length) (fun i hi => by
        obtain ⟨t, rfl, ht, _⟩ := mem_listed hi
        obtain ⟨_, _, g1, g2⟩ := mk_val hf ht hjm
        rw [Int.toNat_natCast]; exact ⟨g1, g2⟩)
      have e : allV pots b j 5 = 0 + cnt (partOf pots b j 0) pots.length + cnt (partOf pots b j 1) pots.length + cnt (partOf pots b j 2) pots.length + cnt (partOf pots b j 3) pots.length + cnt (partOf pots b j 4) pots.length := rfl
      rw [e, cnt_part hblt, cnt_part hblt, cnt_part hblt, cnt_part hblt, cnt_part hblt]
      omega
    have hhard : hardV pots mm b j 5 = decide (looks pots mm b < 0) := by
      rw [Bool.eq_iff_iff, decide_eq_true_eq]
      unfold hardV
      rw [List.any_eq_true]
      constructor
      · rintro ⟨v, hv, h⟩
        have h := of_decide_eq_true h
        rcases Int.lt_or_le (looks pots mm b) 0 with h' | h'
        · exact h'
        · have := looks_mono hf hblt (partOf_lt pots b j (v : Int)) (fun i hi => ((part_set hblt i).1 hi).1) h'
          omega
      · intro h
        have hnt : ¬ Told pots mm (B b) := fun ht => by have := (told_looks hf hblt).2 ht; omega
        obtain ⟨i, hi⟩ := Classical.not_forall.1 hnt
        obtain ⟨t, ht⟩ := Classical.not_forall.1 hi
        have h3 : B b i ∧ B b t ∧ i ≠ t ∧ ¬ ∃ x, x < mm ∧ mk pots i x ≠ mk pots t x := by
          refine ⟨?_, ?_, ?_, ?_⟩
          · exact Classical.byContradiction (fun h => ht (fun a => absurd a h))
          · exact Classical.byContradiction (fun h => ht (fun _ a => absurd a h))
          · exact fun h => ht (fun _ _ a => absurd h a)
          · exact fun h => ht (fun _ _ _ => h)
        obtain ⟨g1, g2, g3, g4⟩ := h3
        obtain ⟨_, _, w1, w2⟩ := mk_val hf (lt_of_test hblt g1) hjm
        have hsame : mk pots i j = mk pots t j := Classical.byContradiction (fun h => g4 ⟨j, hjm, h⟩)
        refine ⟨(mk pots i j).toNat, List.mem_range.2 (by omega), decide_eq_true ?_⟩
        have e : (((mk pots i j).toNat : Nat) : Int) = mk pots i j := by omega
        rw [e]
        have hplt := partOf_lt pots b j (mk pots i j)
        rcases Int.lt_or_le (looks pots mm (partOf pots b j (mk pots i j))) 0 with h' | h'
        · exact h'
        · exact absurd ((told_looks hf hplt).1 h' i t ((part_set hblt i).2 ⟨g1, rfl⟩) ((part_set hblt t).2 ⟨g2, hsame.symm⟩) g3) g4
    obtain ⟨hm1, hm2⟩ := mostV_ge pots mm b j 5
    have hle5 : ¬ ((5 : Nat) : Int) ≤ 4 := by omega
    rw [br_decide, hall, hhard]
    refine ⟨fun h => absurd h hle5, fun _ => ?_⟩
    have e1 : (((cnt b pots.length : Nat) : Int) == (((listed b pots.length).length : Nat) : Int)) = true := by rw [hcnt]; simp
    have e2 : (decide (looks pots mm b < 0) == decide (looks pots mm b < 0)) = true := by simp
    rw [e1, e2, tt1, br_t, br_t]
    rw [br_false]
    refine ⟨fun hn => ⟨fits64 (by omega) (by omega), ?_⟩, fun hn => ⟨trivial, hk⟩⟩
    have hT : T (mk pots) mm ((mostV pots mm b j 5).toNat + 1) (B b) := by
      refine Or.inr ⟨j, hjm, fun v => ?_⟩
      by_cases hv : ∃ u : Nat, u < 5 ∧ v = (u : Int)
      · obtain ⟨u, hu, rfl⟩ := hv
        have hplt := partOf_lt pots b j (u : Int)
        have h1 := looks_mono hf hblt hplt (fun i hi => ((part_set hblt i).1 hi).1) (show 0 ≤ looks pots mm b by omega)
        have h2 := hm2 u hu
        exact T_sub _ (fun i hi => (part_set hblt i).2 hi) ((looks_iff hf hplt (mostV pots mm b j 5).toNat).2 ⟨h1.1, by omega⟩)
      · refine T_one (fun i t hi _ => ?_) _
        exfalso
        obtain ⟨_, _, w1, w2⟩ := mk_val hf (lt_of_test hblt hi.1) hjm
        exact hv ⟨v.toNat, by have := hi.2; omega, by have := hi.2; omega⟩
    have := (looks_iff hf hblt _).1 hT
    have d2 : decide (mostV pots mm b j 5 ≥ looks pots mm b - 1) = true := decide_eq_true (by omega)
    rw [d2, tt1, br_t]
    exact ⟨trivial, hk⟩
end Go.Abs.King
end

section
/- What comes in: arguments that can be read are plain data, of which all cells are known. -/
namespace Go.Abs
open Go.ChangeShapes Go.WideShapes Go.RowKit

/-- All that lies in a world is known, for good. -/
def knowAll (w : World) : Know where
  cells := fun b => match w.heap[b]? with
    | some (.cells cs _ _) => some cs
    | _ => none
  inv := fun _ => none
  y := none

theorem knowAll_cells {w : World} {b : Nat} {cs : Array Value} (h : (knowAll w).cells b = some cs) : ∃ e fz, w.heap[b]? = some (.cells cs e fz) := by
  simp only [knowAll] at h
  split at h
  · rename_i cs' e fz hb
    cases h
    exact ⟨e, fz, hb⟩
  · cases h

theorem wok_all (w : World) : WOk (fun b => b < w.heap.size) (knowAll w) w where
  knows := ⟨fun b cs h => knowAll_cells h, fun b p h => by cases h⟩
  lt := fun b h => h
  inv := fun b p h => by cases h
  apart := fun b p h => by cases h

theorem below_of_kept {w w' : World} (h : Kept (fun b => b < w.heap.size) w w') : Below w.heap.size w w' := ⟨h.os, h.tape, h.output, h.size, fun k hk => h.block k hk⟩

theorem cells_slab {w : World} {base : Nat} {a : Addr} {n : Nat} {cs : List Value} (h : w.cells? base a n = some cs) (hn : 0 < n) :
    a.spot = none ∧ ∃ arr, (knowAll w).cells a.block = some arr ∧ cs = slab arr a.off n := by
  obtain ⟨_, hl, hc⟩ := World.cells?_some h
  have h0 := hc 0 hn
  have e0 : a.add 0 = a := by simp [Addr.add]
  rw [e0, List.getElem?_eq_getElem (by omega)] at h0
  have hs := World.cell?_spot h0
  refine ⟨hs, ?_⟩
  have hb : ∃ arr e fz, w.heap[a.block]? = some (.cells arr e fz) := by
    unfold World.cell? at h0
    split at h0
    · exact ⟨_, _, _, ‹_›⟩
    · cases h0
  obtain ⟨arr, e, fz, hb⟩ := hb
  refine ⟨arr, by simp only [knowAll, hb], ?_⟩
  have hcell : ∀ i, i < n → arr[a.off + i]? = cs[i]? := by
    intro i hi
    rw [← hc i hi]
    have e1 : (a.add i).block = a.block := by unfold Addr.add; split <;> rfl
    have e2 : (a.add i).off = a.off + i := by unfold Addr.add; split <;> simp_all
    have e3 : (a.add i).spot = none := by unfold Addr.add; split <;> simp_all
    unfold World.cell?
    rw [e1, hb]
    simp only [e3, e2, Option.isSome_none, Bool.false_eq_true, if_false]
  apply List.ext_getElem?
  intro i
  unfold slab
  rw [List.getElem?_take, List.getElem?_drop]
  by_cases hi : i < n
  · rw [if_pos hi, ← hcell i hi, Array.getElem?_toList]
  · rw [if_neg hi, List.getElem?_eq_none (by omega)]

/-- All numbers fit their kinds. -/
def Ty.wf : (t : Ty) → t.den → Prop
  | .int k, n => (Lit.int k n).wf = true
  | .bool, _ => True
  | .slice e, l => ∀ x ∈ (show List e.den from l), e.wf x
  | .pair a b, x => a.wf x.1 ∧ b.wf x.2

variable {H : Type} {enc : TypeId × Value → H} {P : Program} {w : World} {base : Nat} {spare : Nat → Bool} {held : Bool}

theorem trod_bool {t : TypeId} {fuel : Nat} {cs : List Value} {x : DataW H × List MemPlace} (ht : P.underlying t = some .bool) (h : DataW.trod enc P w base spare held fuel t cs = some x) : ∃ b, cs = [.bool b] := by
  cases fuel with
  | zero => simp [DataW.trod] at h
  | succ n =>
    unfold DataW.trod at h
    rw [ht] at h
    split at h <;> simp_all

theorem den_fields {f : TypeId → Option Ty} {K : Know} {n : Nat} {cs : List Value} (hsz : ∀ t ty, f t = some ty → P.cellsOf t = ty.size)
    (hf : ∀ t ty, f t = some ty → ∀ cs x, DataW.trod enc P w base spare held n t cs = some x → ∃ y : ty.den, DenRep K ty y cs ∧ ty.wf y) :
    ∀ (fs : List Field) (o : Nat) (ty : Ty), tyFields f fs o = some ty → cs.length = o + ty.size → (∀ a ∈ fs, ∃ x, DataW.trod enc P w base spare held n a.type ((cs.drop a.offset).take (P.cellsOf a.type)) = some x) → ∃ y : ty.den, DenRep K ty y (cs.drop o) ∧ ty.wf y
  | [], _, _, h, _, _ => by simp [tyFields] at h
  | [a], o, ty, h, hl, hx => by
    replace h : (if a.offset = o then f a.type else none) = some ty := h
    split at h
    · rename_i ho
      obtain ⟨x, hx⟩ := hx a (by simp)
      rw [hsz _ _ h, ho, List.take_of_length_le (by rw [List.length_drop]; omega)] at hx
      exact hf _ _ h _ _ hx
    · cases h
  | a :: b :: r, o, ty, h, hl, hx => by
    replace h : (if a.offset = o then (match f a.type with
      | some x => match tyFields f (b :: r) (o + x.size) with
        | some y => some (.pair x y)
        | none => none
      | none => none) else none) = some ty := h
    split at h
    · rename_i ho
      split at h
      · rename_i x1 h1
        split at h
        · rename_i x2 h2
          cases h
          simp only [Ty.size] at hl
          obtain ⟨z, hz⟩ := hx a (by simp)
          rw [hsz _ _ h1, ho] at hz
          obtain ⟨y1, d1, w1⟩ := hf _ _ h1 _ _ hz
          obtain ⟨y2, d2, w2⟩ := den_fields hsz hf (b :: r) (o + x1.size) x2 h2 (by omega) (fun c hc => hx c (List.mem_cons_of_mem _ hc))
          refine ⟨(y1, y2), ⟨_, _, ?_, d1, d2⟩, ⟨w1, w2⟩⟩
          rw [← List.drop_drop]
          exact (List.take_append_drop _ _).symm
        · cases h
      · cases h
    · cases h

theorem den_of_trod : ∀ (d : Nat) (t : TypeId) (ty : Ty), tyOf P d t = some ty → ∀ (fuel : Nat) (cs : List Value) (x : DataW H × List MemPlace), DataW.trod enc P w base spare held fuel t cs = some x → ∃ y : ty.den, DenRep (knowAll w) ty y cs ∧ ty.wf y := by
  intro d
  induction d with
  | zero => intro t ty h; simp [tyOf] at h
  | succ d ih =>
    intro t ty h fuel cs x hx
    unfold tyOf at h
    split at h
    · rename_i i k hi hu
      split at h
      · cases h
        obtain ⟨n, rfl, _, hw⟩ := DataW.trod_int hu hx
        exact ⟨n, rfl, hw⟩
      · cases h
    · rename_i i hi hu
      split at h
      · cases h
        obtain ⟨b, rfl⟩ := trod_bool hu hx
        exact ⟨b, rfl, trivial⟩
      · cases h
    · rename_i i e hi hu
      split at h
      · split at h
        · rename_i a ha
          cases h
          obtain ⟨_, _, hi2, hi3, _, _⟩ := tyOf_info d e a ha
          have hco : P.cellsOf e = a.size := by simp only [Program.cellsOf, hi2, Option.map_some, Option.getD_some, hi3]
          rcases Deep.open_slice hu hx with ⟨rfl, _⟩ | ⟨ad, len, cap, m, n, D, Pl, rfl, _, hlc, _, hm, _, hel⟩
          · exact ⟨([] : List a.den), ⟨none, 0, rfl, Nat.le_refl _, Or.inl rfl⟩, fun x hx => by cases hx⟩
          · have hlm : len ≤ m := by rw [hm]; split <;> omega
            have hall : ∀ i, i < len → ∃ y : a.den, a.wf y ∧ ad.spot = none ∧ ∃ arr, (knowAll w).cells ad.block = some arr ∧ DenRep (knowAll w) a y (slab arr (ad.off + i * a.size) a.size) := by
              intro i hi
              obtain ⟨cs', hc1, hc2⟩ := hel i (by omega)
              rw [hco] at hc1
              obtain ⟨s1, arr, s2, s3⟩ := cells_slab hc1 a.size_pos
              obtain ⟨y, y1, y2⟩ := ih e a ha n cs' _ hc2
              have e1 : (ad.add (i * a.size)).block = ad.block := by unfold Addr.add; split <;> rfl
              have e2 : (ad.add (i * a.size)).off = ad.off + i * a.size := by unfold Addr.add; split <;> simp_all
              have e3 : ad.spot = none := by
                obtain ⟨cs0, hc0, _⟩ := hel 0 (by omega)
                rw [hco, Nat.zero_mul] at hc0
                have e0 : ad.add 0 = ad := by simp [Addr.add]
                rw [e0] at hc0
                exact (cells_slab hc0 a.size_pos).1
              rw [e1] at s2
              rw [e2] at s3
              rw [s3] at y1
              exact ⟨y, y2, e3, arr, s2, y1⟩
            let g : Nat → a.den := fun i => if h : i < len then Classical.choose (hall i h) else a.zero
            have hg : ∀ i (h : i < len), g i = Classical.choose (hall i h) := fun i h => by simp only [g, dif_pos h]
            refine ⟨((List.range len).map g : List a.den), ⟨some ad, cap, ?_, ?_, ?_⟩, ?_⟩
            · rw [List.length_map, List.length_range]
            · rw [List.length_map, List.length_range]; exact hlc
            · rcases Nat.eq_zero_or_pos len with h0 | h0
              · subst h0; exact Or.inl rfl
              · have h1 := Classical.choose_spec (hall 0 h0)
                obtain ⟨_, s1, arr, s2, _⟩ := h1
                refine Or.inr ⟨ad.block, ad.off, arr, ?_, s2, ?_⟩
                · rw [← s1]
                · intro i hi
                  rw [List.length_map, List.length_range] at hi
                  have h2 := Classical.choose_spec (hall i hi)
                  obtain ⟨_, _, arr', s3, s4⟩ := h2
                  rw [s2] at s3
                  cases s3
                  rw [List.getElem_map, List.getElem_range, hg i hi]
                  exact s4
            · intro x hx
              obtain ⟨i, hi, rfl⟩ := List.mem_map.1 hx
              have hi := List.mem_range.1 hi
              rw [hg i hi]
              exact (Classical.choose_spec (hall i hi)).1
        · cases h
      · cases h
    · rename_i i fs hi hu
      split at h
      · rename_i a ha
        split at h
        · rename_i hs
          cases h
          obtain ⟨xs, n, rfl, _, hl, hxl, hx⟩ := DataW.trod_struct hu hx
          have hco : P.cellsOf t = ty.size := by simp only [Program.cellsOf, hi, Option.map_some, Option.getD_some, hs]
          have := den_fields (K := knowAll w) (cs := cs) (n := n) (enc := enc) (P := P) (w := w) (base := base) (spare := spare) (held := held) (f := tyOf P d) (fun t ty h => by
              obtain ⟨_, _, hi2, hi3, _, _⟩ := tyOf_info d t ty h
              simp only [Program.cellsOf, hi2, Option.map_some, Option.getD_some, hi3]) (fun t ty h cs x hx => ih t ty h n cs x hx) fs.toList 0 ty ha (by omega) (fun f hf => by
              obtain ⟨i, hi, rfl⟩ := List.getElem_of_mem hf
              have hi' : i < fs.size := by simpa using hi
              have := hx i fs[i] (by simp [hi'])
              rw [List.getElem?_eq_getElem (by omega)] at this
              exact ⟨_, by simpa using this⟩)
          simpa using this
        · cases h
      · cases h
    · cases h

def isStructT (P : Program) (t : TypeId) : Bool := match P.underlying t with
  | some (.struct _) => true
  | _ => false
def isSliceT (P : Program) (t : TypeId) : Bool := match P.underlying t with
  | some (.slice _) => true
  | _ => false
theorem isStructT_spec {t : TypeId} (h : isStructT P t = true) : ∃ fs, P.underlying t = some (.struct fs) := by
  unfold isStructT at h
  split at h
  · exact ⟨_, ‹_›⟩
  · cases h
theorem isSliceT_spec {t : TypeId} (h : isSliceT P t = true) : ∃ e, P.underlying t = some (.slice e) := by
  unfold isSliceT at h
  split at h
  · exact ⟨_, ‹_›⟩
  · cases h

/-- An argument that is a struct. -/
theorem arg_struct {r : Reach} {b0 d : Nat} {t : TypeId} (ty : Ty) {v : Value} {dd : DataW H} {ps : List MemPlace} (hs : isStructT P t = true) (ht : tyOf P d t = some ty)
    (hv : Value.okWide P w r b0 t v) (h : DataW.Trod enc P w base spare held t v dd ps) (Hs : Nat → Option Hd) : ∃ y : ty.den, Rep (knowAll w) Hs (.agg (ty.cells y)) v ∧ ty.wf y := by
  obtain ⟨fs, hu⟩ := isStructT_spec hs
  obtain ⟨cs, rfl, _⟩ := okWide_struct hu hv
  obtain ⟨fuel, hf⟩ := h
  obtain ⟨y, h1, h2⟩ := den_of_trod d t ty ht fuel _ _ hf
  refine ⟨y, ?_, h2⟩
  simp only [Rep]
  exact ⟨cs, rfl, repL_cells ty y _ h1⟩

/-- An argument that is a slice. -/
theorem arg_slice {r : Reach} {b0 d : Nat} {t : TypeId} (ty : Ty) {v : Value} {dd : DataW H} {ps : List MemPlace} (hs : isSliceT P t = true) (ht : tyOf P d t = some (.slice ty))
    (hv : Value.okWide P w r b0 t v) (h : DataW.Trod enc P w base spare held t v dd ps) (Hs : Nat → Option Hd) : ∃ l : List ty.den, Rep (knowAll w) Hs (.imm ty l false) v ∧ ∀ x ∈ l, ty.wf x := by
  obtain ⟨e, hu⟩ := isSliceT_spec hs
  obtain ⟨a, len, cap, rfl⟩ := okWide_slice hu hv
  obtain ⟨fuel, hf⟩ := h
  obtain ⟨y, h1, h2⟩ := den_of_trod d t (.slice ty) ht fuel _ _ hf
  refine ⟨(show List ty.den from y), ?_, h2⟩
  obtain ⟨ba, ca, e1, e2, e3⟩ := h1
  simp only [Rep]
  refine ⟨ba, ca, ?_, e2, ⟨fun h => absurd h (by simp), e3⟩⟩
  simpa [Value.cells] using e1

/-- An argument that is a number. -/
theorem arg_int {r : Reach} {b0 : Nat} {t : TypeId} (k : IntKind) {v : Value} {dd : DataW H} {ps : List MemPlace} (hu : P.underlying t = some (.int k))
    (hv : Value.okWide P w r b0 t v) (h : DataW.Trod enc P w base spare held t v dd ps) (Hs : Nat → Option Hd) : ∃ n, Rep (knowAll w) Hs (.int k n) v ∧ (Lit.int k n).wf = true := by
  obtain ⟨n, rfl, _, _, h2⟩ := open_int hu hv h
  exact ⟨n, by simp [Rep], h2⟩

/-- A function that returns true, at arguments that can be read, does so, and leaves all as it was. -/
theorem law_calls {P : Program} {f : FuncId} {gs : List AVal} {W : World} {vs : List Value} (h : ASpec P f gs [] (fun v _ => v = .bool true)) (hr : RepL (knowAll W) (fun _ => none) gs vs) :
    Calls P f vs.toArray W fun e w' => e = .returned (.bool true) ∧ Below W.heap.size W w' := by
  refine (h (fun b => b < W.heap.size) (knowAll W) (fun _ => none) W vs (wok_all W) hr ⟨fun r c f hd h => (by cases h), fun r c hd b h => (by cases h), fun r c hd b h => (by cases h), fun r r' c c' hd hd' b h => (by cases h)⟩ (fun _ _ => rfl)).mono ?_
  rintro e w' ⟨v, r, RM, K', H', rfl, rfl, _, hrep, _, _, _, hk, _⟩
  simp only [Rep] at hrep
  subst hrep
  exact ⟨rfl, below_of_kept hk⟩
theorem byte_wf {n : Int} (h : (Lit.int .u8 n).wf = true) : 0 ≤ n ∧ n ≤ 255 := by
  unfold Lit.wf at h
  rw [Bool.and_eq_true, decide_eq_true_eq, decide_eq_true_eq] at h
  have e1 : IntKind.min .u8 = 0 := by decide
  have e2 : IntKind.max .u8 = 255 := by decide
  omega
end Go.Abs
end

section
/- Functions that keep contracts, put together. -/
namespace Go.Abs

/-- A function keeps its contract at each of these shapes of arguments. -/
structure Keeps (P : Program) (f : FuncId) (vs : List Var) : Prop where
  code : ∃ fn c, P.funcs[f]? = some fn ∧ fn.body = some c ∧ (fn.name == "runtime.NumGoroutine") = false
  kept : ∀ v ∈ vs, v.Kept P f

theorem Keeps.add {P : Program} {f : FuncId} {vs : List Var} {l : List (FuncId × Contract)} (h : Keeps P f vs) (hG : Good P (envOf l)) : Good P (envOf ((f, mkC vs) :: l)) := by
  obtain ⟨fn, c, h1, h2, h3⟩ := h.code
  exact good_cons hG h1 h2 h3 (spec_vars vs h.kept)

/-- A function's code is there. -/
structure HasCode (P : Program) (f : FuncId) : Prop where
  code : ∃ fn c, P.funcs[f]? = some fn ∧ fn.body = some c ∧ (fn.name == "runtime.NumGoroutine") = false
theorem hasCode {P : Program} {f : FuncId} {fn : Func} (hf : P.funcs[f]? = some fn) (hb : fn.body.isSome = true) (hn : (fn.name == "runtime.NumGoroutine") = false) : HasCode P f := by
  obtain ⟨c, hc⟩ := Option.isSome_iff_exists.1 hb
  exact ⟨fn, c, hf, hc, hn⟩

theorem keeps1 {P : Program} {f : FuncId} {v : Var} (h : HasCode P f) (hv : v.Kept P f) : Keeps P f [v] := ⟨h.code, fun v' hm => by simp at hm; subst hm; exact hv⟩
theorem keeps2 {P : Program} {f : FuncId} {v v2 : Var} (h : HasCode P f) (hv : v.Kept P f) (hv2 : v2.Kept P f) : Keeps P f [v, v2] := ⟨h.code, fun v' hm => by simp at hm; rcases hm with rfl | rfl; exact hv; exact hv2⟩
theorem Keeps.one {P : Program} {f : FuncId} {v : Var} (h : Keeps P f [v]) : v.Kept P f := h.kept v (by simp)

theorem kept_zero {P : Program} {f : FuncId} {v : Var} (μ : v.S.den Unit → Nat) : (v.below μ 0).Kept P f := fun x hx => absurd hx.2 (Nat.not_lt_zero _)
theorem kept_all {P : Program} {f : FuncId} {v : Var} (μ : v.S.den Unit → Nat) (h : ∀ n, (v.below μ n).Kept P f) : v.Kept P f := fun x hx k hk => h (μ x + 1) x ⟨hx, Nat.lt_succ_self _⟩ k hk
theorem keeps_rec {P : Program} {f : FuncId} {v : Var} (μ : v.S.den Unit → Nat) (hc : HasCode P f) (step : ∀ n, Keeps P f [v.below μ n] → (v.below μ (n + 1)).Kept P f) : Keeps P f [v] := by
  have key : ∀ n, (v.below μ n).Kept P f := by
    intro n
    induction n with
    | zero => exact kept_zero μ
    | succ n ih => exact step n (keeps1 hc ih)
  exact keeps1 hc (kept_all μ key)

theorem aspec_mono {P : Program} {f : FuncId} {gs : List AVal} {cs : List Cont} {k k' : AVal → List Cont → Prop} (h : ASpec P f gs cs k) (hk : ∀ v c, k v c → k' v c) : ASpec P f gs cs k' := by
  intro F K H w vs h1 h2 h3 h4
  refine (h F K H w vs h1 h2 h3 h4).mono ?_
  rintro e w' ⟨v, r, RM, K', H', g1, g2, g3⟩
  exact ⟨v, r, RM, K', H', g1, hk _ _ g2, g3⟩
end Go.Abs
end

section
/- The contracts put together (printed by a program). -/
open Go.Proofs
set_option maxRecDepth 100000
namespace Go.Abs.King
theorem hc15 : HasCode Try.prog 15 := hasCode Try.func15 (by kernel_rfl) (by kernel_rfl)
theorem g15 : Keeps Try.prog 15 [v15] := keeps1 hc15 (k15 good_nil)
theorem hc16 : HasCode Try.prog 16 := hasCode Try.func16 (by kernel_rfl) (by kernel_rfl)
theorem g16 : Keeps Try.prog 16 [v16] := keeps1 hc16 (k16 good_nil)
theorem hc47 : HasCode Try.prog 47 := hasCode Try.func47 (by kernel_rfl) (by kernel_rfl)
theorem g47 : Keeps Try.prog 47 [v47] := keeps1 hc47 (k47 good_nil)
theorem hc52 : HasCode Try.prog 52 := hasCode Try.func52 (by kernel_rfl) (by kernel_rfl)
theorem g52 : Keeps Try.prog 52 [v52] := keeps1 hc52 (k52 good_nil)
theorem hc50 : HasCode Try.prog 50 := hasCode Try.func50 (by kernel_rfl) (by kernel_rfl)
theorem g50 : Keeps Try.prog 50 [v50] := keeps1 hc50 (k50 (g47.add (g52.add good_nil)))
theorem hc51 : HasCode Try.prog 51 := hasCode Try.func51 (by kernel_rfl) (by kernel_rfl)
theorem g51 : Keeps Try.prog 51 [v51] := keeps1 hc51 (k51 (g47.add (g52.add good_nil)))
theorem hc54 : HasCode Try.prog 54 := hasCode Try.func54 (by kernel_rfl) (by kernel_rfl)
theorem g54 : Keeps Try.prog 54 [v54] := keeps1 hc54 (k54 good_nil)
theorem hc78 : HasCode Try.prog 78 := hasCode Try.func78 (by kernel_rfl) (by kernel_rfl)
theorem g78 : Keeps Try.prog 78 [v78] := keeps1 hc78 (k78 good_nil)
theorem hc53 : HasCode Try.prog 53 := hasCode Try.func53 (by kernel_rfl) (by kernel_rfl)
theorem g53 : Keeps Try.prog 53 [v53] := keeps1 hc53 (k53 (g78.add good_nil))
theorem hc81 : HasCode Try.prog 81 := hasCode Try.func81 (by kernel_rfl) (by kernel_rfl)
theorem g81 : Keeps Try.prog 81 [v81] := keeps1 hc81 (k81 good_nil)
theorem hc96 : HasCode Try.prog 96 := hasCode Try.func96 (by kernel_rfl) (by kernel_rfl)
theorem g96 : Keeps Try.prog 96 [v96] := keeps1 hc96 (k96 good_nil)
theorem hc83 : HasCode Try.prog 83 := hasCode Try.func83 (by kernel_rfl) (by kernel_rfl)
theorem g83 : Keeps Try.prog 83 [v83] := keeps1 hc83 (k83 (g96.add good_nil))
theorem hc82 : HasCode Try.prog 82 := hasCode Try.func82 (by kernel_rfl) (by kernel_rfl)
theorem g82 : Keeps Try.prog 82 [v82] := keeps1 hc82 (k82 (g83.add good_nil))
theorem hc95 : HasCode Try.prog 95 := hasCode Try.func95 (by kernel_rfl) (by kernel_rfl)
theorem g95 : Keeps Try.prog 95 [v95a, v95b] := keeps2 hc95 (k95a (g81.add (g82.add good_nil))) (k95b (g81.add (g82.add good_nil)))
theorem hc80 : HasCode Try.prog 80 := hasCode Try.func80 (by kernel_rfl) (by kernel_rfl)
theorem g80 : Keeps Try.prog 80 [v80a, v80b] := keeps2 hc80 (k80a (g95.add good_nil)) (k80b (g95.add good_nil))
theorem hc56 : HasCode Try.prog 56 := hasCode Try.func56 (by kernel_rfl) (by kernel_rfl)
theorem g56 : Keeps Try.prog 56 [v56] := keeps1 hc56 (k56 (g80.add good_nil))
theorem hc64 : HasCode Try.prog 64 := hasCode Try.func64 (by kernel_rfl) (by kernel_rfl)
theorem g64 : Keeps Try.prog 64 [v64] := keeps1 hc64 (k64 good_nil)
theorem hc65 : HasCode Try.prog 65 := hasCode Try.func65 (by kernel_rfl) (by kernel_rfl)
theorem g65 : Keeps Try.prog 65 [v65] := keeps1 hc65 (k65 (g56.add good_nil))
theorem hc85 : HasCode Try.prog 85 := hasCode Try.func85 (by kernel_rfl) (by kernel_rfl)
theorem g85 : Keeps Try.prog 85 [v85a, v85b] := keeps2 hc85 (k85a (g64.add (g65.add good_nil))) (k85b (g64.add (g65.add good_nil)))
theorem hc63 : HasCode Try.prog 63 := hasCode Try.func63 (by kernel_rfl) (by kernel_rfl)
theorem g63 : Keeps Try.prog 63 [v63a, v63b] := keeps2 hc63 (k63a (g85.add good_nil)) (k63b (g85.add good_nil))
theorem hc22 : HasCode Try.prog 22 := hasCode Try.func22 (by kernel_rfl) (by kernel_rfl)
theorem g22 : Keeps Try.prog 22 [v22] := keeps1 hc22 (k22 (g56.add (g63.add good_nil)))
theorem hc79 : HasCode Try.prog 79 := hasCode Try.func79 (by kernel_rfl) (by kernel_rfl)
theorem g79 : Keeps Try.prog 79 [v79] := keeps1 hc79 (k79 good_nil)
theorem hc55 : HasCode Try.prog 55 := hasCode Try.func55 (by kernel_rfl) (by kernel_rfl)
theorem g55 : Keeps Try.prog 55 [v55] := keeps1 hc55 (k55 (g22.add (g79.add good_nil)))
theorem hc68 : HasCode Try.prog 68 := hasCode Try.func68 (by kernel_rfl) (by kernel_rfl)
theorem g68 : Keeps Try.prog 68 [v68] := keeps1 hc68 (k68 good_nil)
theorem hc57 : HasCode Try.prog 57 := hasCode Try.func57 (by kernel_rfl) (by kernel_rfl)
theorem g57 : Keeps Try.prog 57 [v57] := keeps1 hc57 (k57 (g68.add (g80.add good_nil)))
theorem hc18 : HasCode Try.prog 18 := hasCode Try.func18 (by kernel_rfl) (by kernel_rfl)
theorem g18 : Keeps Try.prog 18 [v18] := keeps1 hc18 (k18 (g55.add (g56.add (g57.add good_nil))))
theorem hc66 : HasCode Try.prog 66 := hasCode Try.func66 (by kernel_rfl) (by kernel_rfl)
theorem g66 : Keeps Try.prog 66 [v66] := keeps_rec m66 hc66 (fun n h => k66 n (g57.add (h.add good_nil)))
theorem hc25 : HasCode Try.prog 25 := hasCode Try.func25 (by kernel_rfl) (by kernel_rfl)
theorem g25 : Keeps Try.prog 25 [v25] := keeps1 hc25 (k25 (g55.add (g66.add good_nil)))
theorem hc27 : HasCode Try.prog 27 := hasCode Try.func27 (by kernel_rfl) (by kernel_rfl)
theorem g27 : Keeps Try.prog 27 [v27] := keeps1 hc27 (k27 (g55.add (g68.add good_nil)))
theorem hc76 : HasCode Try.prog 76 := hasCode Try.func76 (by kernel_rfl) (by kernel_rfl)
theorem g76 : Keeps Try.prog 76 [v76] := keeps1 hc76 (k76 good_nil)
theorem hc60 : HasCode Try.prog 60 := hasCode Try.func60 (by kernel_rfl) (by kernel_rfl)
theorem g60 : Keeps Try.prog 60 [v60] := keeps1 hc60 (k60 good_nil)
theorem hc84 : HasCode Try.prog 84 := hasCode Try.func84 (by kernel_rfl) (by kernel_rfl)
theorem g84 : Keeps Try.prog 84 [v84] := keeps1 hc84 (k84 (g60.add good_nil))
theorem hc59 : HasCode Try.prog 59 := hasCode Try.func59 (by kernel_rfl) (by kernel_rfl)
theorem g59 : Keeps Try.prog 59 [v59] := keeps1 hc59 (k59 (g55.add (g56.add (g76.add (g84.add good_nil)))))
theorem hc20 : HasCode Try.prog 20 := hasCode Try.func20 (by kernel_rfl) (by kernel_rfl)
theorem g20 : Keeps Try.prog 20 [v20] := keeps1 hc20 (k20 (g59.add (g60.add good_nil)))
theorem hc98 : HasCode Try.prog 98 := hasCode Try.func98 (by kernel_rfl) (by kernel_rfl)
theorem g98 : Keeps Try.prog 98 [v98] := keeps1 hc98 (k98 good_nil)
theorem hc86 : HasCode Try.prog 86 := hasCode Try.func86 (by kernel_rfl) (by kernel_rfl)
theorem g86 : Keeps Try.prog 86 [v86] := keeps1 hc86 (k86 (g98.add good_nil))
theorem hc89 : HasCode Try.prog 89 := hasCode Try.func89 (by kernel_rfl) (by kernel_rfl)
theorem g89 : Keeps Try.prog 89 [v89] := keeps1 hc89 (k89 good_nil)
theorem hc88 : HasCode Try.prog 88 := hasCode Try.func88 (by kernel_rfl) (by kernel_rfl)
theorem g88 : Keeps Try.prog 88 [v88] := keeps1 hc88 (k88 (g89.add good_nil))
theorem hc99 : HasCode Try.prog 99 := hasCode Try.func99 (by kernel_rfl) (by kernel_rfl)
theorem g99 : Keeps Try.prog 99 [v99] := keeps1 hc99 (k99 (g60.add (g86.add (g83.add good_nil))))
theorem hc94 : HasCode Try.prog 94 := hasCode Try.func94 (by kernel_rfl) (by kernel_rfl)
theorem g94 : Keeps Try.prog 94 [v94] := keeps1 hc94 (k94 good_nil)
theorem hc69 : HasCode Try.prog 69 := hasCode Try.func69 (by kernel_rfl) (by kernel_rfl)
theorem hc87 : HasCode Try.prog 87 := hasCode Try.func87 (by kernel_rfl) (by kernel_rfl)
theorem both69 : ∀ n, (v69n n).Kept Try.prog 69 ∧ (v87n n).Kept Try.prog 87 := by
  intro n
  induction n with
  | zero => exact ⟨kept_zero m69, kept_zero m87⟩
  | succ n ih =>
    have h87 : (v87n (n + 1)).Kept Try.prog 87 := k87 n (g99.add (g94.add (g84.add ((keeps1 hc69 ih.1).add good_nil))))
    exact ⟨k69 (n + 1) (g86.add ((keeps1 hc87 h87).add (g88.add good_nil))), h87⟩
theorem g69 : Keeps Try.prog 69 [v69] := keeps1 hc69 (kept_all m69 (fun n => (both69 n).1))
theorem g87 : Keeps Try.prog 87 [v87] := keeps1 hc87 (kept_all m87 (fun n => (both69 n).2))
theorem hc30 : HasCode Try.prog 30 := hasCode Try.func30 (by kernel_rfl) (by kernel_rfl)
theorem g30 : Keeps Try.prog 30 [v30] := keeps1 hc30 (k30 (g59.add (g69.add good_nil)))
theorem hc70 : HasCode Try.prog 70 := hasCode Try.func70 (by kernel_rfl) (by kernel_rfl)
theorem g70 : Keeps Try.prog 70 [v70] := keeps1 hc70 (k70 (g69.add (g87.add good_nil)))
theorem hc32 : HasCode Try.prog 32 := hasCode Try.func32 (by kernel_rfl) (by kernel_rfl)
theorem g32 : Keeps Try.prog 32 [v32] := keeps1 hc32 (k32 (g59.add (g69.add (g70.add good_nil))))
theorem hc91 : HasCode Try.prog 91 := hasCode Try.func91 (by kernel_rfl) (by kernel_rfl)
theorem g91 : Keeps Try.prog 91 [v91] := keeps1 hc91 (k91 (g56.add good_nil))
theorem hc93 : HasCode Try.prog 93 := hasCode Try.func93 (by kernel_rfl) (by kernel_rfl)
theorem g93 : Keeps Try.prog 93 [v93] := keeps1 hc93 (k93 good_nil)
theorem hc100 : HasCode Try.prog 100 := hasCode Try.func100 (by kernel_rfl) (by kernel_rfl)
theorem g100 : Keeps Try.prog 100 [v100a, v100b] := keeps2 hc100 (k100a (g91.add (g93.add good_nil))) (k100b (g91.add (g93.add good_nil)))
theorem hc92 : HasCode Try.prog 92 := hasCode Try.func92 (by kernel_rfl) (by kernel_rfl)
theorem g92 : Keeps Try.prog 92 [v92a, v92b] := keeps2 hc92 (k92a (g100.add good_nil)) (k92b (g100.add good_nil))
theorem hc72 : HasCode Try.prog 72 := hasCode Try.func72 (by kernel_rfl) (by kernel_rfl)
theorem g72 : Keeps Try.prog 72 [v72] := keeps1 hc72 (k72 (g92.add (g56.add good_nil)))
theorem hc35 : HasCode Try.prog 35 := hasCode Try.func35 (by kernel_rfl) (by kernel_rfl)
theorem g35 : Keeps Try.prog 35 [v35] := keeps1 hc35 (k35 (g55.add (g72.add good_nil)))
theorem hc77 : HasCode Try.prog 77 := hasCode Try.func77 (by kernel_rfl) (by kernel_rfl)
theorem r77 {n : Nat} (h : (v77.below m77 (n + 1)).Kept Try.prog 77) : (v77r.below m77 (n + 1)).Kept Try.prog 77 := by
  rintro x ⟨⟨h1, h2, h3, h4, h5⟩, h6⟩ k hk
  refine h x ⟨⟨h1, h2, h3, h4, Int.le_trans (by decide) h5⟩, h6⟩ k ?_
  have e : lowLooks x.1 x.2.1 x.2.2.2.2.1 = false := decide_eq_false (by omega)
  show br (lowLooks x.1 x.2.1 x.2.2.2.2.1) _ _
  rw [e]
  exact hk
theorem g77r : Keeps Try.prog 77 [v77r] := keeps_rec m77 hc77 (fun n h => r77 (k77 n (g69.add (g70.add (g94.add (g84.add (g60.add (h.add good_nil))))))))
theorem g77 : Keeps Try.prog 77 [v77] := keeps1 hc77 (fun x hx k hk => k77 (m77 x) (g69.add (g70.add (g94.add (g84.add (g60.add ((keeps1 (v := v77n (m77 x)) hc77 (fun y (hy : v77r.pre y ∧ m77 y < m77 x) => g77r.one y hy.1)).add good_nil)))))) x ⟨hx, Nat.lt_succ_self _⟩ k hk)
theorem hc37 : HasCode Try.prog 37 := hasCode Try.func37 (by kernel_rfl) (by kernel_rfl)
theorem g37 : Keeps Try.prog 37 [v37] := keeps1 hc37 (k37 (g55.add (g76.add (g69.add (g77.add good_nil)))))
theorem hc23 : HasCode Try.prog 23 := hasCode Try.func23 (by kernel_rfl) (by kernel_rfl)
theorem g23 : Keeps Try.prog 23 [v23] := keeps1 hc23 (k23 good_nil)
theorem hc73 : HasCode Try.prog 73 := hasCode Try.func73 (by kernel_rfl) (by kernel_rfl)
theorem g73 : Keeps Try.prog 73 [v73] := keeps1 hc73 (k73 good_nil)
theorem hc74 : HasCode Try.prog 74 := hasCode Try.func74 (by kernel_rfl) (by kernel_rfl)
theorem g74 : Keeps Try.prog 74 [v74] := keeps1 hc74 (k74 good_nil)
theorem hc75 : HasCode Try.prog 75 := hasCode Try.func75 (by kernel_rfl) (by kernel_rfl)
theorem g75 : Keeps Try.prog 75 [v75] := keeps_rec m75 hc75 (fun n h => k75 n (h.add good_nil))
theorem hc36 : HasCode Try.prog 36 := hasCode Try.func36 (by kernel_rfl) (by kernel_rfl)
theorem g36 : Keeps Try.prog 36 [v36] := keeps1 hc36 (k36 (g23.add (g73.add (g74.add (g75.add good_nil)))))
theorem hc24 : HasCode Try.prog 24 := hasCode Try.func24 (by kernel_rfl) (by kernel_rfl)
theorem g24 : Keeps Try.prog 24 [v24] := keeps1 hc24 (k24 good_nil)
theorem hc29 : HasCode Try.prog 29 := hasCode Try.func29 (by kernel_rfl) (by kernel_rfl)
theorem g29 : Keeps Try.prog 29 [v29] := keeps1 hc29 (k29 (g24.add good_nil))
theorem hc17 : HasCode Try.prog 17 := hasCode Try.func17 (by kernel_rfl) (by kernel_rfl)
theorem g17 : Keeps Try.prog 17 [v17] := keeps1 hc17 (k17 (g50.add (g51.add (g47.add (g54.add (g53.add (g18.add (g25.add (g27.add (g20.add (g30.add (g32.add (g35.add (g37.add (g36.add (g29.add (g24.add good_nil)))))))))))))))))
theorem hc43 : HasCode Try.prog 43 := hasCode Try.func43 (by kernel_rfl) (by kernel_rfl)
theorem g43 : Keeps Try.prog 43 [v43] := keeps1 hc43 (k43 good_nil)
theorem hc44 : HasCode Try.prog 44 := hasCode Try.func44 (by kernel_rfl) (by kernel_rfl)
theorem g44 : Keeps Try.prog 44 [v44] := keeps1 hc44 (k44 good_nil)
theorem hc58 : HasCode Try.prog 58 := hasCode Try.func58 (by kernel_rfl) (by kernel_rfl)
theorem g58 : Keeps Try.prog 58 [v58] := keeps1 hc58 (k58 (g44.add good_nil))
theorem hc19 : HasCode Try.prog 19 := hasCode Try.func19 (by kernel_rfl) (by kernel_rfl)
theorem g19 : Keeps Try.prog 19 [v19] := keeps1 hc19 (k19 (g23.add (g43.add (g58.add good_nil))))
theorem hc61 : HasCode Try.prog 61 := hasCode Try.func61 (by kernel_rfl) (by kernel_rfl)
theorem g61 : Keeps Try.prog 61 [v61] := keeps1 hc61 (k61 (g23.add good_nil))
theorem hc62 : HasCode Try.prog 62 := hasCode Try.func62 (by kernel_rfl) (by kernel_rfl)
theorem g62 : Keeps Try.prog 62 [v62] := keeps1 hc62 (k62 good_nil)
theorem hc41 : HasCode Try.prog 41 := hasCode Try.func41 (by kernel_rfl) (by kernel_rfl)
theorem g41 : Keeps Try.prog 41 [v41] := keeps1 hc41 (k41 good_nil)
theorem hc21 : HasCode Try.prog 21 := hasCode Try.func21 (by kernel_rfl) (by kernel_rfl)
theorem g21 : Keeps Try.prog 21 [v21] := keeps1 hc21 (k21 (g61.add (g62.add (g41.add good_nil))))
theorem hc3 : HasCode Try.prog 3 := hasCode Try.func3 (by kernel_rfl) (by kernel_rfl)
theorem g3 : Keeps Try.prog 3 [v3] := keeps1 hc3 (k3 (g15.add (g16.add (g17.add (g18.add (g19.add (g20.add (g21.add (g22.add (g23.add (g24.add good_nil)))))))))))
end Go.Abs.King
end

section
/- The contracts put together (printed by a program). -/
open Go.Proofs
set_option maxRecDepth 100000
namespace Go.Abs.King
theorem hc40 : HasCode Try.prog 40 := hasCode Try.func40 (by kernel_rfl) (by kernel_rfl)
theorem g40 : Keeps Try.prog 40 [v40] := keeps1 hc40 (k40 (g15.add (g23.add good_nil)))
theorem hc45 : HasCode Try.prog 45 := hasCode Try.func45 (by kernel_rfl) (by kernel_rfl)
theorem g45 : Keeps Try.prog 45 [v45] := keeps1 hc45 (k45 good_nil)
theorem hc46 : HasCode Try.prog 46 := hasCode Try.func46 (by kernel_rfl) (by kernel_rfl)
theorem g46 : Keeps Try.prog 46 [v46] := keeps1 hc46 (k46 (g45.add good_nil))
theorem hc10 : HasCode Try.prog 10 := hasCode Try.func10 (by kernel_rfl) (by kernel_rfl)
theorem g10 : Keeps Try.prog 10 [v10] := keeps1 hc10 (k10 (g40.add (g17.add (g46.add (g20.add (g30.add (g43.add good_nil)))))))
end Go.Abs.King
end

