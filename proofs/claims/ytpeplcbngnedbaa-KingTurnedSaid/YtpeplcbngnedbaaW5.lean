/- Part 5 of the road to this seat's statements: lemmas about a small interpreter over the model's code, and about the functions that it is used on. No condition of its own. -/
import Derived.Test.YtpeplcbngnedbaaProg
import Derived.Test.YtpeplcbngnedbaaW4

section
/- The king's functions keep their contracts: eighth part, looks. -/
open Go.Proofs
set_option maxRecDepth 100000
set_option linter.unusedVariables false
namespace Go.Abs.King

theorem partOf_and (pots : List (List Int)) (b j : Nat) (v : Int) : partOf pots b j v = b &&& bitsOf pots.length (fun i => decide (mk pots i j = v)) := by
  apply Nat.eq_of_testBit_eq
  intro i
  rw [Nat.testBit_and]
  unfold partOf
  rw [bitsOf_test, bitsOf_test]
  cases decide (i < pots.length) <;> simp
theorem partOf_le (pots : List (List Int)) (b j : Nat) (v : Int) : partOf pots b j v ≤ b := by
  rw [partOf_and]; exact Nat.and_le_left
theorem partOf_lt (pots : List (List Int)) (b j : Nat) (v : Int) : partOf pots b j v < 2 ^ pots.length := bitsOf_lt _ _
theorem partOf_all {pots : List (List Int)} {b j : Nat} {v : Int} (hb : b < 2 ^ pots.length) : partOf pots b j v = b ↔ ∀ i, b.testBit i = true → mk pots i j = v := by
  constructor
  · intro h i hi
    have h2 : (partOf pots b j v).testBit i = true := by rw [h]; exact hi
    unfold partOf at h2
    rw [bitsOf_test] at h2
    simp only [Bool.and_eq_true, decide_eq_true_eq] at h2
    exact h2.2.2
  · intro h
    apply Nat.eq_of_testBit_eq
    intro i
    unfold partOf
    rw [bitsOf_test]
    cases ht : b.testBit i with
    | false => simp
    | true =>
      have := lt_of_test hb ht
      simp [this, h i ht]

theorem mem_listed' {b n : Nat} (hb : b < 2 ^ n) (i : Nat) : (i : Int) ∈ listed b n ↔ b.testBit i = true := by
  constructor
  · intro h
    obtain ⟨i', e, _, ht⟩ := mem_listed h
    have : i = i' := by omega
    rw [this]; exact ht
  · intro h
    unfold listed
    exact List.mem_map.2 ⟨i, List.mem_filter.2 ⟨List.mem_range.2 (lt_of_test hb h), h⟩, rfl⟩

/-- How many of some pots look like each value. -/
def counts (pots : List (List Int)) (j : Nat) (l : List Int) : List Int := [0, 1, 2, 3, 4].map (fun v : Int => ((l.countP (fun i => decide (mk pots i.toNat j = v)) : Nat) : Int))
theorem counts_len (pots : List (List Int)) (j : Nat) (l : List Int) : (counts pots j l).length = 5 := rfl
theorem counts_nil (pots : List (List Int)) (j : Nat) : counts pots j [] = [0, 0, 0, 0, 0] := rfl
theorem counts_get (pots : List (List Int)) (j : Nat) (l : List Int) (w : Nat) (hw : w < 5) : (counts pots j l)[w]'(by rw [counts_len]; exact hw) = ((l.countP (fun i => decide (mk pots i.toNat j = (w : Int))) : Nat) : Int) := by
  match w, hw with
  | 0, _ => rfl
  | 1, _ => rfl
  | 2, _ => rfl
  | 3, _ => rfl
  | 4, _ => rfl
theorem counts_snoc (pots : List (List Int)) (j : Nat) (l : List Int) (i : Int) (w : Nat) (hw : w < 5) (h : mk pots i.toNat j = (w : Int)) : counts pots j (l ++ [i]) = (counts pots j l).set w ((counts pots j l)[w]'(by rw [counts_len]; exact hw) + 1) := by
  apply List.ext_getElem
  · simp [counts_len]
  · intro v h1 h2
    have hv : v < 5 := by rw [counts_len] at h1; exact h1
    rw [counts_get _ _ _ _ hv, List.getElem_set, List.countP_append]
    by_cases e : w = v
    · subst e
      rw [if_pos rfl, counts_get _ _ _ _ hw]
      simp [h]
    · rw [if_neg e, counts_get _ _ _ _ hv]
      have : ¬ ((w : Int) = (v : Int)) := by omega
      simp [h, this]
theorem counts_mem {pots : List (List Int)} {j : Nat} {l : List Int} {x : Int} : x ∈ counts pots j l ↔ ∃ v : Nat, v < 5 ∧ x = ((l.countP (fun i => decide (mk pots i.toNat j = (v : Int))) : Nat) : Int) := by
  constructor
  · intro h
    obtain ⟨v, hv, e⟩ := List.getElem_of_mem h
    have hv5 : v < 5 := by rw [counts_len] at hv; exact hv
    exact ⟨v, hv5, by rw [← e, counts_get _ _ _ _ hv5]⟩
  · rintro ⟨v, hv, e⟩
    rw [e, ← counts_get _ _ _ _ hv]
    exact List.getElem_mem _
theorem parts_any {pots : List (List Int)} {b j : Nat} {p : Nat → Bool} : (parts5 pots b j).any p = true ↔ ∃ v : Nat, v < 5 ∧ p (partOf pots b j (v : Int)) = true := by
  unfold parts5
  constructor
  · intro h
    simp only [List.map_cons, List.map_nil, List.any_cons, List.any_nil, Bool.or_false, Bool.or_eq_true] at h
    rcases h with h | h | h | h | h
    · exact ⟨0, by omega, h⟩
    · exact ⟨1, by omega, h⟩
    · exact ⟨2, by omega, h⟩
    · exact ⟨3, by omega, h⟩
    · exact ⟨4, by omega, h⟩
  · rintro ⟨v, hv, h⟩
    simp only [List.map_cons, List.map_nil, List.any_cons, List.any_nil, Bool.or_false, Bool.or_eq_true]
    match v, hv with
    | 0, _ => exact Or.inl h
    | 1, _ => exact Or.inr (Or.inl h)
    | 2, _ => exact Or.inr (Or.inr (Or.inl h))
    | 3, _ => exact Or.inr (Or.inr (Or.inr (Or.inl h)))
    | 4, _ => exact Or.inr (Or.inr (Or.inr (Or.inr h)))
theorem proper_iff {pots : List (List Int)} {b j : Nat} : proper pots b j = true ↔ ∀ v : Nat, v < 5 → partOf pots b j (v : Int) ≠ b := by
  unfold proper
  rw [Bool.not_eq_true', Bool.eq_false_iff, Ne, parts_any]
  constructor
  · intro h v hv e; exact h ⟨v, hv, decide_eq_true e⟩
  · rintro h ⟨v, hv, e⟩; exact h v hv (of_decide_eq_true e)
theorem count_all {pots : List (List Int)} {b j : Nat} {v : Int} (hb : b < 2 ^ pots.length) : (((listed b pots.length).countP (fun i => decide (mk pots i.toNat j = v)) : Nat) : Int) = ((listed b pots.length).length : Int) ↔ partOf pots b j v = b := by
  rw [partOf_all hb, Int.ofNat_inj, List.countP_eq_length]
  constructor
  · intro h i hi
    have := h _ ((mem_listed' hb i).2 hi)
    simpa using this
  · intro h x hx
    obtain ⟨i, rfl, _, ht⟩ := mem_listed hx
    simpa using h i ht

theorem size129 : sizeT Go.Proofs.Try.prog 129 = 5 := by kernel_rfl
theorem arr129 : arrLenT Go.Proofs.Try.prog 129 = 5 := by kernel_rfl

theorem k99 (hG : Good Try.prog (envOf [(60, mkC [v60]), (86, mkC [v86]), (83, mkC [v83])])) : v99.Kept Try.prog 99 := by
  rintro ⟨m, pots, q, bits, mark, ⟨⟩⟩ hpre k hk
  change List (List Int) at pots
  change Int at m bits mark
  refine aspec hmix hG Try.func99 tx99 (Eq.mpr (eq99 m pots q bits mark k) ?_)
  replace hk : k (.bool (proper pots bits.toNat mark.toNat)) [] := hk
  obtain ⟨hf, ⟨h1, h2⟩, h3, h4⟩ := hpre
  have hf : checkShelf m pots = 0 := hf
  have h1 : 0 ≤ bits := h1
  have h2 : bits < ((2 ^ pots.length : Nat) : Int) := h2
  have h3 : 0 ≤ mark := h3
  have h4 : mark < m := h4
  obtain ⟨f1, f2, f3, f4⟩ := fine_spec hf
  obtain ⟨b, rfl⟩ := Int.eq_ofNat_of_zero_le h1
  obtain ⟨j, rfl⟩ := Int.eq_ofNat_of_zero_le h3
  simp only [Int.toNat_natCast] at hk
  have hb : b < 2 ^ pots.length := by omega
  have hp8 : 2 ^ pots.length ≤ 2 ^ 8 := Nat.pow_le_pow_right (by omega) (by omega)
  have h256 : (2 : Nat) ^ 8 = 256 := by decide
  have hcut := listed_cut b pots.length 8 hb (by omega)
  have hones : ones (b : Int) = ((listed b 8).length : Int) := rfl
  unfold vc99
  rw [Int.toNat_natCast, hcut] at *
  refine ⟨rfl, ⟨by show (0 : Int) ≤ (b : Int); omega, by show (b : Int) < 4611686018427387904; omega⟩, ?_⟩
  have hlen8 := listed_len b pots.length
  have hin : ∀ x ∈ listed b pots.length, ∃ i : Nat, x = (i : Int) ∧ i < pots.length := by
    intro x hx
    obtain ⟨i, rfl, h, _⟩ := mem_listed hx
    exact ⟨i, rfl, h⟩
  refine Loop.upto (fun i => (m, pots, q, (j : Int), (((listed b pots.length).length : Nat) : Int), (i : Int), (b : Int), counts pots j ((listed b pots.length).take i), listed b pots.length, ())) (fun i => True) (listed b pots.length).length rfl trivial ?_ ?_
  · intro i K hi _ hK
    have hK := hK trivial
    dsimp only
    rw [br_decide]
    refine ⟨fun _ => ⟨⟨by omega, by omega⟩, ?_⟩, fun h => absurd hi (by omega)⟩
    simp only [Int.toNat_natCast]
    obtain ⟨x, hx, hxl⟩ := hin _ (List.getElem_mem hi)
    have hlen := f3 _ (List.getElem_mem hxl)
    have hjl : j < pots[x].length := by omega
    have hval := f4 _ (List.getElem_mem hxl) _ (List.getElem_mem hjl)
    have e : mk pots x j = pots[x][j] := mk_eq hxl hjl
    obtain ⟨w, hw⟩ := Int.eq_ofNat_of_zero_le hval.1
    have hw5 : w < 5 := by omega
    refine ⟨hi, ?_⟩
    simp only [hx, Int.toNat_natCast]
    refine ⟨⟨by omega, hxl⟩, ⟨by omega, hjl⟩, ⟨by omega, by omega⟩, ?_⟩
    simp only [hw, Int.toNat_natCast]
    have hcl := counts_len pots j ((listed b pots.length).take i)
    refine ⟨by omega, ?_⟩
    have hsn := counts_snoc pots j ((listed b pots.length).take i) (x : Int) w hw5 (by rw [Int.toNat_natCast, e, hw])
    rw [List.take_succ_eq_append_getElem hi, hx, hsn] at hK
    have hcg := counts_get pots j ((listed b pots.length).take i) w hw5
    have hle : ((listed b pots.length).take i).countP (fun i => decide (mk pots i.toNat j = (w : Int))) ≤ ((listed b pots.length).take i).length := List.countP_le_length
    rw [List.length_take] at hle
    refine ⟨fits64 (by rw [hcg]; omega) (by rw [hcg]; omega), ⟨by omega, hw5⟩, by omega, fits64 (by omega) (by omega), ?_⟩
    exact hK
  · intro K _
    dsimp only
    rw [br_decide]
    refine ⟨fun h => absurd h (by omega), fun _ => ?_⟩
    rw [List.take_length, hones, hcut, size129, arr129]
    refine ⟨fitsU64 (by omega) (by omega), ⟨by show (0 : Int) ≤ (b : Int); omega, by show (b : Int) < 256; omega⟩, rfl, rfl, rfl, ?_⟩
    rw [br_bt]
    refine ⟨fun h => ⟨rfl, by show (5 : Nat) ≤ 1152921504606846976; omega, ?_⟩, fun h => ?_⟩
    · have e : (!hasI (counts pots j (listed b pots.length)) ((listed b pots.length).length : Int)) = proper pots b j := by
        rw [Bool.eq_iff_iff, proper_iff, Bool.not_eq_true', Bool.eq_false_iff, Ne, hasI_iff, counts_mem]
        constructor
        · intro h v hv e; exact h ⟨v, hv, ((count_all hb).2 e).symm⟩
        · rintro h ⟨v, hv, e⟩; exact h v hv ((count_all hb).1 e.symm)
      rw [e]; exact hk
    · have h0 : counts pots j (listed b pots.length) = [0, 0, 0, 0, 0] := by
        have := nb_f h
        exact eq_of_beq this
      have e : proper pots b j = false := by
        rw [Bool.eq_false_iff, Ne, proper_iff]
        intro hall
        have hemp : ∀ i, b.testBit i = true → False := by
          intro i hi
          have hmem := (mem_listed' hb i).2 hi
          have hil := lt_of_test hb hi
          have hlen := f3 _ (List.getElem_mem hil)
          have hjl : j < pots[i].length := by omega
          have hval := f4 _ (List.getElem_mem hil) _ (List.getElem_mem hjl)
          have e : mk pots i j = pots[i][j] := mk_eq hil hjl
          obtain ⟨w, hw⟩ := Int.eq_ofNat_of_zero_le hval.1
          have hw5 : w < 5 := by omega
          have hpos : 0 < (listed b pots.length).countP (fun i => decide (mk pots i.toNat j = (w : Int))) := List.countP_pos_iff.2 ⟨_, hmem, by simp [e, hw]⟩
          have hc := counts_get pots j (listed b pots.length) w hw5
          have hz : (counts pots j (listed b pots.length))[w]'(by rw [counts_len]; exact hw5) = 0 := by
            have hm : (counts pots j (listed b pots.length))[w]'(by rw [counts_len]; exact hw5) ∈ counts pots j (listed b pots.length) := List.getElem_mem _
            generalize (counts pots j (listed b pots.length))[w]'(by rw [counts_len]; exact hw5) = z at hm
            rw [h0] at hm
            simpa using hm
          omega
        exact hall 0 (by omega) ((partOf_all hb).2 (fun i hi => (hemp i hi).elim))
      rw [e] at hk; exact hk
end Go.Abs.King
end

section
/- The king's functions keep their contracts: ninth part, looks and lists. -/
open Go.Proofs
set_option maxRecDepth 100000
set_option linter.unusedVariables false
namespace Go.Abs.King

/-! ### how many looks -/
theorem parts_mem {pots : List (List Int)} {b j p : Nat} (h : p ∈ parts5 pots b j) : ∃ v : Nat, v < 5 ∧ p = partOf pots b j (v : Int) := by
  have := (parts_any (pots := pots) (b := b) (j := j) (p := fun x => decide (x = p))).1 (List.any_eq_true.2 ⟨p, h, decide_eq_true rfl⟩)
  obtain ⟨v, hv, e⟩ := this
  exact ⟨v, hv, (of_decide_eq_true e).symm⟩
theorem worstOf_eq (g : Nat → Int) (pots : List (List Int)) (b j : Nat) : worstOf g pots b j = if proper pots b j = true ∧ (∀ p ∈ parts5 pots b j, 0 ≤ g p) then (parts5 pots b j).foldl (fun n p => max n (g p)) 0 else -1 := by
  unfold worstOf
  by_cases h : (parts5 pots b j).any (fun p => decide (p = b ∨ g p < 0)) = true
  · rw [if_pos h, if_neg]
    rintro ⟨h1, h2⟩
    obtain ⟨p, hp, e⟩ := List.any_eq_true.1 h
    obtain ⟨v, hv, rfl⟩ := parts_mem hp
    rcases of_decide_eq_true e with e | e
    · exact (proper_iff.1 h1) v hv e
    · have := h2 _ hp; omega
  · rw [if_neg h, if_pos]
    have h' : ∀ p ∈ parts5 pots b j, ¬ (p = b ∨ g p < 0) := by
      intro p hp e
      exact h (List.any_eq_true.2 ⟨p, hp, decide_eq_true e⟩)
    refine ⟨?_, fun p hp => ?_⟩
    · unfold proper
      rw [Bool.not_eq_true', Bool.eq_false_iff]
      intro e
      obtain ⟨p, hp, e⟩ := List.any_eq_true.1 e
      exact h' p hp (Or.inl (of_decide_eq_true e))
    · have := h' p hp; omega
theorem foldl_max_congr {g g' : Nat → Int} : ∀ (l : List Nat) (a : Int), (∀ p ∈ l, g p = g' p) → l.foldl (fun n p => max n (g p)) a = l.foldl (fun n p => max n (g' p)) a
  | [], _, _ => rfl
  | x :: l, a, h => by
    simp only [List.foldl_cons]
    rw [h x (by simp), foldl_max_congr l _ (fun p hp => h p (List.mem_cons_of_mem _ hp))]
theorem worstOf_congr {g g' : Nat → Int} (pots : List (List Int)) (b j : Nat) (h : ∀ p, p < b → g p = g' p) : worstOf g pots b j = worstOf g' pots b j := by
  rw [worstOf_eq, worstOf_eq]
  by_cases hp : proper pots b j = true
  · have hlt : ∀ p ∈ parts5 pots b j, p < b := by
      intro p hpm
      obtain ⟨v, hv, rfl⟩ := parts_mem hpm
      have h1 := partOf_le pots b j (v : Int)
      have h2 := proper_iff.1 hp v hv
      omega
    have he : ∀ p ∈ parts5 pots b j, g p = g' p := fun p hpm => h p (hlt p hpm)
    by_cases hg : ∀ p ∈ parts5 pots b j, 0 ≤ g p
    · have hg' : ∀ p ∈ parts5 pots b j, 0 ≤ g' p := fun p hpm => by rw [← he p hpm]; exact hg p hpm
      rw [if_pos ⟨hp, hg⟩, if_pos ⟨hp, hg'⟩, foldl_max_congr _ _ he]
    · have hg' : ¬ ∀ p ∈ parts5 pots b j, 0 ≤ g' p := fun hg' => hg (fun p hpm => by rw [he p hpm]; exact hg' p hpm)
      rw [if_neg (fun h => hg h.2), if_neg (fun h => hg' h.2)]
  · rw [if_neg (fun h => hp h.1), if_neg (fun h => hp h.1)]
theorem bestOf_congr {g g' : Nat → Int} (pots : List (List Int)) (m b : Nat) (h : ∀ p, p < b → g p = g' p) : bestOf g pots m b = bestOf g' pots m b := by
  unfold bestOf
  have : bestStep g pots b = bestStep g' pots b := by
    funext out j
    unfold bestStep
    rw [worstOf_congr pots b j h]
  rw [this]
theorem looksF_irrel (pots : List (List Int)) (m : Nat) : ∀ (f f' b : Nat), b < f → b < f' → looksF pots m f b = looksF pots m f' b
  | 0, _, _, h, _ => by omega
  | _ + 1, 0, _, _, h => by omega
  | f + 1, f' + 1, b, h, h' => by
    unfold looksF
    rw [bestOf_congr pots m b (fun p hp => looksF_irrel pots m f f' p (by omega) (by omega))]
theorem looks_eq (pots : List (List Int)) (m b : Nat) : looks pots m b = if cnt b pots.length < 2 then 0 else bestOf (looks pots m) pots m b := by
  show looksF pots m (b + 1) b = _
  unfold looksF
  rw [bestOf_congr pots m b (fun p hp => looksF_irrel pots m b (p + 1) p hp (by omega))]
  rfl
theorem foldl_max_bounds (g : Nat → Int) (c : Int) : ∀ (l : List Nat) (a : Int), a ≤ c → (∀ p ∈ l, g p ≤ c) → a ≤ l.foldl (fun n p => max n (g p)) a ∧ l.foldl (fun n p => max n (g p)) a ≤ c
  | [], a, h, _ => ⟨Int.le_refl _, h⟩
  | x :: l, a, h, h2 => by
    simp only [List.foldl_cons]
    have hx := h2 x (by simp)
    have := foldl_max_bounds g c l (max a (g x)) (by omega) (fun p hp => h2 p (List.mem_cons_of_mem _ hp))
    omega
theorem worstOf_bounds (g : Nat → Int) (pots : List (List Int)) (b j : Nat) (h : ∀ p, p < b → g p ≤ (p : Int)) : -1 ≤ worstOf g pots b j ∧ (worstOf g pots b j = -1 ∨ worstOf g pots b j < (b : Int)) := by
  rw [worstOf_eq]
  split
  · rename_i hh
    have hlt : ∀ p ∈ parts5 pots b j, p < b := by
      intro p hpm
      obtain ⟨v, hv, rfl⟩ := parts_mem hpm
      have h1 := partOf_le pots b j (v : Int)
      have h2 := proper_iff.1 hh.1 v hv
      omega
    have hb : 0 < b := by
      have := hlt (partOf pots b j 0) (by unfold parts5; simp)
      omega
    have := foldl_max_bounds g ((b : Int) - 1) (parts5 pots b j) 0 (by omega) (fun p hp => by have := h p (hlt p hp); have := hlt p hp; omega)
    omega
  · omega
theorem bestFold_bounds (g : Nat → Int) (pots : List (List Int)) (b : Nat) (h : ∀ p, p < b → g p ≤ (p : Int)) : ∀ (l : List Nat) (a : Int), (a = -1 ∨ 0 < a) → a ≤ (b : Int) → (l.foldl (bestStep g pots b) a = -1 ∨ 0 < l.foldl (bestStep g pots b) a) ∧ l.foldl (bestStep g pots b) a ≤ (b : Int)
  | [], a, h1, h2 => ⟨h1, h2⟩
  | x :: l, a, h1, h2 => by
    rw [List.foldl_cons]
    have hw := worstOf_bounds g pots b x h
    refine bestFold_bounds g pots b h l _ ?_ ?_
    · unfold bestStep; split
      · omega
      · exact h1
    · unfold bestStep; split
      · omega
      · exact h2
theorem looks_bounds (pots : List (List Int)) (m : Nat) : ∀ b : Nat, (looks pots m b = -1 ∨ 0 ≤ looks pots m b) ∧ looks pots m b ≤ (b : Int) := by
  intro b
  induction b using Nat.strongRecOn with
  | ind b ih =>
    rw [looks_eq]
    split
    · omega
    · have := bestFold_bounds (looks pots m) pots b (fun p hp => (ih p hp).2) (List.range m) (-1) (by omega) (by omega)
      unfold bestOf
      omega
theorem worst_bounds (pots : List (List Int)) (m b j : Nat) : -1 ≤ worstOf (looks pots m) pots b j ∧ worstOf (looks pots m) pots b j ≤ (b : Int) := by
  have := worstOf_bounds (looks pots m) pots b j (fun p _ => (looks_bounds pots m p).2)
  omega
/-- What is tried. -/
def tries (pots : List (List Int)) (m b j : Nat) : List Int := -1 :: (List.range j).flatMap (fun i => if 0 ≤ worstOf (looks pots m) pots b i then [worstOf (looks pots m) pots b i + 1] else [])
theorem tries_succ (pots : List (List Int)) (m b j : Nat) : tries pots m b (j + 1) = tries pots m b j ++ (if 0 ≤ worstOf (looks pots m) pots b j then [worstOf (looks pots m) pots b j + 1] else []) := by
  unfold tries
  rw [List.range_succ, List.flatMap_append]
  simp
theorem tries_len (pots : List (List Int)) (m b j : Nat) : (tries pots m b j).length ≤ j + 1 := by
  induction j with
  | zero => simp [tries]
  | succ j ih =>
    rw [tries_succ, List.length_append]
    split <;> simp <;> omega
theorem bestL_snoc (a : Int) (l : List Int) (x : Int) : bestL (a :: l ++ [x]) = if betterB x (bestL (a :: l)) then x else bestL (a :: l) := by
  show (l ++ [x]).foldl _ a = _
  rw [List.foldl_append]
  rfl
theorem bestL_tries (pots : List (List Int)) (m b j : Nat) : bestL (tries pots m b j) = (List.range j).foldl (bestStep (looks pots m) pots b) (-1) := by
  induction j with
  | zero => rfl
  | succ j ih =>
    rw [tries_succ, List.range_succ, List.foldl_append, ← ih]
    show _ = bestStep (looks pots m) pots b (bestL (tries pots m b j)) j
    unfold bestStep
    by_cases h : 0 ≤ worstOf (looks pots m) pots b j
    · rw [if_pos h]
      have e : tries pots m b j = -1 :: (tries pots m b j).tail := rfl
      rw [e, bestL_snoc, ← e]
      by_cases h2 : bestL (tries pots m b j) < 0 ∨ worstOf (looks pots m) pots b j + 1 < bestL (tries pots m b j)
      · have hb : betterB (worstOf (looks pots m) pots b j + 1) (bestL (tries pots m b j)) = true := by
          unfold betterB
          simp only [Bool.and_eq_true, Bool.or_eq_true, decide_eq_true_eq]
          exact ⟨by omega, h2⟩
        have hc : worstOf (looks pots m) pots b j ≥ 0 ∧ (bestL (tries pots m b j) < 0 ∨ worstOf (looks pots m) pots b j + 1 < bestL (tries pots m b j)) := ⟨h, h2⟩
        rw [if_pos hb, if_pos hc]
      · have hb : ¬ betterB (worstOf (looks pots m) pots b j + 1) (bestL (tries pots m b j)) = true := by
          unfold betterB
          simp only [Bool.and_eq_true, Bool.or_eq_true, decide_eq_true_eq]
          exact fun hh => h2 hh.2
        have hc : ¬ (worstOf (looks pots m) pots b j ≥ 0 ∧ (bestL (tries pots m b j) < 0 ∨ worstOf (looks pots m) pots b j + 1 < bestL (tries pots m b j))) := fun hh => h2 hh.2
        rw [if_neg hb, if_neg hc]
    · rw [if_neg h, List.append_nil, if_neg (fun hh => h hh.1)]

theorem k87 (n : Nat) (hG : Good Try.prog (envOf [(99, mkC [v99]), (94, mkC [v94]), (84, mkC [v84]), (69, mkC [v69n n])])) : (v87n (n + 1)).Kept Try.prog 87 := by
  rintro ⟨m, pots, q, bits, mark, ⟨⟩⟩ hpre k hk
  change List (List Int) at pots
  change Int at m bits mark
  refine aspec hmix hG Try.func87 tx87 (Eq.mpr (eq87 m pots q bits mark n k) ?_)
  replace hk : k (rI (worstI m pots bits mark)) [] := hk
  obtain ⟨⟨hf, hq, ⟨h1, h2⟩, h3, h4⟩, hn⟩ := hpre
  have hf : checkShelf m pots = 0 := hf
  have h1 : 0 ≤ bits := h1
  have h2 : bits < ((2 ^ pots.length : Nat) : Int) := h2
  have h3 : 0 ≤ mark := h3
  have h4 : mark < m := h4
  have hn : bits.toNat < n + 1 := hn
  obtain ⟨b, rfl⟩ := Int.eq_ofNat_of_zero_le h1
  obtain ⟨j, rfl⟩ := Int.eq_ofNat_of_zero_le h3
  have hw : worstI m pots (b : Int) (j : Int) = worstOf (looks pots m.toNat) pots b j := rfl
  rw [hw, worstOf_eq] at hk
  unfold vc87
  rw [br_not]
  have ebj : proper pots (b : Int).toNat (j : Int).toNat = proper pots b j := rfl
  rw [ebj]
  refine ⟨⟨hf, ⟨h1, h2⟩, h3, h4⟩, fun hp => ?_, fun hp => ⟨trivial, ?_⟩⟩
  · rw [if_neg (fun hh => by rw [hp] at hh; exact absurd hh.1 (by simp))] at hk
    exact hk
  · have hlt : ∀ v : Nat, v < 5 → partOf pots b j (v : Int) < b := by
      intro v hv
      have h1 := partOf_le pots b j (v : Int)
      have h2 := proper_iff.1 hp v hv
      omega
    have hg : ∀ i : Nat, i < 5 → (parts5 pots b j).take (i + 1) = (parts5 pots b j).take i ++ [partOf pots b j (i : Int)] := by
      intro i hi
      match i, hi with
      | 0, _ => rfl
      | 1, _ => rfl
      | 2, _ => rfl
      | 3, _ => rfl
      | 4, _ => rfl
    refine Loop.upto (fun i => (m, pots, q, (b : Int), (j : Int), (i : Int), m, pots, q, (b : Int), (j : Int), m, pots, q, (0 : Int), ((parts5 pots b j).take i).foldl (fun n p => max n (looks pots m.toNat p)) 0, ())) (fun i => ∀ p ∈ (parts5 pots b j).take i, 0 ≤ looks pots m.toNat p) 5 rfl (by simp) ?_ ?_
    · intro i K hi hpi hK
      dsimp only
      rw [br_decide]
      refine ⟨fun _ => ⟨⟨hf, ⟨h1, h2⟩, h3, h4⟩, ⟨⟨hf, hq, ⟨by show (0 : Int) ≤ ((partOf pots b j (i : Int) : Nat) : Int); omega, Int.ofNat_lt.2 (partOf_lt pots b j (i : Int))⟩⟩, ?_⟩, ?_⟩, fun h => absurd hi (by omega)⟩
      · show ((partOf pots b j (i : Int) : Nat) : Int).toNat < n
        rw [Int.toNat_natCast]
        have := hlt i hi
        omega
      · have hl : looksI m pots ((partOf pots b j (i : Int) : Nat) : Int) = looks pots m.toNat (partOf pots b j (i : Int)) := rfl
        rw [show (j : Int).toNat = j from rfl, show (b : Int).toNat = b from rfl] at *
        rw [hl, br_decide]
        refine ⟨fun hneg => ?_, fun hnn => ⟨fits64 (by omega) (by omega), ?_⟩⟩
        · have hmem : partOf pots b j (i : Int) ∈ parts5 pots b j := by
            have : partOf pots b j (i : Int) ∈ (parts5 pots b j).take (i + 1) := by rw [hg i hi]; simp
            exact List.mem_of_mem_take this
          rw [if_neg (fun hh => by have := hh.2 _ hmem; omega)] at hk
          exact hk
        · have hK := hK (by
            intro p hp
            rw [hg i hi, List.mem_append] at hp
            rcases hp with hp | hp
            · exact hpi p hp
            · simp only [List.mem_singleton] at hp; rw [hp]; omega)
          rw [hg i hi, List.foldl_append] at hK
          simp only [List.foldl_cons, List.foldl_nil] at hK
          rw [Int.max_def] at hK
          generalize List.foldl (fun n p => max n (looks pots m.toNat p)) 0 ((parts5 pots b j).take i) = z at hK ⊢
          generalize looks pots m.toNat (partOf pots b j (i : Int)) = y at hK hnn ⊢
          have e : (if y > z then y else z) = (if z ≤ y then y else z) := by
            by_cases h : z ≤ y
            · by_cases h' : y > z
              · rw [if_pos h, if_pos h']
              · rw [if_pos h, if_neg h']; omega
            · rw [if_neg h, if_neg (by omega)]
          rw [e]
          exact hK
    · intro K hpi
      dsimp only
      rw [br_decide]
      refine ⟨fun h => absurd h (by omega), fun _ => ?_⟩
      have e5 : (parts5 pots b j).take 5 = parts5 pots b j := rfl
      rw [e5] at hpi
      rw [if_pos ⟨hp, hpi⟩] at hk
      exact hk
end Go.Abs.King
end

section
/- Conditions and their equations, printed by a program: third part. -/
open Go.Proofs
set_option maxRecDepth 100000
set_option linter.unusedVariables false
namespace Go.Abs.King
def vc69 (m : Int) (pots : List (List Int)) (q : SemP) (bits : Int) (n : Nat) (k : AVal → List Cont → Prop) : Prop :=
  (Go.Abs.fitsK Go.IntKind.u64 bits) ∧
  (Go.Abs.King.v86.p (bits, ())) ∧
  br ((decide ((Go.Abs.King.ones bits) < (2 : Int))))
   ((k (Go.Abs.AVal.int Go.IntKind.i64 (0 : Int)) []))
   (∃ h6 : (Int → Int),
   (q = (Go.Abs.memoP h6)) ∧
   ∀ b7 : Bool,
   br (b7)
    ((k (Go.Abs.AVal.int Go.IntKind.i64 (cond b7 (h6 bits) (0 : Int))) []))
    (Go.Abs.Loop (σ := (Int × ((List (List Int)) × (Go.Abs.SemP × (Int × (Int × (Int × ((List Int) × Unit)))))))) (fun K8 x8 =>
      br ((decide (x8.2.2.2.2.1 < x8.2.2.2.1)))
       (((Go.Abs.King.v87n n).p (x8.1, (x8.2.1, (x8.2.2.1, (x8.2.2.2.2.2.1, (x8.2.2.2.2.1, ())))))) ∧
       br ((decide ((Go.Abs.King.worstI x8.1 x8.2.1 x8.2.2.2.2.2.1 x8.2.2.2.2.1) ≥ (0 : Int))))
        ((Go.Abs.fitsK Go.IntKind.i64 ((Go.Abs.King.worstI x8.1 x8.2.1 x8.2.2.2.2.2.1 x8.2.2.2.2.1) + (1 : Int))) ∧
        (((List.length x8.2.2.2.2.2.2.1) + (List.length (((Go.Abs.King.worstI x8.1 x8.2.1 x8.2.2.2.2.2.1 x8.2.2.2.2.1) + (1 : Int)) :: []))) ≤ Go.Abs.big) ∧
        (Go.Abs.fitsK Go.IntKind.i64 (x8.2.2.2.2.1 + (1 : Int))) ∧
        (K8 (x8.1, (x8.2.1, (x8.2.2.1, (x8.2.2.2.1, ((x8.2.2.2.2.1 + (1 : Int)), (x8.2.2.2.2.2.1, ((x8.2.2.2.2.2.2.1 ++ (((Go.Abs.King.worstI x8.1 x8.2.1 x8.2.2.2.2.2.1 x8.2.2.2.2.1) + (1 : Int)) :: [])), ())))))))))
        ((Go.Abs.fitsK Go.IntKind.i64 (x8.2.2.2.2.1 + (1 : Int))) ∧
        (K8 (x8.1, (x8.2.1, (x8.2.2.1, (x8.2.2.2.1, ((x8.2.2.2.2.1 + (1 : Int)), (x8.2.2.2.2.2.1, (x8.2.2.2.2.2.2.1, ()))))))))))
       ((Go.Abs.King.v88.p (x8.2.2.2.2.2.2.1, ())) ∧
       (∃ h10 : (Int → Int),
        (x8.2.2.1 = (Go.Abs.memoP h10)) ∧
        ((Go.Abs.King.bestL x8.2.2.2.2.2.2.1) = (h10 x8.2.2.2.2.2.1))) ∧
       (∃ h10 : (Int → Int),
        (x8.2.2.1 = (Go.Abs.memoP h10))) ∧
       (k (Go.Abs.AVal.int Go.IntKind.i64 (Go.Abs.King.bestL x8.2.2.2.2.2.2.1)) []))) ((m, (pots, (q, (m, ((0 : Int), (bits, (((Neg.neg (1 : Int)) :: []), ()))))))))))
theorem eq69 (m : Int) (pots : List (List Int)) (q : SemP) (bits : Int) (n : Nat) (k : AVal → List Cont → Prop) : awpF (envOf [(86, mkC [v86]), (87, mkC [v87n n]), (88, mkC [v88])]) Try.prog kt 69 false Try.f69 (v69.S.enc Unit (m, pots, q, bits, ())).1 [] k = vc69 m pots q bits n k := by kernel_rfl
theorem tx69 : (Try.f69.body.map Code.textsOk).getD true = true := by kernel_rfl

end Go.Abs.King
end

section
/- The king's functions keep their contracts: tenth part. -/
open Go.Proofs
set_option maxRecDepth 100000
set_option linter.unusedVariables false
namespace Go.Abs.King

theorem k69 (n : Nat) (hG : Good Try.prog (envOf [(86, mkC [v86]), (87, mkC [v87n n]), (88, mkC [v88])])) : (v69n n).Kept Try.prog 69 := by
  rintro ⟨m, pots, q, bits, ⟨⟩⟩ hpre k hk
  change List (List Int) at pots
  change Int at m bits
  refine aspec hmix hG Try.func69 tx69 (Eq.mpr (eq69 m pots q bits n k) ?_)
  replace hk : k (rI (looksI m pots bits)) [] := hk
  obtain ⟨⟨hf, hq, ⟨h1, h2⟩⟩, hn⟩ := hpre
  have hf : checkShelf m pots = 0 := hf
  have hq : q = memoP (looksI m pots) := hq
  have h1 : 0 ≤ bits := h1
  have h2 : bits < ((2 ^ pots.length : Nat) : Int) := h2
  have hn : bits.toNat < n := hn
  obtain ⟨f1, f2, f3, f4⟩ := fine_spec hf
  obtain ⟨b, rfl⟩ := Int.eq_ofNat_of_zero_le h1
  obtain ⟨mm, rfl⟩ := Int.eq_ofNat_of_zero_le (show 0 ≤ m by omega)
  have hl : looksI (mm : Int) pots (b : Int) = looks pots mm b := rfl
  have hb : b < 2 ^ pots.length := by omega
  have hp8 : 2 ^ pots.length ≤ 2 ^ 8 := Nat.pow_le_pow_right (by omega) (by omega)
  have h256 : (2 : Nat) ^ 8 = 256 := by decide
  have hones : ones (b : Int) = (cnt b pots.length : Int) := by
    show ((listed b 8).length : Int) = ((listed b pots.length).length : Int)
    rw [listed_cut b pots.length 8 hb (by omega)]
  have hfin : cnt b pots.length ≥ 2 → looks pots mm b = bestL (tries pots mm b mm) := by
    intro h
    rw [looks_eq, if_neg (by omega), bestL_tries]
    rfl
  unfold vc69
  rw [br_decide, hones]
  refine ⟨fitsU64 (by omega) (by omega), ⟨by show (0 : Int) ≤ (b : Int); omega, by show (b : Int) < 256; omega⟩, fun h => ?_, fun h => ⟨looksI (mm : Int) pots, hq, fun hit => br_intro (fun hh => ?_) (fun hh => ?_)⟩⟩
  · rw [hl, looks_eq, if_pos (by omega)] at hk; exact hk
  · rw [hh]; exact hk
  · refine Loop.upto (fun i => ((mm : Int), pots, q, (mm : Int), (i : Int), (b : Int), tries pots mm b i, ())) (fun i => True) mm rfl trivial ?_ ?_
    · intro i K hi _ hK
      have hK := hK trivial
      dsimp only
      rw [br_decide]
      have hw : worstI (mm : Int) pots (b : Int) (i : Int) = worstOf (looks pots mm) pots b i := rfl
      have hwb := worst_bounds pots mm b i
      have htl := tries_len pots mm b i
      refine ⟨fun _ => ⟨⟨⟨hf, hq, ⟨h1, h2⟩, by show (0 : Int) ≤ (i : Int); omega, by show (i : Int) < (mm : Int); omega⟩, hn⟩, ?_⟩, fun h => absurd hi (by omega)⟩
      rw [hw, br_decide]
      rw [tries_succ] at hK
      refine ⟨fun h5 => ⟨fits64 (by omega) (by omega), by simp [big]; omega, fits64 (by omega) (by omega), ?_⟩, fun h5 => ⟨fits64 (by omega) (by omega), ?_⟩⟩
      · rw [if_pos h5] at hK; exact hK
      · rw [if_neg h5, List.append_nil] at hK; exact hK
    · intro K _
      dsimp only
      rw [br_decide]
      have htl := tries_len pots mm b mm
      refine ⟨fun h => absurd h (by omega), fun _ => ⟨⟨by show (tries pots mm b mm).length ≤ 1152921504606846976; omega, by show 0 < (tries pots mm b mm).length; simp [tries]⟩, ⟨looksI (mm : Int) pots, hq, ?_⟩, ⟨looksI (mm : Int) pots, hq⟩, ?_⟩⟩
      · rw [hl, hfin (by omega)]
      · rw [hl, hfin (by omega)] at hk; exact hk

theorem k70 (hG : Good Try.prog (envOf [(69, mkC [v69]), (87, mkC [v87])])) : v70.Kept Try.prog 70 := by
  rintro ⟨m, pots, q, bits, ⟨⟩⟩ hpre k hk
  change List (List Int) at pots
  change Int at m bits
  refine aspec hmix hG Try.func70 tx70 (Eq.mpr (eq70 m pots q bits k) ?_)
  replace hk : k (rI (firstI m pots bits)) [] := hk
  obtain ⟨hf, hq, ⟨h1, h2⟩⟩ := hpre
  have hf : checkShelf m pots = 0 := hf
  have hq : q = memoP (looksI m pots) := hq
  have h1 : 0 ≤ bits := h1
  have h2 : bits < ((2 ^ pots.length : Nat) : Int) := h2
  obtain ⟨f1, f2, f3, f4⟩ := fine_spec hf
  obtain ⟨b, rfl⟩ := Int.eq_ofNat_of_zero_le h1
  obtain ⟨mm, rfl⟩ := Int.eq_ofNat_of_zero_le (show 0 ≤ m by omega)
  have hl : looksI (mm : Int) pots (b : Int) = looks pots mm b := rfl
  unfold vc70
  rw [hl]
  refine ⟨⟨hf, hq, h1, h2⟩, ?_⟩
  refine Loop.upto (fun i => ((mm : Int), pots, q, looks pots mm b, (mm : Int), (i : Int), (b : Int), ())) (fun i => ∀ j, j < i → decide (0 ≤ worstOf (looks pots mm) pots b j ∧ worstOf (looks pots mm) pots b j < looks pots mm b) = false) mm rfl (fun j h => by omega) ?_ ?_
  · intro i K hi hp hK
    dsimp only
    have hw : worstI (mm : Int) pots (b : Int) (i : Int) = worstOf (looks pots mm) pots b i := rfl
    rw [br_decide, hw, br_false, br_decide]
    refine ⟨fun _ => ⟨⟨hf, hq, ⟨h1, h2⟩, by show (0 : Int) ≤ (i : Int); omega, by show (i : Int) < (mm : Int); omega⟩, fun h3 => ⟨fun h4 => ⟨fits64 (by omega) (by omega), hK ?_⟩, fun h4 => ?_⟩, fun h3 => ⟨fits64 (by omega) (by omega), hK ?_⟩⟩, fun h => absurd hi (by omega)⟩
    · intro j hj
      rcases Nat.lt_or_ge j i with h' | h'
      · exact hp j h'
      · obtain rfl : j = i := by omega
        exact decide_eq_false (by omega)
    · have e : firstN pots mm b = i := by
        unfold firstN
        rw [List.range_eq_range', find_range' _ mm 0 i (by omega) (by omega) (fun j _ hj => hp j hj)]
        have e2 : 0 + mm - i = (mm - (i + 1)) + 1 := by omega
        rw [e2, List.range'_succ, List.find?_cons, decide_eq_true (by omega : 0 ≤ worstOf (looks pots mm) pots b i ∧ worstOf (looks pots mm) pots b i < looks pots mm b)]
        rfl
      have e1 : firstI (mm : Int) pots (b : Int) = (i : Int) := by
        show ((firstN pots mm b : Nat) : Int) = _
        rw [e]
      rw [e1] at hk; exact hk
    · intro j hj
      rcases Nat.lt_or_ge j i with h' | h'
      · exact hp j h'
      · obtain rfl : j = i := by omega
        exact decide_eq_false (by omega)
  · intro K hp
    dsimp only
    rw [br_decide]
    refine ⟨fun h => absurd h (by omega), fun _ => ?_⟩
    have e : firstN pots mm b = 0 := by
      unfold firstN
      rw [List.range_eq_range', find_range' _ mm 0 mm (by omega) (by omega) (fun j _ hj => hp j hj)]
      have e2 : 0 + mm - mm = 0 := by omega
      rw [e2]; rfl
    have e1 : firstI (mm : Int) pots (b : Int) = 0 := by
      show ((firstN pots mm b : Nat) : Int) = _
      rw [e]; rfl
    rw [e1] at hk; exact hk

theorem k30 (hG : Good Try.prog (envOf [(59, mkC [v59]), (69, mkC [v69])])) : v30.Kept Try.prog 30 := by
  rintro ⟨m, pots, seen, ⟨⟩⟩ hpre k hk
  change List (List Int) at pots
  change List Int at seen
  change Int at m
  refine aspec hmix hG Try.func30 tx30 (Eq.mpr (eq30 m pots seen k) ?_)
  replace hk : k (.tup [rI (looksE m pots seen), rI (seenErr m pots seen)]) [] := hk
  have herr : ∀ e : Int, e ≠ 0 → seenErr m pots seen = e → k (.tup [rI 0, rI e]) [] := by
    intro e he h
    rw [looksE, if_pos (by rw [h]; exact he), h] at hk
    exact hk
  unfold vc30
  refine ⟨hpre, errsS_br (fun h => ?_) (herr 6 (by omega)) (herr 15 (by omega)) (herr 3 (by omega))⟩
  rw [looksE, if_neg (not_not_intro h), h] at hk
  exact ⟨⟨(se_ok h).1, rfl, ⟨by show (0 : Int) ≤ ((agree pots m.toNat seen : Nat) : Int); omega, Int.ofNat_lt.2 (agree_lt pots m.toNat seen)⟩⟩, hk⟩

theorem k32 (hG : Good Try.prog (envOf [(59, mkC [v59]), (69, mkC [v69]), (70, mkC [v70])])) : v32.Kept Try.prog 32 := by
  rintro ⟨m, pots, seen, ⟨⟩⟩ hpre k hk
  change List (List Int) at pots
  change List Int at seen
  change Int at m
  refine aspec hmix hG Try.func32 tx32 (Eq.mpr (eq32 m pots seen k) ?_)
  replace hk : k (.tup [rI (nextN m pots seen), rI (nextE m pots seen)]) [] := hk
  have herr : ∀ e : Int, e ≠ 0 → nextE m pots seen = e → k (.tup [rI 0, rI e]) [] := by
    intro e he h
    rw [nextN, if_pos (by rw [h]; exact he), h] at hk
    exact hk
  have hse : ∀ e : Int, e ≠ 0 → seenErr m pots seen = e → nextE m pots seen = e := by
    intro e he h
    rw [nextE, h, if_pos he]
  unfold vc32
  refine ⟨hpre, errsS_br (fun h => ?_) (fun h => herr 6 (by omega) (hse 6 (by omega) h)) (fun h => herr 15 (by omega) (hse 15 (by omega) h)) (fun h => herr 3 (by omega) (hse 3 (by omega) h))⟩
  have hpr : v69.pre (m, pots, memoP (looksI m pots), ((agree pots m.toNat seen : Nat) : Int), ()) := ⟨(se_ok h).1, rfl, ⟨by show (0 : Int) ≤ ((agree pots m.toNat seen : Nat) : Int); omega, Int.ofNat_lt.2 (agree_lt pots m.toNat seen)⟩⟩
  have hl : looksI m pots ((agree pots m.toNat seen : Nat) : Int) = looks pots m.toNat (agree pots m.toNat seen) := rfl
  have hb := looks_bounds pots m.toNat (agree pots m.toNat seen)
  rw [hl, br_beq, br_beq]
  refine ⟨hpr, fun h2 => herr 5 (by omega) (by simp [nextE, h, h2]), fun h2 => ⟨fun h3 => herr 27 (by omega) (by simp [nextE, h, h3]), fun h3 => ⟨hpr, ?_⟩⟩⟩
  have hE : nextE m pots seen = 0 := by
    rw [nextE, if_neg (not_not_intro h), if_neg h2, if_neg (by omega)]
  rw [nextN, hE, if_neg (by omega)] at hk
  exact hk
end Go.Abs.King
end

section
/- The king's functions keep their contracts: eleventh part, lists of marks. -/
open Go.Proofs
set_option maxRecDepth 100000
set_option linter.unusedVariables false
namespace Go.Abs.King

theorem rises_len : ∀ (l : List Int) (a b : Int), a ≤ b → rises a l b = true → (l.length : Int) ≤ b - a
  | [], a, b, h, _ => by simp; omega
  | x :: l, a, b, h, hr => by
    simp only [rises, Bool.and_eq_true, decide_eq_true_eq] at hr
    have := rises_len l (x + 1) b (by omega) hr.2
    simp only [List.length_cons]
    omega
theorem rises_snoc : ∀ (l : List Int) (a b x : Int), 0 ≤ a → rises a l b = true → (nextOf l : Int) ≤ x → a ≤ x → x < b → rises a (l ++ [x]) b = true
  | [], a, b, x, _, _, _, h2, h3 => by simp [rises]; omega
  | [y], a, b, x, ha, hr, h1, h2, h3 => by
    have : nextOf [y] = (y + 1).toNat := rfl
    rw [this] at h1
    simp [rises] at hr
    simp [rises]
    omega
  | y :: z :: l, a, b, x, ha, hr, h1, h2, h3 => by
    have hr0 := hr
    simp only [rises, Bool.and_eq_true, decide_eq_true_eq] at hr
    have hn : nextOf (y :: z :: l) = nextOf (z :: l) := rfl
    rw [hn] at h1
    have hr2 : rises (y + 1) (z :: l) b = true := by
      simp only [rises, Bool.and_eq_true, decide_eq_true_eq]
      exact hr.2
    have hge : ∀ (l : List Int) (c z : Int), rises c (z :: l) b = true → 0 ≤ c → c < (nextOf (z :: l) : Int) := by
      intro l
      induction l with
      | nil =>
        intro c z h hc
        simp only [rises, Bool.and_eq_true, decide_eq_true_eq] at h
        have : nextOf [z] = (z + 1).toNat := rfl
        omega
      | cons w l ih =>
        intro c z h hc
        have h' : c ≤ z ∧ z < b ∧ rises (z + 1) (w :: l) b = true := by
          simp only [rises, Bool.and_eq_true, decide_eq_true_eq] at h ⊢
          exact ⟨h.1.1, h.1.2, h.2⟩
        have := ih (z + 1) w h'.2.2 (by omega)
        have e : nextOf (z :: w :: l) = nextOf (w :: l) := rfl
        rw [e]
        omega
    have hy := hge l (y + 1) z hr2 (by omega)
    have := rises_snoc (z :: l) (y + 1) b x (by omega) hr2 h1 (by omega) h3
    show rises a (y :: (z :: l ++ [x])) b = true
    unfold rises
    rw [Bool.and_eq_true]
    exact ⟨decide_eq_true hr.1, this⟩
theorem nextOf_last : ∀ (l : List Int) (h : 0 < l.length), nextOf l = (l[l.length - 1] + 1).toNat
  | [x], _ => rfl
  | x :: y :: l, _ => by
    have := nextOf_last (y :: l) (by simp)
    have e : nextOf (x :: y :: l) = nextOf (y :: l) := rfl
    rw [e, this]
    congr 2
theorem listsN_len (pots : List (List Int)) (m : Nat) (hm : m ≤ 6) : ∀ (n : Nat) (l : List Int), (listsN pots m n l).length ≤ 6 ^ n
  | 0, l => by
    unfold listsN
    split <;> simp
  | n + 1, l => by
    unfold listsN
    rw [List.length_flatMap]
    have : ∀ (is : List Nat), (is.map (fun j : Nat => (listsN pots m n (l ++ [(j : Int)])).length)).sum ≤ is.length * 6 ^ n := by
      intro is
      induction is with
      | nil => simp
      | cons i is ih =>
        have := listsN_len pots m hm n (l ++ [(i : Int)])
        simp only [List.map_cons, List.sum_cons, List.length_cons]
        rw [Nat.succ_mul]
        omega
    refine Nat.le_trans (this _) ?_
    rw [List.length_range', Nat.pow_succ, Nat.mul_comm]
    exact Nat.mul_le_mul_left _ (by omega)
theorem pow6 {n : Nat} (h : n ≤ 6) : 6 ^ n ≤ 46656 := by
  have : (6 : Nat) ^ n ≤ 6 ^ 6 := Nat.pow_le_pow_right (by omega) h
  have e : (6 : Nat) ^ 6 = 46656 := by decide
  omega
/-- The lists that begin with the first of the next marks. -/
def listsUp (pots : List (List Int)) (m n a : Nat) (l : List Int) (i : Nat) : List (List Int) := (List.range' a i).flatMap (fun j : Nat => listsN pots m n (l ++ [(j : Int)]))
theorem listsUp_succ (pots : List (List Int)) (m n a : Nat) (l : List Int) (i : Nat) : listsUp pots m n a l (i + 1) = listsUp pots m n a l i ++ listsN pots m n (l ++ [((a + i : Nat) : Int)]) := by
  unfold listsUp
  rw [List.range'_concat, List.flatMap_append]
  simp
theorem listsUp_len (pots : List (List Int)) (m n a : Nat) (hm : m ≤ 6) (l : List Int) (i : Nat) : (listsUp pots m n a l i).length ≤ i * 6 ^ n := by
  induction i with
  | zero => simp [listsUp]
  | succ i ih =>
    rw [listsUp_succ, List.length_append, Nat.succ_mul]
    have := listsN_len pots m hm n (l ++ [((a + i : Nat) : Int)])
    omega

theorem k66 (n : Nat) (hG : Good Try.prog (envOf [(57, mkC [v57]), (66, mkC [v66n n])])) : (v66n (n + 1)).Kept Try.prog 66 := by
  rintro ⟨m, pots, q, begun, many, ⟨⟩⟩ hpre k hk
  change List (List Int) at pots
  change List Int at begun
  change Int at m many
  refine aspec hmix hG Try.func66 tx66 (Eq.mpr (eq66 m pots q begun many n k) ?_)
  replace hk : k (.reg 0 false) [.sl (.slice (.int .i64)) (listsI m pots begun many)] := hk
  obtain ⟨⟨hf, hl, h1, h2⟩, hn⟩ := hpre
  have hf : checkShelf m pots = 0 := hf
  have hl : isList begun m = true := hl
  have h1 : 0 ≤ many := h1
  have h2 : many ≤ 6 := h2
  have hn : many.toNat < n + 1 := hn
  obtain ⟨f1, f2, f3, f4⟩ := fine_spec hf
  obtain ⟨c, rfl⟩ := Int.eq_ofNat_of_zero_le h1
  obtain ⟨mm, rfl⟩ := Int.eq_ofNat_of_zero_le (show 0 ≤ m by omega)
  have hlen : (begun.length : Int) ≤ (mm : Int) := by
    have := rises_len begun 0 (mm : Int) (by omega) hl
    omega
  have hin := ((rises_iff (mm : Int) begun 0).1 hl).1
  have hL : listsI (mm : Int) pots begun (c : Int) = listsN pots mm c begun := rfl
  rw [hL] at hk
  unfold vc66
  rw [br_beq]
  refine ⟨fun h => ⟨⟨hf, by show begun.length ≤ 1152921504606846976; omega, hin⟩, br_intro (fun hh => ?_) (fun hh => ?_)⟩, fun h => ?_⟩
  · have hc : c = 0 := by omega
    rw [hc] at hk
    unfold listsN at hk
    rw [if_pos hh] at hk; exact hk
  · have hc : c = 0 := by omega
    rw [hc] at hk
    unfold listsN at hk
    rw [if_neg (by rw [hh]; simp)] at hk; exact hk
  · obtain ⟨d, rfl⟩ : ∃ d, c = d + 1 := ⟨c - 1, by omega⟩
    have hfin : listsN pots mm (d + 1) begun = listsUp pots mm d (nextOf begun) begun (mm - nextOf begun) := rfl
    rw [hfin] at hk
    have hp6 := pow6 (n := d) (by omega)
    have hcast : ((d + 1 : Nat) : Int) - 1 = (d : Int) := by omega
    have hbig : big = 1152921504606846976 ∨ True := Or.inr trivial
    rw [br_decide]
    refine ⟨fun hpos => ?_, fun hpos => ?_⟩
    · have hpos' : 0 < begun.length := by omega
      have hlast := nextOf_last begun hpos'
      have hmem : begun[begun.length - 1] ∈ begun := List.getElem_mem _
      have hlb := hin _ hmem
      have hidx : ((begun.length : Int) - 1).toNat = begun.length - 1 := by omega
      refine ⟨fits64 (by omega) (by omega), ⟨by omega, by omega⟩, ?_⟩
      simp only [hidx]
      have hst : begun[begun.length - 1] + 1 = ((nextOf begun : Nat) : Int) := by rw [hlast]; omega
      rw [hst]
      have hnm : nextOf begun ≤ mm := by rw [hlast]; omega
      refine ⟨fits64 (by omega) (by omega), ?_⟩
      refine Loop.upto (fun i => ((mm : Int), pots, q, begun, ((d + 1 : Nat) : Int), ((nextOf begun + i : Nat) : Int), listsUp pots mm d (nextOf begun) begun i, ())) (fun i => True) (mm - nextOf begun) rfl trivial ?_ ?_
      · intro i K hi _ hK
        have hK := hK trivial
        dsimp only
        rw [br_decide]
        refine ⟨fun _ => ?_, fun h => absurd hi (by omega)⟩
        have hul := listsUp_len pots mm d (nextOf begun) (by omega) begun i
        have hnl := listsN_len pots mm (by omega) d (begun ++ [((nextOf begun + i : Nat) : Int)])
        have hmul : i * 6 ^ d ≤ 6 * 46656 := Nat.mul_le_mul (by omega) hp6
        rw [Int.toNat_natCast, List.take_length, hcast]
        have hLL : listsI (mm : Int) pots (begun ++ [((nextOf begun + i : Nat) : Int)]) (d : Int) = listsN pots mm d (begun ++ [((nextOf begun + i : Nat) : Int)]) := rfl
        rw [hLL]
        have hsn : isList (begun ++ [((nextOf begun + i : Nat) : Int)]) (mm : Int) = true := rises_snoc begun 0 (mm : Int) _ (by omega) hl (by omega) (by omega) (by omega)
        refine ⟨⟨by omega, by omega, trivial⟩, by simp [big]; omega, by simp, fits64 (by omega) (by omega), ⟨⟨hf, hsn, by show (0 : Int) ≤ (d : Int); omega, by show (d : Int) ≤ 6; omega⟩, ?_⟩, by simp only [big]; omega, fits64 (by omega) (by omega), ?_⟩
        · show (d : Int).toNat < n
          omega
        · rw [listsUp_succ] at hK
          exact hK
      · intro K _
        dsimp only
        rw [br_decide]
        exact ⟨fun h => absurd h (by omega), fun _ => hk⟩
    · have hnil : begun = [] := List.length_eq_zero_iff.1 (by omega)
      subst hnil
      refine Loop.upto (fun i => ((mm : Int), pots, q, ([] : List Int), ((d + 1 : Nat) : Int), ((nextOf [] + i : Nat) : Int), listsUp pots mm d (nextOf []) [] i, ())) (fun i => True) (mm - nextOf []) rfl trivial ?_ ?_
      · intro i K hi _ hK
        have hK := hK trivial
        dsimp only
        have hn0 : nextOf [] = 0 := rfl
        rw [hn0] at *
        rw [br_decide]
        refine ⟨fun _ => ?_, fun h => absurd hi (by omega)⟩
        have hul := listsUp_len pots mm d 0 (by omega) [] i
        have hnl := listsN_len pots mm (by omega) d ([] ++ [((0 + i : Nat) : Int)])
        have hmul : i * 6 ^ d ≤ 6 * 46656 := Nat.mul_le_mul (by omega) hp6
        rw [Int.toNat_natCast, List.take_length, hcast]
        have hLL : listsI (mm : Int) pots ([] ++ [((0 + i : Nat) : Int)]) (d : Int) = listsN pots mm d ([] ++ [((0 + i : Nat) : Int)]) := rfl
        rw [hLL]
        have hsn : isList ([] ++ [((0 + i : Nat) : Int)]) (mm : Int) = true := rises_snoc [] 0 (mm : Int) _ (by omega) hl (by simp [nextOf]) (by omega) (by omega)
        refine ⟨by simp, by simp [big], by simp, fits64 (by omega) (by omega), ⟨⟨hf, hsn, by show (0 : Int) ≤ (d : Int); omega, by show (d : Int) ≤ 6; omega⟩, ?_⟩, by simp only [big]; omega, fits64 (by omega) (by omega), ?_⟩
        · show (d : Int).toNat < n
          omega
        · rw [listsUp_succ] at hK
          exact hK
      · intro K _
        dsimp only
        rw [br_decide]
        refine ⟨fun h => absurd h ?_, fun _ => hk⟩
        have hn0 : nextOf [] = 0 := rfl
        rw [hn0]; omega
end Go.Abs.King
end

section
/- The king's functions keep their contracts: twelfth part, Fewest and Needed. -/
open Go.Proofs
set_option maxRecDepth 100000
set_option linter.unusedVariables false
namespace Go.Abs.King

theorem k25 (hG : Good Try.prog (envOf [(55, mkC [v55]), (66, mkC [v66])])) : v25.Kept Try.prog 25 := by
  rintro ⟨m, pots, ⟨⟩⟩ hpre k hk
  change List (List Int) at pots
  change Int at m
  refine aspec hmix hG Try.func25 tx25 (Eq.mpr (eq25 m pots k) ?_)
  replace hk : k (.tup [.reg 0 false, rI (fewE m pots)]) [.sl (.slice (.int .i64)) (fewL m pots)] := hk
  have herr : ∀ e : Int, e ≠ 0 → checkShelf m pots = e → k (.tup [.reg 0 false, rI e]) [.sl (.slice (.int .i64)) []] := by
    intro e he h
    have h' : checkShelf m pots ≠ 0 := by rw [h]; exact he
    rw [fewE, fewL, if_pos h', if_pos h', h] at hk
    exact hk
  unfold vc25
  refine ⟨hpre, errs_br (fun h => ?_) (herr 6 (by omega)) (herr 15 (by omega)) (herr 3 (by omega))⟩
  rw [fewE, fewL, if_neg (not_not_intro h), if_neg (not_not_intro h)] at hk
  obtain ⟨f1, f2, f3, f4⟩ := fine_spec h
  obtain ⟨mm, rfl⟩ := Int.eq_ofNat_of_zero_le (show 0 ≤ m by omega)
  refine ⟨fits64 (by omega) (by omega), ?_⟩
  refine Loop.upto (fun i => ((mm : Int), pots, memoP (looksI (mm : Int) pots), (mm : Int) + 1, (i : Int), ())) (fun i => ∀ j, j < i → decide (0 < (listsN pots mm j []).length) = false) (mm + 1) rfl (fun j h => by omega) ?_ ?_
  · intro i K hi hp hK
    dsimp only
    have hL : listsI (mm : Int) pots [] (i : Int) = listsN pots mm i [] := rfl
    rw [br_decide, hL, br_decide]
    refine ⟨fun _ => ⟨⟨h, rfl, by show (0 : Int) ≤ (i : Int); omega, by show (i : Int) ≤ 6; omega⟩, fun h2 => ?_, fun h2 => ⟨fits64 (by omega) (by omega), hK ?_⟩⟩, fun h => absurd hi (by omega)⟩
    · have e : fewK (mm : Int) pots = some i := by
        unfold fewK
        rw [Int.toNat_natCast, List.range_eq_range', find_range' _ (mm + 1) 0 i (by omega) (by omega) (fun j _ hj => hp j hj)]
        have e2 : 0 + (mm + 1) - i = (mm - i) + 1 := by omega
        rw [e2, List.range'_succ, List.find?_cons, decide_eq_true (by omega : 0 < (listsN pots mm i []).length)]
      rw [e] at hk
      exact hk
    · intro j hj
      rcases Nat.lt_or_ge j i with h' | h'
      · exact hp j h'
      · obtain rfl : j = i := by omega
        exact decide_eq_false (by omega)
  · intro K hp
    dsimp only
    rw [br_decide]
    refine ⟨fun h => absurd h (by omega), fun _ => ?_⟩
    have e : fewK (mm : Int) pots = none := by
      unfold fewK
      rw [Int.toNat_natCast, List.range_eq_range', find_range' _ (mm + 1) 0 (mm + 1) (by omega) (by omega) (fun j _ hj => hp j hj)]
      have e2 : 0 + (mm + 1) - (mm + 1) = 0 := by omega
      rw [e2]; rfl
    rw [e] at hk
    exact hk

/-- The needed ones among the first marks. -/
def neededUp (pots : List (List Int)) (m j : Nat) : List Int := ((List.range j).filter (isNeeded pots m)).map Int.ofNat
theorem neededUp_succ (pots : List (List Int)) (m j : Nat) : neededUp pots m (j + 1) = neededUp pots m j ++ (if isNeeded pots m j then [(j : Int)] else []) := by
  unfold neededUp
  rw [List.range_succ, List.filter_append, List.map_append]
  cases h : isNeeded pots m j <;> simp [h]
theorem neededUp_len (pots : List (List Int)) (m j : Nat) : (neededUp pots m j).length ≤ j := by
  unfold neededUp
  rw [List.length_map]
  exact Nat.le_trans (List.length_filter_le _ _) (by simp)
theorem any_range_false {n : Nat} {p : Nat → Bool} (h : ∀ i, i < n → p i = false) : (List.range n).any p = false := by
  rw [List.any_eq_false]
  intro i hi
  rw [h i (List.mem_range.1 hi)]; simp
theorem any_range_true {n : Nat} {p : Nat → Bool} {i : Nat} (hi : i < n) (h : p i = true) : (List.range n).any p = true :=
  List.any_eq_true.2 ⟨i, List.mem_range.2 hi, h⟩

theorem k27 (hG : Good Try.prog (envOf [(55, mkC [v55]), (68, mkC [v68])])) : v27.Kept Try.prog 27 := by
  rintro ⟨m, pots, ⟨⟩⟩ hpre k hk
  change List (List Int) at pots
  change Int at m
  refine aspec hmix hG Try.func27 tx27 (Eq.mpr (eq27 m pots k) ?_)
  replace hk : k (.tup [.reg 0 false, rI (checkShelf m pots)]) [.sl (.int .i64) (neededL m pots)] := hk
  have herr : ∀ e : Int, e ≠ 0 → checkShelf m pots = e → k (.tup [.reg 0 false, rI e]) [.sl (.int .i64) []] := by
    intro e he h
    have h' : checkShelf m pots ≠ 0 := by rw [h]; exact he
    rw [neededL, if_pos h', h] at hk
    exact hk
  unfold vc27
  refine ⟨hpre, errs_br (fun h => ?_) (herr 6 (by omega)) (herr 15 (by omega)) (herr 3 (by omega))⟩
  rw [neededL, if_neg (not_not_intro h), h] at hk
  obtain ⟨f1, f2, f3, f4⟩ := fine_spec h
  obtain ⟨mm, rfl⟩ := Int.eq_ofNat_of_zero_le (show 0 ≤ m by omega)
  refine Loop.upto (fun j => ((mm : Int), pots, memoP (looksI (mm : Int) pots), (mm : Int), (j : Int), (mm : Int), pots, neededUp pots mm j, ())) (fun j => True) mm rfl trivial ?_ ?_
  · intro j K hj _ hK
    have hK := hK trivial
    have hul := neededUp_len pots mm j
    dsimp only
    rw [br_decide]
    refine ⟨fun _ => ?_, fun h => absurd hj (by omega)⟩
    refine Loop.upto (fun i => ((mm : Int), pots, memoP (looksI (mm : Int) pots), (j : Int), (mm : Int), (j : Int), ((pots.length : Nat) : Int), (i : Int), (mm : Int), pots, neededUp pots mm j, ())) (fun i => ∀ i', i' < i → (List.range i').any (fun k => decide (apart pots mm i' k = [(j : Int)])) = false) pots.length rfl (fun i' h => by omega) ?_ ?_
    · intro i K2 hi hp hK2
      dsimp only
      rw [br_decide]
      refine ⟨fun _ => ?_, fun h => absurd hi (by omega)⟩
      refine Loop.upto (fun t => ((mm : Int), pots, memoP (looksI (mm : Int) pots), (j : Int), (i : Int), (mm : Int), (j : Int), ((pots.length : Nat) : Int), (i : Int), (i : Int), (t : Int), (mm : Int), pots, neededUp pots mm j, ())) (fun t => ∀ t', t' < t → decide (apart pots mm i t' = [(j : Int)]) = false) i rfl (fun t' h => by omega) ?_ ?_
      · intro t K3 ht hp2 hK3
        dsimp only
        simp only [Int.toNat_natCast]
        rw [br_decide]
        refine ⟨fun _ => ⟨⟨h, ⟨by show (0 : Int) ≤ (i : Int); omega, by show (i : Int) < ((pots.length : Nat) : Int); omega⟩, ⟨by show (0 : Int) ≤ (t : Int); omega, by show (t : Int) < ((pots.length : Nat) : Int); omega⟩⟩, ?_⟩, fun h => absurd ht (by omega)⟩
        have hnext : ¬ apart pots mm i t = [(j : Int)] → ∀ t', t' < t + 1 → decide (apart pots mm i t' = [(j : Int)]) = false := by
          intro hne t' ht'
          rcases Nat.lt_or_ge t' t with h' | h'
          · exact hp2 t' h'
          · obtain rfl : t' = t := by omega
            exact decide_eq_false hne
        rw [br_bt]
        refine ⟨fun h1 => ?_, fun h1 => ⟨fits64 (by omega) (by omega), hK3 (hnext ?_)⟩⟩
        · have h1' : ((apart pots mm i t).length : Int) = 1 := eq_of_beq h1
          have hl1 : (apart pots mm i t).length = 1 := by omega
          refine ⟨⟨by omega, by show 0 < _; omega⟩, by show 0 < _; omega, ?_⟩
          obtain ⟨x, hx⟩ := List.length_eq_one_iff.1 hl1
          have h0 : (Int.toNat (0 : Int)) = 0 := rfl
          simp only [h0, hx, List.getElem_cons_zero]
          rw [br_beq]
          refine ⟨fun h2 => ⟨by simp [big]; omega, fits64 (by omega) (by omega), ?_⟩, fun h2 => ⟨fits64 (by omega) (by omega), hK3 (hnext ?_)⟩⟩
          · have hn : isNeeded pots mm j = true := any_range_true hi (any_range_true ht (decide_eq_true (by rw [hx, h2])))
            rw [neededUp_succ, if_pos hn] at hK
            exact hK
          · rw [hx]; intro e; exact h2 (List.cons.inj e).1
        · intro e
          rw [e] at h1
          simp at h1
      · intro K3 hp2
        dsimp only
        rw [br_decide]
        refine ⟨fun h => absurd h (by omega), fun _ => ⟨fits64 (by omega) (by omega), hK2 ?_⟩⟩
        intro i' hi'
        rcases Nat.lt_or_ge i' i with h' | h'
        · exact hp i' h'
        · obtain rfl : i' = i := by omega
          exact any_range_false hp2
    · intro K2 hp
      dsimp only
      rw [br_decide]
      refine ⟨fun h => absurd h (by omega), fun _ => ⟨fits64 (by omega) (by omega), ?_⟩⟩
      have hn : isNeeded pots mm j = false := any_range_false hp
      rw [neededUp_succ, if_neg (by rw [hn]; simp), List.append_nil] at hK
      exact hK
  · intro K _
    dsimp only
    rw [br_decide]
    exact ⟨fun h => absurd h (by omega), fun _ => hk⟩
end Go.Abs.King
end

section
/- What the king's functions compute, of trees: plain definitions. -/
namespace Go.Abs.King
abbrev Look := Int × List Int
def strayL (m : Int) (l : Look) : Bool := decide (l.1 < 0 ∨ m ≤ l.1)
def notFive (l : Look) : Bool := decide ((l.2.length : Int) ≠ 5)
def badNum (n i : Nat) (p : Nat) (x : Int) : Bool := decide ((n : Int) ≤ x ∨ (0 ≤ x ∧ x ≤ (i : Int)) ∨ x < -1 - (p : Int))
def lookAt (t : List Look) (i : Nat) : Look := t.getD i (0, [])
def badNext (t : List Look) (p : Nat) : Bool := (List.range t.length).any (fun i => (lookAt t i).2.any (badNum t.length i p))
def allNext (t : List Look) : List Int := t.flatMap (fun l => l.2)
def badCount (t : List Look) : Bool := (List.range t.length).any (fun i => decide (0 < i) && decide ((allNext t).count (i : Int) ≠ 1))
def treeErr (m : Int) (pots : List (List Int)) (t : List Look) : Int :=
  if pots.length < t.length then 6 else if t.any (strayL m) then 3 else if t.any notFive then 15 else if badNext t pots.length then 2 else if badCount t then 16 else 0
/-- Where a look of a pot leads. -/
def stepT (t : List Look) (p : List Int) (i : Nat) : Int := (lookAt t i).2.getD (p.getD (lookAt t i).1.toNat 0).toNat 0
def walkT (t : List Look) (p : List Int) : Nat → Int → Int
  | 0, i => i
  | f + 1, i => if i < 0 then i else walkT t p f (stepT t p i.toNat)
def endsAt (t : List Look) (p : List Int) : Int := walkT t p t.length 0
def noTells (pots : List (List Int)) (t : List Look) : Bool := (List.range pots.length).any (fun i => decide (endsAt t (pots.getD i []) ≠ -2 - (i : Int)))
/-- How far each look is from the first one. -/
def farStep (t : List Look) (far : List Int) (i : Nat) : List Int := (lookAt t i).2.foldl (fun f n => if n ≥ 0 then f.set n.toNat (f.getD i 0 + 1) else f) far
def farUp (t : List Look) (i : Nat) : List Int := (List.range i).foldl (farStep t) (List.replicate t.length 0)
def farMost (t : List Look) (i : Nat) : Int := (List.range i).foldl (fun mx j => max mx ((farUp t j).getD j 0)) 0
def treeE (m : Int) (pots : List (List Int)) (t : List Look) : Int :=
  if checkShelf m pots ≠ 0 then checkShelf m pots else if treeErr m pots t ≠ 0 then treeErr m pots t
  else if t.length = 0 then (if pots.length = 1 then 0 else 27) else if noTells pots t then 27 else 0
def treeN (m : Int) (pots : List (List Int)) (t : List Look) : Int := if treeE m pots t ≠ 0 ∨ t.length = 0 then 0 else farMost t t.length + 1
def toldT (pots : List (List Int)) (t : List Look) (i : Nat) : Int := if endsAt t (pots.getD i []) < 0 then -2 - endsAt t (pots.getD i []) else -1
def toldI (pots : List (List Int)) (t : List Look) (i : Int) : Int := toldT pots t i.toNat
def deepF (t : List Look) : Nat → Nat → Int
  | 0, _ => 0
  | f + 1, i => 1 + (lookAt t i).2.foldl (fun mx n => if n ≥ 0 then max mx (deepF t f n.toNat) else mx) 0
def deepI (t : List Look) (i : Int) : Int := deepF t (t.length - i.toNat) i.toNat
def treeN2 (m : Int) (pots : List (List Int)) (t : List Look) : Int := if treeE m pots t ≠ 0 ∨ t.length = 0 then 0 else deepI t 0
/-- Numbers that are right: the ways go on. -/
def okTree (t : List Look) : Prop := ∀ i, i < t.length → (lookAt t i).2.length = 5 ∧ ∀ n ∈ (lookAt t i).2, n < (t.length : Int) ∧ (0 ≤ n → (i : Int) < n)
def indexStray (m : Int) (t : List Look) : Int := indexOf (strayL m) t
def indexFive (t : List Look) : Int := indexOf notFive t
def anyStray (m : Int) (t : List Look) : Bool := t.any (strayL m)
def anyFive (t : List Look) : Bool := t.any notFive
/-! trees that are made -/
def growStep (r : List Look → Nat → List Look) (pots : List (List Int)) (b j : Nat) (s : List Look × List Int) (v : Nat) : List Look × List Int :=
  if cnt (partOf pots b j v) 8 = 0 then (s.1, s.2 ++ [-1])
  else if cnt (partOf pots b j v) 8 = 1 then (s.1, s.2 ++ [-2 - (listed (partOf pots b j v) 8).headD 0])
  else (r s.1 (partOf pots b j v), s.2 ++ [(s.1.length : Int)])
def growF (pots : List (List Int)) (m : Nat) : Nat → List Look → Nat → List Look
  | 0, t, _ => t
  | f + 1, t, b => if looks pots m b < 1 then t else
    let j := firstN pots m b
    let r := [0, 1, 2, 3, 4].foldl (growStep (growF pots m f) pots b j) (t ++ [((j : Int), [])], [])
    r.1.set t.length ((j : Int), r.2)
def growI (m : Int) (pots : List (List Int)) (t : List Look) (b : Int) : List Look := growF pots m.toNat b.toNat t b.toNat
def lowLooks (m : Int) (pots : List (List Int)) (b : Int) : Bool := decide (looksI m pots b < 1)
def toldAll (m : Int) (pots : List (List Int)) : Bool := !hardB pots (listed (2 ^ m.toNat - 1) m.toNat)
def canTree (m : Int) (pots : List (List Int)) : Bool := decide (0 ≤ looks pots m.toNat (2 ^ pots.length - 1))
def madeE (m : Int) (pots : List (List Int)) : Int := if checkShelf m pots ≠ 0 then checkShelf m pots else if canTree m pots then 0 else 27
def madeT (m : Int) (pots : List (List Int)) : List Look := if madeE m pots ≠ 0 then [] else growI m pots [] (2 ^ pots.length - 1 : Nat)
def treeErrE (m : Int) (pots : List (List Int)) : Int := if checkShelf m pots ≠ 0 then checkShelf m pots else if toldAll m pots then 0 else 27
def looksAll (m : Int) (pots : List (List Int)) : List Int := (List.range (2 ^ pots.length)).map (fun b => looks pots m.toNat b)
def getL (l : List Int) (b : Nat) : Int := l.getD b 0
def worstL (pots : List (List Int)) (l : List Int) (b j : Int) : Int := worstOf (getL l) pots b.toNat j.toNat
def valueB (l : List Int) (i : Int) : Int := if l.length = 0 then 0 else (l.getD (i % (l.length : Int)).toNat 0) % 5
/-! the shortest lists, by bits -/
def tellBits (pots : List (List Int)) (m : Nat) (b : Nat) : Bool := !hardB pots (listed b m)
def fewStep (pots : List (List Int)) (m : Nat) (s : Nat × List (List Int)) (b : Nat) : Nat × List (List Int) :=
  if !tellBits pots m b || decide (s.1 < cnt b m) then s
  else if cnt b m < s.1 then (cnt b m, [listed b m]) else (s.1, s.2 ++ [listed b m])
def fewUp (pots : List (List Int)) (m : Nat) (b : Nat) : Nat × List (List Int) := (List.range b).foldl (fewStep pots m) (m + 1, [])
end Go.Abs.King
end

section
/- The contracts of the king's functions: second part. -/
namespace Go.Abs.King
abbrev tyT : Ty := .pair (.int .i64) (.slice (.int .i64))
abbrev sLook : VS := .agg (.cs sI (.cs sL .nl))
abbrev shortT (t : List (Int × List Int)) : Prop := t.length ≤ big60 ∧ ∀ l ∈ t, l.2.length ≤ big60
abbrev smallT (t : List (Int × List Int)) : Prop := t.length ≤ 14 ∧ ∀ l ∈ t, l.2.length ≤ 12
abbrev smallS (pots : List (List Int)) : Prop := pots.length ≤ 14 ∧ ∀ p ∈ pots, p.length ≤ 12
def v91 : Var := ⟨.cs sLook (.cs (.iptr (.cs sI (.cs sLL .nl))) .nl), fun x => 0 ≤ x.2.2.1 ∧ x.2.2.1 ≤ 6, fun x => one (.bool (strayL x.2.2.1 (x.1, x.2.1)))⟩
def v93 : Var := ⟨.cs sLook .nl, fun x => x.2.1.length ≤ big60, fun x => one (.bool (notFive (x.1, x.2.1)))⟩
def v100a : Var := ⟨.cs sT (.cs (.fn 91 .nl (.cs (.iptr (.cs sI (.cs sLL .nl))) .nl)) .nl), fun x => smallT x.1 ∧ 0 ≤ x.2.1 ∧ x.2.1 ≤ 6, fun x => one (rI (indexStray x.2.1 x.1))⟩
def v100b : Var := ⟨.cs sT (.cs (.fn 93 .nl .nl) .nl), fun x => smallT x.1, fun x => one (rI (indexFive x.1))⟩
def v92a : Var := ⟨v100a.S, v100a.pre, fun x => one (.bool (anyStray x.2.1 x.1))⟩
def v92b : Var := ⟨v100b.S, v100b.pre, fun x => one (.bool (anyFive x.1))⟩
def v72 : Var := ⟨.cs sSh (.cs sT .nl), fun x => Fine x.1 x.2.1 ∧ smallT x.2.2.1, fun x => one (rI (treeErr x.1 x.2.1 x.2.2.1))⟩
def v73 : Var := ⟨.cs sSh (.cs sT .nl), fun x => Fine x.1 x.2.1 ∧ smallT x.2.2.1, fun x => one (rI (treeErr x.1 x.2.1 x.2.2.1))⟩
def v35 : Var := ⟨.cs sSh (.cs sT .nl), fun x => smallS x.2.1 ∧ smallT x.2.2.1, fun x => one (.tup [rI (treeN x.1 x.2.1 x.2.2.1), rI (treeE x.1 x.2.1 x.2.2.1)])⟩
def v36 : Var := ⟨.cs sSh (.cs sT .nl), fun x => smallS x.2.1 ∧ smallT x.2.2.1, fun x => one (.tup [rI (treeN2 x.1 x.2.1 x.2.2.1), rI (treeE x.1 x.2.1 x.2.2.1)])⟩
def v74 : Var := ⟨.cs sSh (.cs sT (.cs sI .nl)), fun x => Fine x.1 x.2.1 ∧ smallT x.2.2.1 ∧ treeErr x.1 x.2.1 x.2.2.1 = 0 ∧ 0 < x.2.2.1.length ∧ inPots x.2.1 x.2.2.2.1, fun x => one (rI (toldI x.2.1 x.2.2.1 x.2.2.2.1))⟩
def v75 : Var := ⟨.cs sT (.cs sI .nl), fun x => smallT x.1 ∧ okTree x.1 ∧ 0 ≤ x.2.1 ∧ x.2.1 < (x.1.length : Int), fun x => one (rI (deepI x.1 x.2.1))⟩
def m75 (x : v75.S.den Unit) : Nat := List.length x.1 - Int.toNat x.2.1
def v75n (n : Nat) : Var := v75.below m75 n
/- trees that are made -/
def v77 : Var := ⟨.cs sB (.cs sT (.cs sSet .nl)), fun x => Fine x.1 x.2.1 ∧ Known x.1 x.2.1 x.2.2.1 ∧ x.2.2.2.1.length + cnt x.2.2.2.2.1.toNat 8 ≤ 30 ∧ inBits x.2.1 x.2.2.2.2.1 ∧ 0 ≤ looksI x.1 x.2.1 x.2.2.2.2.1, fun x => .br (lowLooks x.1 x.2.1 x.2.2.2.2.1) (one (.imm tyT x.2.2.2.1 false)) (.leaf (.reg 0 false) [.sl tyT (growI x.1 x.2.1 x.2.2.2.1 x.2.2.2.2.1)])⟩
def v77r : Var := ⟨.cs sB (.cs sT (.cs sSet .nl)), fun x => Fine x.1 x.2.1 ∧ Known x.1 x.2.1 x.2.2.1 ∧ x.2.2.2.1.length + cnt x.2.2.2.2.1.toNat 8 ≤ 30 ∧ inBits x.2.1 x.2.2.2.2.1 ∧ 1 ≤ looksI x.1 x.2.1 x.2.2.2.2.1, fun x => .leaf (.reg 0 false) [.sl tyT (growI x.1 x.2.1 x.2.2.2.1 x.2.2.2.2.1)]⟩
def m77 (x : v77r.S.den Unit) : Nat := Int.toNat x.2.2.2.2.1
def v77n (n : Nat) : Var := v77r.below m77 n
abbrev own2T (l : List (Int × List Int)) (e : Int) : RTree := .leaf (.tup [.reg 0 false, rI e]) [.sl tyT l]
def v37 : Var := ⟨.cs sSh .nl, fun x => smallS x.2.1, fun x => own2T (madeT x.1 x.2.1) (madeE x.1 x.2.1)⟩
def v38 : Var := ⟨.cs sSh .nl, fun x => smallS x.2.1, fun x => one (rI (treeErrE x.1 x.2.1))⟩
/- looks, by all sets -/
def v71 : Var := ⟨.cs sSh (.cs sL (.cs sI (.cs sI .nl))), fun x => Fine x.1 x.2.1 ∧ x.2.2.1.length = 2 ^ x.2.1.length ∧ inBits x.2.1 x.2.2.2.1 ∧ (0 ≤ x.2.2.2.2.1 ∧ x.2.2.2.2.1 < x.1), fun x => one (rI (worstL x.2.1 x.2.2.1 x.2.2.2.1 x.2.2.2.2.1))⟩
def v39 : Var := ⟨.cs sSh .nl, fun x => Fine x.1 x.2.1, fun x => own (looksAll x.1 x.2.1)⟩
def v31 : Var := ⟨.cs sSh (.cs sL .nl), fun x => smallS x.2.1 ∧ x.2.2.1.length ≤ big60, fun x => one (.tup [rI (looksE x.1 x.2.1 x.2.2.1), rI (seenErr x.1 x.2.1 x.2.2.1)])⟩
def v33 : Var := ⟨.cs sSh (.cs sL .nl), fun x => smallS x.2.1 ∧ x.2.2.1.length ≤ big60, fun x => one (.tup [rI (nextN x.1 x.2.1 x.2.2.1), rI (nextE x.1 x.2.1 x.2.2.1)])⟩
/- helpers of the statements -/
abbrev immL (l : List Int) : AVal := .imm (.int .i64) l false
abbrev bytesL (l : List Int) : Prop := ∀ b ∈ l, 0 ≤ b ∧ b ≤ 255
abbrev immT (t : List (Int × List Int)) : AVal := .imm tyT t false
abbrev immLL (l : List (List Int)) : AVal := .imm (.slice (.int .i64)) l false
def v48 : Var := ⟨.cs (.imm (.int .u8) false) (.cs sI .nl), fun x => x.1.length ≤ big60 ∧ 0 ≤ x.2.1 ∧ x.2.1 ≤ 1000000 ∧ bytesL x.1, fun x => one (rI (valueB x.1 x.2.1))⟩
def v52 : Var := ⟨.cs sI (.cs sLL .nl), fun x => x.2.1.length ≤ 100, fun x => one (.agg [rI x.1, immLL x.2.1])⟩
def v50 : Var := ⟨.nl, fun _ => True, fun _ => one (.agg [rI 3, immLL [[0, 0, 1], [0, 1, 1], [1, 0, 0], [1, 1, 1]]])⟩
def v51 : Var := ⟨.nl, fun _ => True, fun _ => one (.agg [rI 2, immLL [[0, 0], [1, 1], [0, 0]]])⟩
def v78 : Var := ⟨.cs sI (.cs sL .nl), fun _ => True, fun x => one (.agg [rI x.1, immL x.2.1])⟩
def v53 : Var := ⟨.cs sI .nl, fun _ => True, fun x => one (immT [(x.1, [1, 2, -1, -1, -1]), (1, [-2, -3, -1, -1, -1]), (1, [-4, -5, -1, -1, -1])])⟩
def v54 : Var := ⟨.cs sLL .nl, fun _ => True, fun x => one (immLL x.1)⟩
end Go.Abs.King
end

section
/- Conditions and their equations, printed by a program: fourth part. -/
open Go.Proofs
set_option maxRecDepth 100000
set_option linter.unusedVariables false
namespace Go.Abs.King
def vc93 (a : Int) (l : List Int) (k : AVal → List Cont → Prop) : Prop :=
  (k (Go.Abs.AVal.bool ((((List.length l) : Nat) : Int) != (5 : Int))) [])
theorem eq93 (a : Int) (l : List Int) (k : AVal → List Cont → Prop) : awpF (envOf []) Try.prog kt 93 false Try.f93 (v93.S.enc Unit (a, l, ())).1 [] k = vc93 a l k := by kernel_rfl
theorem tx93 : (Try.f93.body.map Code.textsOk).getD true = true := by kernel_rfl

def vc91 (a : Int) (l : List Int) (m : Int) (pots : List (List Int)) (k : AVal → List Cont → Prop) : Prop :=
  (Go.Abs.fitsK Go.IntKind.i64 (m - (1 : Int))) ∧
  (Go.Abs.King.v56.p ((0 : Int), ((m - (1 : Int)), ((a :: ([] : List Int)), ())))) ∧
  (k (Go.Abs.AVal.bool (Bool.not (Go.Abs.King.within (0 : Int) (m - (1 : Int)) (a :: ([] : List Int))))) [])
theorem eq91 (a : Int) (l : List Int) (m : Int) (pots : List (List Int)) (k : AVal → List Cont → Prop) : awpF (envOf [(56, mkC [v56])]) Try.prog kt 91 false Try.f91 (v91.S.enc Unit (a, l, m, pots, ())).1 [] k = vc91 a l m pots k := by kernel_rfl
theorem tx91 : (Try.f91.body.map Code.textsOk).getD true = true := by kernel_rfl

def vc100a (t : List (Int × List Int)) (m : Int) (pots : List (List Int)) (k : AVal → List Cont → Prop) : Prop :=
  Go.Abs.Loop (σ := ((List (Int × (List Int))) × (Int × ((List (List Int)) × (Int × (Int × Unit)))))) (fun K4 x4 =>
    br ((decide (x4.2.2.2.2.1 < x4.2.2.2.1)))
     (∃ h6 : (((0 : Int) ≤ x4.2.2.2.2.1) ∧ ((Int.toNat x4.2.2.2.2.1) < (List.length x4.1))),
     (Go.Abs.King.v91.p ((x4.1[(Int.toNat x4.2.2.2.2.1)]'h6.2).1, ((x4.1[(Int.toNat x4.2.2.2.2.1)]'h6.2).2, (x4.2.1, (x4.2.2.1, ()))))) ∧
     br ((Go.Abs.King.strayL x4.2.1 ((x4.1[(Int.toNat x4.2.2.2.2.1)]'h6.2).1, (x4.1[(Int.toNat x4.2.2.2.2.1)]'h6.2).2)))
      ((k (Go.Abs.AVal.int Go.IntKind.i64 x4.2.2.2.2.1) []))
      ((Go.Abs.fitsK Go.IntKind.i64 (x4.2.2.2.2.1 + (1 : Int))) ∧
      (K4 (x4.1, (x4.2.1, (x4.2.2.1, (x4.2.2.2.1, ((x4.2.2.2.2.1 + (1 : Int)), ()))))))))
     ((k (Go.Abs.AVal.int Go.IntKind.i64 (Neg.neg (1 : Int))) []))) ((t, (m, (pots, ((((List.length t) : Nat) : Int), ((0 : Int), ()))))))
theorem eq100a (t : List (Int × List Int)) (m : Int) (pots : List (List Int)) (k : AVal → List Cont → Prop) : awpF (envOf [(91, mkC [v91]), (93, mkC [v93])]) Try.prog kt 100 false Try.f100 (v100a.S.enc Unit (t, m, pots, ())).1 [] k = vc100a t m pots k := by kernel_rfl
theorem tx100 : (Try.f100.body.map Code.textsOk).getD true = true := by kernel_rfl

def vc100b (t : List (Int × List Int)) (k : AVal → List Cont → Prop) : Prop :=
  Go.Abs.Loop (σ := ((List (Int × (List Int))) × (Int × (Int × Unit)))) (fun K2 x2 =>
    br ((decide (x2.2.2.1 < x2.2.1)))
     (∃ h4 : (((0 : Int) ≤ x2.2.2.1) ∧ ((Int.toNat x2.2.2.1) < (List.length x2.1))),
     (Go.Abs.King.v93.p ((x2.1[(Int.toNat x2.2.2.1)]'h4.2).1, ((x2.1[(Int.toNat x2.2.2.1)]'h4.2).2, ()))) ∧
     br ((Go.Abs.King.notFive ((x2.1[(Int.toNat x2.2.2.1)]'h4.2).1, (x2.1[(Int.toNat x2.2.2.1)]'h4.2).2)))
      ((k (Go.Abs.AVal.int Go.IntKind.i64 x2.2.2.1) []))
      ((Go.Abs.fitsK Go.IntKind.i64 (x2.2.2.1 + (1 : Int))) ∧
      (K2 (x2.1, (x2.2.1, ((x2.2.2.1 + (1 : Int)), ()))))))
     ((k (Go.Abs.AVal.int Go.IntKind.i64 (Neg.neg (1 : Int))) []))) ((t, ((((List.length t) : Nat) : Int), ((0 : Int), ()))))
theorem eq100b (t : List (Int × List Int)) (k : AVal → List Cont → Prop) : awpF (envOf [(91, mkC [v91]), (93, mkC [v93])]) Try.prog kt 100 false Try.f100 (v100b.S.enc Unit (t, ())).1 [] k = vc100b t k := by kernel_rfl

def vc92a (t : List (Int × List Int)) (m : Int) (pots : List (List Int)) (k : AVal → List Cont → Prop) : Prop :=
  (Go.Abs.King.v100a.p (t, (m, (pots, ())))) ∧
  (k (Go.Abs.AVal.bool (decide ((Go.Abs.King.indexStray m t) ≥ (0 : Int)))) [])
theorem eq92a (t : List (Int × List Int)) (m : Int) (pots : List (List Int)) (k : AVal → List Cont → Prop) : awpF (envOf [(100, mkC [v100a, v100b])]) Try.prog kt 92 false Try.f92 (v92a.S.enc Unit (t, m, pots, ())).1 [] k = vc92a t m pots k := by kernel_rfl
theorem tx92 : (Try.f92.body.map Code.textsOk).getD true = true := by kernel_rfl

def vc92b (t : List (Int × List Int)) (k : AVal → List Cont → Prop) : Prop :=
  (Go.Abs.King.v100b.p (t, ())) ∧
  (k (Go.Abs.AVal.bool (decide ((Go.Abs.King.indexFive t) ≥ (0 : Int)))) [])
theorem eq92b (t : List (Int × List Int)) (k : AVal → List Cont → Prop) : awpF (envOf [(100, mkC [v100a, v100b])]) Try.prog kt 92 false Try.f92 (v92b.S.enc Unit (t, ())).1 [] k = vc92b t k := by kernel_rfl

def vc34 (t : List (Int × List Int)) (k : AVal → List Cont → Prop) : Prop :=
  br ((decide ((((List.length t) : Nat) : Int) > (14 : Int))))
   ((k (Go.Abs.AVal.bool Bool.true) []))
   (Go.Abs.Loop (σ := ((List (Int × (List Int))) × (Int × (Int × Unit)))) (fun K2 x2 =>
     br ((decide (x2.2.2.1 < (((List.length x2.1) : Nat) : Int))))
      (∃ h4 : (((0 : Int) ≤ x2.2.2.1) ∧ ((Int.toNat x2.2.2.1) < (List.length x2.1))),
      (Go.Abs.fitsK Go.IntKind.i64 (x2.2.2.1 + (1 : Int))) ∧
      (K2 (x2.1, ((ite ((((List.length (x2.1[(Int.toNat x2.2.2.1)]'h4.2).2) : Nat) : Int) > x2.2.1) (((List.length (x2.1[(Int.toNat x2.2.2.1)]'h4.2).2) : Nat) : Int) x2.2.1), ((x2.2.2.1 + (1 : Int)), ())))))
      ((k (Go.Abs.AVal.bool (decide (x2.2.1 > (12 : Int)))) []))) ((t, ((0 : Int), ((0 : Int), ())))))
theorem eq34 (t : List (Int × List Int)) (k : AVal → List Cont → Prop) : awpF (envOf []) Try.prog kt 34 false Try.f34 (v34.S.enc Unit (t, ())).1 [] k = vc34 t k := by kernel_rfl
theorem tx34 : (Try.f34.body.map Code.textsOk).getD true = true := by kernel_rfl

def vc72 (m : Int) (pots : List (List Int)) (t : List (Int × List Int)) (k : AVal → List Cont → Prop) : Prop :=
  br ((decide ((((List.length t) : Nat) : Int) > (((List.length pots) : Nat) : Int))))
   ((k (Go.Abs.AVal.int Go.IntKind.i64 (6 : Int)) []))
   ((Go.Abs.King.v92a.p (t, (m, (pots, ())))) ∧
   br ((Go.Abs.King.anyStray m t))
    ((k (Go.Abs.AVal.int Go.IntKind.i64 (3 : Int)) []))
    ((Go.Abs.King.v92b.p (t, ())) ∧
    br ((Go.Abs.King.anyFive t))
     ((k (Go.Abs.AVal.int Go.IntKind.i64 (15 : Int)) []))
     ((((0 : Int) ≤ (((List.length t) : Nat) : Int)) ∧ (((((List.length t) : Nat) : Int) = (((List.length t) : Nat) : Int)) ∧ ((((List.length t) : Nat) : Int) ≤ ((Go.Abs.big : Nat) : Int)))) ∧
     Go.Abs.Loop (σ := ((List (Int × (List Int))) × ((List (Int × (List Int))) × (Int × (Int × (Int × ((List (List Int)) × ((List Int) × Unit)))))))) (fun K4 x4 =>
       br ((decide (x4.2.2.2.1 < x4.2.2.1)))
        (∃ h6 : (((0 : Int) ≤ x4.2.2.2.1) ∧ ((Int.toNat x4.2.2.2.1) < (List.length x4.2.1))),
        Go.Abs.Loop (σ := ((List (Int × (List Int))) × (Int × ((List (Int × (List Int))) × (Int × (Int × ((List Int) × (Int × (Int × (Int × ((List (List Int)) × ((List Int) × Unit)))))))))))) (fun K7 x7 =>
          br ((decide (x7.2.2.2.2.2.2.2.1 < x7.2.2.2.2.2.2.1)))
           (∃ h9 : (((0 : Int) ≤ x7.2.2.2.2.2.2.2.1) ∧ ((Int.toNat x7.2.2.2.2.2.2.2.1) < (List.length x7.2.2.2.2.2.1))),
           (Go.Abs.fitsK Go.IntKind.i64 ((Neg.neg (1 : Int)) - (((List.length x7.2.2.2.2.2.2.2.2.2.1) : Nat) : Int))) ∧
           (Go.Abs.fitsK Go.IntKind.i64 ((((List.length x7.1) : Nat) : Int) - (1 : Int))) ∧
           (Go.Abs.King.v56.p (((Neg.neg (1 : Int)) - (((List.length x7.2.2.2.2.2.2.2.2.2.1) : Nat) : Int)), (((((List.length x7.1) : Nat) : Int) - (1 : Int)), (((x7.2.2.2.2.2.1[(Int.toNat x7.2.2.2.2.2.2.2.1)]'h9.2) :: ([] : List Int)), ())))) ∧
           br (((Bool.not (Go.Abs.King.within ((Neg.neg (1 : Int)) - (((List.length x7.2.2.2.2.2.2.2.2.2.1) : Nat) : Int)) ((((List.length x7.1) : Nat) : Int) - (1 : Int)) ((x7.2.2.2.2.2.1[(Int.toNat x7.2.2.2.2.2.2.2.1)]'h9.2) :: ([] : List Int)))) == Bool.false))
            ((Go.Abs.King.v56.p ((0 : Int), (x7.2.1, (((x7.2.2.2.2.2.1[(Int.toNat x7.2.2.2.2.2.2.2.1)]'h9.2) :: ([] : List Int)), ())))) ∧
            br ((Go.Abs.King.within (0 : Int) x7.2.1 ((x7.2.2.2.2.2.1[(Int.toNat x7.2.2.2.2.2.2.2.1)]'h9.2) :: ([] : List Int))))
             ((k (Go.Abs.AVal.int Go.IntKind.i64 (2 : Int)) []))
             (br ((decide ((x7.2.2.2.2.2.1[(Int.toNat x7.2.2.2.2.2.2.2.1)]'h9.2) ≥ (0 : Int))))
              ((((0 : Int) ≤ (x7.2.2.2.2.2.1[(Int.toNat x7.2.2.2.2.2.2.2.1)]'h9.2)) ∧ ((Int.toNat (x7.2.2.2.2.2.1[(Int.toNat x7.2.2.2.2.2.2.2.1)]'h9.2)) < (List.length x7.2.2.2.2.2.2.2.2.2.2.1))) ∧
              ∃ h10 : ((Int.toNat (x7.2.2.2.2.2.1[(Int.toNat x7.2.2.2.2.2.2.2.1)]'h9.2)) < (List.length x7.2.2.2.2.2.2.2.2.2.2.1)),
              (Go.Abs.fitsK Go.IntKind.i64 ((x7.2.2.2.2.2.2.2.2.2.2.1[(Int.toNat (x7.2.2.2.2.2.1[(Int.toNat x7.2.2.2.2.2.2.2.1)]'h9.2))]'h10) + (1 : Int))) ∧
              (((0 : Int) ≤ (x7.2.2.2.2.2.1[(Int.toNat x7.2.2.2.2.2.2.2.1)]'h9.2)) ∧ ((Int.toNat (x7.2.2.2.2.2.1[(Int.toNat x7.2.2.2.2.2.2.2.1)]'h9.2)) < (List.length x7.2.2.2.2.2.2.2.2.2.2.1))) ∧
              ∃ h11 : ((Int.toNat (x7.2.2.2.2.2.1[(Int.toNat x7.2.2.2.2.2.2.2.1)]'h9.2)) < (List.length x7.2.2.2.2.2.2.2.2.2.2.1)),
              (Go.Abs.fitsK Go.IntKind.i64 (x7.2.2.2.2.2.2.2.1 + (1 : Int))) ∧
              (K7 (x7.1, (x7.2.1, (x7.2.2.1, (x7.2.2.2.1, (x7.2.2.2.2.1, (x7.2.2.2.2.2.1, (x7.2.2.2.2.2.2.1, ((x7.2.2.2.2.2.2.2.1 + (1 : Int)), (x7.2.2.2.2.2.2.2.2.1, (x7.2.2.2.2.2.2.2.2.2.1, ((List.set x7.2.2.2.2.2.2.2.2.2.2.1 (Int.toNat (x7.2.2.2.2.2.1[(Int.toNat x7.2.2.2.2.2.2.2.1)]'h9.2)) ((x7.2.2.2.2.2.2.2.2.2.2.1[(Int.toNat (x7.2.2.2.2.2.1[(Int.toNat x7.2.2.2.2.2.2.2.1)]'h9.2))]'h10) + (1 : Int))), ())))))))))))))
              ((Go.Abs.fitsK Go.IntKind.i64 (x7.2.2.2.2.2.2.2.1 + (1 : Int))) ∧
              (K7 (x7.1, (x7.2.1, (x7.2.2.1, (x7.2.2.2.1, (x7.2.2.2.2.1, (x7.2.2.2.2.2.1, (x7.2.2.2.2.2.2.1, ((x7.2.2.2.2.2.2.2.1 + (1 : Int)), (x7.2.2.2.2.2.2.2.2.1, (x7.2.2.2.2.2.2.2.2.2.1, (x7.2.2.2.2.2.2.2.2.2.2.1, ())))))))))))))))
            ((k (Go.Abs.AVal.int Go.IntKind.i64 (2 : Int)) [])))
           ((Go.Abs.fitsK Go.IntKind.i64 (x7.2.2.2.2.1 + (1 : Int))) ∧
           (K4 (x7.1, (x7.2.2.1, (x7.2.2.2.1, ((x7.2.2.2.2.1 + (1 : Int)), (x7.2.2.2.2.2.2.2.2.1, (x7.2.2.2.2.2.2.2.2.2.1, (x7.2.2.2.2.2.2.2.2.2.2.1, ())))))))))) ((x4.1, (x4.2.2.2.1, (x4.2.1, (x4.2.2.1, (x4.2.2.2.1, ((x4.2.1[(Int.toNat x4.2.2.2.1)]'h6.2).2, ((((List.length (x4.2.1[(Int.toNat x4.2.2.2.1)]'h6.2).2) : Nat) : Int), ((0 : Int), (x4.2.2.2.2.1, (x4.2.2.2.2.2.1, (x4.2.2.2.2.2.2.1, ())))))))))))))
        (Go.Abs.Loop (σ := (Int × (Int × ((List Int) × Unit)))) (fun K6 x6 =>
          br ((decide (x6.2.1 < x6.1)))
           ((((0 : Int) ≤ x6.2.1) ∧ ((Int.toNat x6.2.1) < (List.length x6.2.2.1))) ∧
           ∃ h8 : ((Int.toNat x6.2.1) < (List.length x6.2.2.1)),
           br (((decide (x6.2.1 > (0 : Int))) == Bool.true))
            (br (((x6.2.2.1[(Int.toNat x6.2.1)]'h8) != (1 : Int)))
             ((k (Go.Abs.AVal.int Go.IntKind.i64 (16 : Int)) []))
             ((Go.Abs.fitsK Go.IntKind.i64 (x6.2.1 + (1 : Int))) ∧
             (K6 (x6.1, ((x6.2.1 + (1 : Int)), (x6.2.2.1, ()))))))
            ((Go.Abs.fitsK Go.IntKind.i64 (x6.2.1 + (1 : Int))) ∧
            (K6 (x6.1, ((x6.2.1 + (1 : Int)), (x6.2.2.1, ()))))))
           ((k (Go.Abs.AVal.int Go.IntKind.i64 (0 : Int)) []))) (((((List.length x4.2.2.2.2.2.2.1) : Nat) : Int), ((0 : Int), (x4.2.2.2.2.2.2.1, ())))))) ((t, (t, ((((List.length t) : Nat) : Int), ((0 : Int), (m, (pots, ((List.replicate (Int.toNat (((List.length t) : Nat) : Int)) (Int.ofNat 0)), ())))))))))))
theorem eq72 (m : Int) (pots : List (List Int)) (t : List (Int × List Int)) (k : AVal → List Cont → Prop) : awpF (envOf [(92, mkC [v92a, v92b]), (56, mkC [v56])]) Try.prog kt 72 false Try.f72 (v72.S.enc Unit (m, pots, t, ())).1 [] k = vc72 m pots t k := by kernel_rfl
theorem tx72 : (Try.f72.body.map Code.textsOk).getD true = true := by kernel_rfl

def vc73 (m : Int) (pots : List (List Int)) (t : List (Int × List Int)) (k : AVal → List Cont → Prop) : Prop :=
  br ((decide ((((List.length t) : Nat) : Int) > (((List.length pots) : Nat) : Int))))
   ((k (Go.Abs.AVal.int Go.IntKind.i64 (6 : Int)) []))
   (Go.Abs.Loop (σ := ((List (Int × (List Int))) × (Int × (Int × ((List (List Int)) × Unit))))) (fun K4 x4 =>
     br ((decide (x4.2.1 < (((List.length x4.1) : Nat) : Int))))
      (∃ h6 : (((0 : Int) ≤ x4.2.1) ∧ ((Int.toNat x4.2.1) < (List.length x4.1))),
      br (((decide ((x4.1[(Int.toNat x4.2.1)]'h6.2).1 < (0 : Int))) == Bool.false))
       (∃ h7 : (((0 : Int) ≤ x4.2.1) ∧ ((Int.toNat x4.2.1) < (List.length x4.1))),
       br ((decide ((x4.1[(Int.toNat x4.2.1)]'h7.2).1 ≥ x4.2.2.1)))
        ((k (Go.Abs.AVal.int Go.IntKind.i64 (3 : Int)) []))
        ((Go.Abs.fitsK Go.IntKind.i64 (x4.2.1 + (1 : Int))) ∧
        (K4 (x4.1, ((x4.2.1 + (1 : Int)), (x4.2.2.1, (x4.2.2.2.1, ())))))))
       ((k (Go.Abs.AVal.int Go.IntKind.i64 (3 : Int)) [])))
      (Go.Abs.Loop (σ := ((List (Int × (List Int))) × (Int × (Int × ((List (List Int)) × Unit))))) (fun K6 x6 =>
        br ((decide (x6.2.1 < (((List.length x6.1) : Nat) : Int))))
         (∃ h8 : (((0 : Int) ≤ x6.2.1) ∧ ((Int.toNat x6.2.1) < (List.length x6.1))),
         br (((((List.length (x6.1[(Int.toNat x6.2.1)]'h8.2).2) : Nat) : Int) != (5 : Int)))
          ((k (Go.Abs.AVal.int Go.IntKind.i64 (15 : Int)) []))
          ((Go.Abs.fitsK Go.IntKind.i64 (x6.2.1 + (1 : Int))) ∧
          (K6 (x6.1, ((x6.2.1 + (1 : Int)), (x6.2.2.1, (x6.2.2.2.1, ())))))))
         ((Go.Abs.fitsK Go.IntKind.i64 ((((List.length x6.1) : Nat) : Int) + (1 : Int))) ∧
         (((0 : Int) ≤ ((((List.length x6.1) : Nat) : Int) + (1 : Int))) ∧ ((((((List.length x6.1) : Nat) : Int) + (1 : Int)) = ((((List.length x6.1) : Nat) : Int) + (1 : Int))) ∧ (((((List.length x6.1) : Nat) : Int) + (1 : Int)) ≤ ((Go.Abs.big : Nat) : Int)))) ∧
         Go.Abs.Loop (σ := ((List (Int × (List Int))) × (Int × (Int × ((List (List Int)) × ((List Int) × Unit)))))) (fun K8 x8 =>
           br ((decide (x8.2.1 < (((List.length x8.1) : Nat) : Int))))
            (Go.Abs.Loop (σ := ((List (Int × (List Int))) × (Int × (Int × (Int × ((List (List Int)) × ((List Int) × Unit))))))) (fun K10 x10 =>
              br ((decide (x10.2.2.1 < (5 : Int))))
               (∃ h12 : (((0 : Int) ≤ x10.2.1) ∧ ((Int.toNat x10.2.1) < (List.length x10.1))),
               ∃ h13 : (((0 : Int) ≤ x10.2.2.1) ∧ ((Int.toNat x10.2.2.1) < (List.length (x10.1[(Int.toNat x10.2.1)]'h12.2).2))),
               br (((decide (((x10.1[(Int.toNat x10.2.1)]'h12.2).2[(Int.toNat x10.2.2.1)]'h13.2) ≥ (((List.length x10.1) : Nat) : Int))) == Bool.false))
                (br (((decide (((x10.1[(Int.toNat x10.2.1)]'h12.2).2[(Int.toNat x10.2.2.1)]'h13.2) ≥ (0 : Int))) == Bool.true))
                 (br (((decide (((x10.1[(Int.toNat x10.2.1)]'h12.2).2[(Int.toNat x10.2.2.1)]'h13.2) ≤ x10.2.1)) == Bool.false))
                  ((Go.Abs.fitsK Go.IntKind.i64 ((Neg.neg (1 : Int)) - (((List.length x10.2.2.2.2.1) : Nat) : Int))) ∧
                  br ((decide (((x10.1[(Int.toNat x10.2.1)]'h12.2).2[(Int.toNat x10.2.2.1)]'h13.2) < ((Neg.neg (1 : Int)) - (((List.length x10.2.2.2.2.1) : Nat) : Int)))))
                   ((k (Go.Abs.AVal.int Go.IntKind.i64 (2 : Int)) []))
                   (br ((decide (((x10.1[(Int.toNat x10.2.1)]'h12.2).2[(Int.toNat x10.2.2.1)]'h13.2) ≥ (0 : Int))))
                    ((((0 : Int) ≤ ((x10.1[(Int.toNat x10.2.1)]'h12.2).2[(Int.toNat x10.2.2.1)]'h13.2)) ∧ ((Int.toNat ((x10.1[(Int.toNat x10.2.1)]'h12.2).2[(Int.toNat x10.2.2.1)]'h13.2)) < (List.length x10.2.2.2.2.2.1))) ∧
                    ∃ h14 : ((Int.toNat ((x10.1[(Int.toNat x10.2.1)]'h12.2).2[(Int.toNat x10.2.2.1)]'h13.2)) < (List.length x10.2.2.2.2.2.1)),
                    (Go.Abs.fitsK Go.IntKind.i64 ((x10.2.2.2.2.2.1[(Int.toNat ((x10.1[(Int.toNat x10.2.1)]'h12.2).2[(Int.toNat x10.2.2.1)]'h13.2))]'h14) + (1 : Int))) ∧
                    (((0 : Int) ≤ ((x10.1[(Int.toNat x10.2.1)]'h12.2).2[(Int.toNat x10.2.2.1)]'h13.2)) ∧ ((Int.toNat ((x10.1[(Int.toNat x10.2.1)]'h12.2).2[(Int.toNat x10.2.2.1)]'h13.2)) < (List.length x10.2.2.2.2.2.1))) ∧
                    ∃ h15 : ((Int.toNat ((x10.1[(Int.toNat x10.2.1)]'h12.2).2[(Int.toNat x10.2.2.1)]'h13.2)) < (List.length x10.2.2.2.2.2.1)),
                    (Go.Abs.fitsK Go.IntKind.i64 (x10.2.2.1 + (1 : Int))) ∧
                    (K10 (x10.1, (x10.2.1, ((x10.2.2.1 + (1 : Int)), (x10.2.2.2.1, (x10.2.2.2.2.1, ((List.set x10.2.2.2.2.2.1 (Int.toNat ((x10.1[(Int.toNat x10.2.1)]'h12.2).2[(Int.toNat x10.2.2.1)]'h13.2)) ((x10.2.2.2.2.2.1[(Int.toNat ((x10.1[(Int.toNat x10.2.1)]'h12.2).2[(Int.toNat x10.2.2.1)]'h13.2))]'h14) + (1 : Int))), ()))))))))
                    ((Go.Abs.fitsK Go.IntKind.i64 (x10.2.2.1 + (1 : Int))) ∧
                    (K10 (x10.1, (x10.2.1, ((x10.2.2.1 + (1 : Int)), (x10.2.2.2.1, (x10.2.2.2.2.1, (x10.2.2.2.2.2.1, ()))))))))))
                  ((k (Go.Abs.AVal.int Go.IntKind.i64 (2 : Int)) [])))
                 ((Go.Abs.fitsK Go.IntKind.i64 ((Neg.neg (1 : Int)) - (((List.length x10.2.2.2.2.1) : Nat) : Int))) ∧
                 br ((decide (((x10.1[(Int.toNat x10.2.1)]'h12.2).2[(Int.toNat x10.2.2.1)]'h13.2) < ((Neg.neg (1 : Int)) - (((List.length x10.2.2.2.2.1) : Nat) : Int)))))
                  ((k (Go.Abs.AVal.int Go.IntKind.i64 (2 : Int)) []))
                  (br ((decide (((x10.1[(Int.toNat x10.2.1)]'h12.2).2[(Int.toNat x10.2.2.1)]'h13.2) ≥ (0 : Int))))
                   ((((0 : Int) ≤ ((x10.1[(Int.toNat x10.2.1)]'h12.2).2[(Int.toNat x10.2.2.1)]'h13.2)) ∧ ((Int.toNat ((x10.1[(Int.toNat x10.2.1)]'h12.2).2[(Int.toNat x10.2.2.1)]'h13.2)) < (List.length x10.2.2.2.2.2.1))) ∧
                   ∃ h14 : ((Int.toNat ((x10.1[(Int.toNat x10.2.1)]'h12.2).2[(Int.toNat x10.2.2.1)]'h13.2)) < (List.length x10.2.2.2.2.2.1)),
                   (Go.Abs.fitsK Go.IntKind.i64 ((x10.2.2.2.2.2.1[(Int.toNat ((x10.1[(Int.toNat x10.2.1)]'h12.2).2[(Int.toNat x10.2.2.1)]'h13.2))]'h14) + (1 : Int))) ∧
                   (((0 : Int) ≤ ((x10.1[(Int.toNat x10.2.1)]'h12.2).2[(Int.toNat x10.2.2.1)]'h13.2)) ∧ ((Int.toNat ((x10.1[(Int.toNat x10.2.1)]'h12.2).2[(Int.toNat x10.2.2.1)]'h13.2)) < (List.length x10.2.2.2.2.2.1))) ∧
                   ∃ h15 : ((Int.toNat ((x10.1[(Int.toNat x10.2.1)]'h12.2).2[(Int.toNat x10.2.2.1)]'h13.2)) < (List.length x10.2.2.2.2.2.1)),
                   (Go.Abs.fitsK Go.IntKind.i64 (x10.2.2.1 + (1 : Int))) ∧
                   (K10 (x10.1, (x10.2.1, ((x10.2.2.1 + (1 : Int)), (x10.2.2.2.1, (x10.2.2.2.2.1, ((List.set x10.2.2.2.2.2.1 (Int.toNat ((x10.1[(Int.toNat x10.2.1)]'h12.2).2[(Int.toNat x10.2.2.1)]'h13.2)) ((x10.2.2.2.2.2.1[(Int.toNat ((x10.1[(Int.toNat x10.2.1)]'h12.2).2[(Int.toNat x10.2.2.1)]'h13.2))]'h14) + (1 : Int))), ()))))))))
                   ((Go.Abs.fitsK Go.IntKind.i64 (x10.2.2.1 + (1 : Int))) ∧
                   (K10 (x10.1, (x10.2.1, ((x10.2.2.1 + (1 : Int)), (x10.2.2.2.1, (x10.2.2.2.2.1, (x10.2.2.2.2.2.1, ())))))))))))
                ((k (Go.Abs.AVal.int Go.IntKind.i64 (2 : Int)) [])))
               ((Go.Abs.fitsK Go.IntKind.i64 (x10.2.1 + (1 : Int))) ∧
               (K8 (x10.1, ((x10.2.1 + (1 : Int)), (x10.2.2.2.1, (x10.2.2.2.2.1, (x10.2.2.2.2.2.1, ())))))))) ((x8.1, (x8.2.1, ((0 : Int), (x8.2.2.1, (x8.2.2.2.1, (x8.2.2.2.2.1, ()))))))))
            (Go.Abs.Loop (σ := ((List (Int × (List Int))) × (Int × ((List Int) × Unit)))) (fun K10 x10 =>
              br ((decide (x10.2.1 < (((List.length x10.1) : Nat) : Int))))
               ((((0 : Int) ≤ x10.2.1) ∧ ((Int.toNat x10.2.1) < (List.length x10.2.2.1))) ∧
               ∃ h12 : ((Int.toNat x10.2.1) < (List.length x10.2.2.1)),
               br (((x10.2.2.1[(Int.toNat x10.2.1)]'h12) != (1 : Int)))
                ((k (Go.Abs.AVal.int Go.IntKind.i64 (16 : Int)) []))
                ((Go.Abs.fitsK Go.IntKind.i64 (x10.2.1 + (1 : Int))) ∧
                (K10 (x10.1, ((x10.2.1 + (1 : Int)), (x10.2.2.1, ()))))))
               ((k (Go.Abs.AVal.int Go.IntKind.i64 (0 : Int)) []))) ((x8.1, ((1 : Int), (x8.2.2.2.2.1, ())))))) ((x6.1, ((0 : Int), (x6.2.2.1, (x6.2.2.2.1, ((List.replicate (Int.toNat ((((List.length x6.1) : Nat) : Int) + (1 : Int))) (Int.ofNat 0)), ())))))))) ((x4.1, ((0 : Int), (x4.2.2.1, (x4.2.2.2.1, ()))))))) ((t, ((0 : Int), (m, (pots, ()))))))
theorem eq73 (m : Int) (pots : List (List Int)) (t : List (Int × List Int)) (k : AVal → List Cont → Prop) : awpF (envOf []) Try.prog kt 73 false Try.f73 (v73.S.enc Unit (m, pots, t, ())).1 [] k = vc73 m pots t k := by kernel_rfl
theorem tx73 : (Try.f73.body.map Code.textsOk).getD true = true := by kernel_rfl

def vc35 (m : Int) (pots : List (List Int)) (t : List (Int × List Int)) (k : AVal → List Cont → Prop) : Prop :=
  (Go.Abs.King.v55.p (m, (pots, ()))) ∧
  br ((Go.Abs.King.csIs m pots (6 : Int)))
   ((k (Go.Abs.AVal.tup ((Go.Abs.AVal.int Go.IntKind.i64 (0 : Int)) :: ((Go.Abs.AVal.int Go.IntKind.i64 (6 : Int)) :: []))) []))
   (br ((Go.Abs.King.csIs m pots (15 : Int)))
    ((k (Go.Abs.AVal.tup ((Go.Abs.AVal.int Go.IntKind.i64 (0 : Int)) :: ((Go.Abs.AVal.int Go.IntKind.i64 (15 : Int)) :: []))) []))
    (br ((Go.Abs.King.csIs m pots (3 : Int)))
     ((k (Go.Abs.AVal.tup ((Go.Abs.AVal.int Go.IntKind.i64 (0 : Int)) :: ((Go.Abs.AVal.int Go.IntKind.i64 (3 : Int)) :: []))) []))
     ((Go.Abs.King.v72.p (m, (pots, (t, ())))) ∧
     br (((Go.Abs.King.treeErr m pots t) != (0 : Int)))
      ((k (Go.Abs.AVal.tup ((Go.Abs.AVal.int Go.IntKind.i64 (0 : Int)) :: ((Go.Abs.AVal.int Go.IntKind.i64 (Go.Abs.King.treeErr m pots t)) :: []))) []))
      (br ((((((List.length t) : Nat) : Int) == (0 : Int)) == Bool.true))
       (br (((((List.length pots) : Nat) : Int) == (1 : Int)))
        ((k (Go.Abs.AVal.tup ((Go.Abs.AVal.int Go.IntKind.i64 (0 : Int)) :: ((Go.Abs.AVal.int Go.IntKind.i64 (0 : Int)) :: []))) []))
        (br (((((List.length t) : Nat) : Int) == (0 : Int)))
         ((k (Go.Abs.AVal.tup ((Go.Abs.AVal.int Go.IntKind.i64 (0 : Int)) :: ((Go.Abs.AVal.int Go.IntKind.i64 (27 : Int)) :: []))) []))
         (Go.Abs.Loop (σ := ((List (Int × (List Int))) × ((List (List Int)) × (Int × (Int × Unit))))) (fun K4 x4 =>
           br ((decide (x4.2.2.2.1 < x4.2.2.1)))
            (∃ h6 : (((0 : Int) ≤ x4.2.2.2.1) ∧ ((Int.toNat x4.2.2.2.1) < (List.length x4.2.1))),
            Go.Abs.Loop (σ := ((List (Int × (List Int))) × (Int × (Int × ((List (List Int)) × (Int × (Int × ((List Int) × Unit)))))))) (fun K7 x7 =>
              br ((decide (x7.2.2.1 ≥ (0 : Int))))
               (∃ h9 : (((0 : Int) ≤ x7.2.2.1) ∧ ((Int.toNat x7.2.2.1) < (List.length x7.1))),
               ∃ h10 : (((0 : Int) ≤ x7.2.2.1) ∧ ((Int.toNat x7.2.2.1) < (List.length x7.1))),
               ∃ h11 : (((0 : Int) ≤ (x7.1[(Int.toNat x7.2.2.1)]'h10.2).1) ∧ ((Int.toNat (x7.1[(Int.toNat x7.2.2.1)]'h10.2).1) < (List.length x7.2.2.2.2.2.2.1))),
               ∃ h12 : (((0 : Int) ≤ (x7.2.2.2.2.2.2.1[(Int.toNat (x7.1[(Int.toNat x7.2.2.1)]'h10.2).1)]'h11.2)) ∧ ((Int.toNat (x7.2.2.2.2.2.2.1[(Int.toNat (x7.1[(Int.toNat x7.2.2.1)]'h10.2).1)]'h11.2)) < (List.length (x7.1[(Int.toNat x7.2.2.1)]'h9.2).2))),
               (K7 (x7.1, (x7.2.1, (((x7.1[(Int.toNat x7.2.2.1)]'h9.2).2[(Int.toNat (x7.2.2.2.2.2.2.1[(Int.toNat (x7.1[(Int.toNat x7.2.2.1)]'h10.2).1)]'h11.2))]'h12.2), (x7.2.2.2.1, (x7.2.2.2.2.1, (x7.2.2.2.2.2.1, (x7.2.2.2.2.2.2.1, ())))))))))
               ((Go.Abs.fitsK Go.IntKind.i64 ((Neg.neg (2 : Int)) - x7.2.1)) ∧
               br ((x7.2.2.1 != ((Neg.neg (2 : Int)) - x7.2.1)))
                ((k (Go.Abs.AVal.tup ((Go.Abs.AVal.int Go.IntKind.i64 (0 : Int)) :: ((Go.Abs.AVal.int Go.IntKind.i64 (27 : Int)) :: []))) []))
                ((Go.Abs.fitsK Go.IntKind.i64 (x7.2.2.2.2.2.1 + (1 : Int))) ∧
                (K4 (x7.1, (x7.2.2.2.1, (x7.2.2.2.2.1, ((x7.2.2.2.2.2.1 + (1 : Int)), ())))))))) ((x4.1, (x4.2.2.2.1, ((0 : Int), (x4.2.1, (x4.2.2.1, (x4.2.2.2.1, ((x4.2.1[(Int.toNat x4.2.2.2.1)]'h6.2), ())))))))))
            ((((0 : Int) ≤ (((List.length x4.1) : Nat) : Int)) ∧ (((((List.length x4.1) : Nat) : Int) = (((List.length x4.1) : Nat) : Int)) ∧ ((((List.length x4.1) : Nat) : Int) ≤ ((Go.Abs.big : Nat) : Int)))) ∧
            Go.Abs.Loop (σ := (Int × ((List (Int × (List Int))) × (Int × (Int × ((List Int) × Unit)))))) (fun K6 x6 =>
              br ((decide (x6.2.2.2.1 < x6.2.2.1)))
               (∃ h8 : (((0 : Int) ≤ x6.2.2.2.1) ∧ ((Int.toNat x6.2.2.2.1) < (List.length x6.2.1))),
               (((0 : Int) ≤ x6.2.2.2.1) ∧ ((Int.toNat x6.2.2.2.1) < (List.length x6.2.2.2.2.1))) ∧
               ∃ h9 : ((Int.toNat x6.2.2.2.1) < (List.length x6.2.2.2.2.1)),
               Go.Abs.Loop (σ := (Int × (Int × ((List (Int × (List Int))) × (Int × (Int × ((List Int) × (Int × (Int × ((List Int) × Unit)))))))))) (fun K10 x10 =>
                 br ((decide (x10.2.2.2.2.2.2.2.1 < x10.2.2.2.2.2.2.1)))
                  (∃ h12 : (((0 : Int) ≤ x10.2.2.2.2.2.2.2.1) ∧ ((Int.toNat x10.2.2.2.2.2.2.2.1) < (List.length x10.2.2.2.2.2.1))),
                  br ((decide ((x10.2.2.2.2.2.1[(Int.toNat x10.2.2.2.2.2.2.2.1)]'h12.2) ≥ (0 : Int))))
                   ((((0 : Int) ≤ x10.2.1) ∧ ((Int.toNat x10.2.1) < (List.length x10.2.2.2.2.2.2.2.2.1))) ∧
                   ∃ h13 : ((Int.toNat x10.2.1) < (List.length x10.2.2.2.2.2.2.2.2.1)),
                   (Go.Abs.fitsK Go.IntKind.i64 ((x10.2.2.2.2.2.2.2.2.1[(Int.toNat x10.2.1)]'h13) + (1 : Int))) ∧
                   (((0 : Int) ≤ (x10.2.2.2.2.2.1[(Int.toNat x10.2.2.2.2.2.2.2.1)]'h12.2)) ∧ ((Int.toNat (x10.2.2.2.2.2.1[(Int.toNat x10.2.2.2.2.2.2.2.1)]'h12.2)) < (List.length x10.2.2.2.2.2.2.2.2.1))) ∧
                   ∃ h14 : ((Int.toNat (x10.2.2.2.2.2.1[(Int.toNat x10.2.2.2.2.2.2.2.1)]'h12.2)) < (List.length x10.2.2.2.2.2.2.2.2.1)),
                   (Go.Abs.fitsK Go.IntKind.i64 (x10.2.2.2.2.2.2.2.1 + (1 : Int))) ∧
                   (K10 (x10.1, (x10.2.1, (x10.2.2.1, (x10.2.2.2.1, (x10.2.2.2.2.1, (x10.2.2.2.2.2.1, (x10.2.2.2.2.2.2.1, ((x10.2.2.2.2.2.2.2.1 + (1 : Int)), ((List.set x10.2.2.2.2.2.2.2.2.1 (Int.toNat (x10.2.2.2.2.2.1[(Int.toNat x10.2.2.2.2.2.2.2.1)]'h12.2)) ((x10.2.2.2.2.2.2.2.2.1[(Int.toNat x10.2.1)]'h13) + (1 : Int))), ())))))))))))
                   ((Go.Abs.fitsK Go.IntKind.i64 (x10.2.2.2.2.2.2.2.1 + (1 : Int))) ∧
                   (K10 (x10.1, (x10.2.1, (x10.2.2.1, (x10.2.2.2.1, (x10.2.2.2.2.1, (x10.2.2.2.2.2.1, (x10.2.2.2.2.2.2.1, ((x10.2.2.2.2.2.2.2.1 + (1 : Int)), (x10.2.2.2.2.2.2.2.2.1, ()))))))))))))
                  ((Go.Abs.fitsK Go.IntKind.i64 (x10.2.2.2.2.1 + (1 : Int))) ∧
                  (K6 (x10.1, (x10.2.2.1, (x10.2.2.2.1, ((x10.2.2.2.2.1 + (1 : Int)), (x10.2.2.2.2.2.2.2.2.1, ())))))))) (((ite ((x6.2.2.2.2.1[(Int.toNat x6.2.2.2.1)]'h9) > x6.1) (x6.2.2.2.2.1[(Int.toNat x6.2.2.2.1)]'h9) x6.1), (x6.2.2.2.1, (x6.2.1, (x6.2.2.1, (x6.2.2.2.1, ((x6.2.1[(Int.toNat x6.2.2.2.1)]'h8.2).2, ((((List.length (x6.2.1[(Int.toNat x6.2.2.2.1)]'h8.2).2) : Nat) : Int), ((0 : Int), (x6.2.2.2.2.1, ())))))))))))
               ((Go.Abs.fitsK Go.IntKind.i64 (x6.1 + (1 : Int))) ∧
               (k (Go.Abs.AVal.tup ((Go.Abs.AVal.int Go.IntKind.i64 (x6.1 + (1 : Int))) :: ((Go.Abs.AVal.int Go.IntKind.i64 (0 : Int)) :: []))) []))) (((0 : Int), (x4.1, ((((List.length x4.1) : Nat) : Int), ((0 : Int), ((List.replicate (Int.toNat (((List.length x4.1) : Nat) : Int)) (Int.ofNat 0)), ())))))))) ((t, (pots, ((((List.length pots) : Nat) : Int), ((0 : Int), ()))))))))
       (br (((((List.length t) : Nat) : Int) == (0 : Int)))
        ((k (Go.Abs.AVal.tup ((Go.Abs.AVal.int Go.IntKind.i64 (0 : Int)) :: ((Go.Abs.AVal.int Go.IntKind.i64 (27 : Int)) :: []))) []))
        (Go.Abs.Loop (σ := ((List (Int × (List Int))) × ((List (List Int)) × (Int × (Int × Unit))))) (fun K4 x4 =>
          br ((decide (x4.2.2.2.1 < x4.2.2.1)))
           (∃ h6 : (((0 : Int) ≤ x4.2.2.2.1) ∧ ((Int.toNat x4.2.2.2.1) < (List.length x4.2.1))),
           Go.Abs.Loop (σ := ((List (Int × (List Int))) × (Int × (Int × ((List (List Int)) × (Int × (Int × ((List Int) × Unit)))))))) (fun K7 x7 =>
             br ((decide (x7.2.2.1 ≥ (0 : Int))))
              (∃ h9 : (((0 : Int) ≤ x7.2.2.1) ∧ ((Int.toNat x7.2.2.1) < (List.length x7.1))),
              ∃ h10 : (((0 : Int) ≤ x7.2.2.1) ∧ ((Int.toNat x7.2.2.1) < (List.length x7.1))),
              ∃ h11 : (((0 : Int) ≤ (x7.1[(Int.toNat x7.2.2.1)]'h10.2).1) ∧ ((Int.toNat (x7.1[(Int.toNat x7.2.2.1)]'h10.2).1) < (List.length x7.2.2.2.2.2.2.1))),
              ∃ h12 : (((0 : Int) ≤ (x7.2.2.2.2.2.2.1[(Int.toNat (x7.1[(Int.toNat x7.2.2.1)]'h10.2).1)]'h11.2)) ∧ ((Int.toNat (x7.2.2.2.2.2.2.1[(Int.toNat (x7.1[(Int.toNat x7.2.2.1)]'h10.2).1)]'h11.2)) < (List.length (x7.1[(Int.toNat x7.2.2.1)]'h9.2).2))),
              (K7 (x7.1, (x7.2.1, (((x7.1[(Int.toNat x7.2.2.1)]'h9.2).2[(Int.toNat (x7.2.2.2.2.2.2.1[(Int.toNat (x7.1[(Int.toNat x7.2.2.1)]'h10.2).1)]'h11.2))]'h12.2), (x7.2.2.2.1, (x7.2.2.2.2.1, (x7.2.2.2.2.2.1, (x7.2.2.2.2.2.2.1, ())))))))))
              ((Go.Abs.fitsK Go.IntKind.i64 ((Neg.neg (2 : Int)) - x7.2.1)) ∧
              br ((x7.2.2.1 != ((Neg.neg (2 : Int)) - x7.2.1)))
               ((k (Go.Abs.AVal.tup ((Go.Abs.AVal.int Go.IntKind.i64 (0 : Int)) :: ((Go.Abs.AVal.int Go.IntKind.i64 (27 : Int)) :: []))) []))
               ((Go.Abs.fitsK Go.IntKind.i64 (x7.2.2.2.2.2.1 + (1 : Int))) ∧
               (K4 (x7.1, (x7.2.2.2.1, (x7.2.2.2.2.1, ((x7.2.2.2.2.2.1 + (1 : Int)), ())))))))) ((x4.1, (x4.2.2.2.1, ((0 : Int), (x4.2.1, (x4.2.2.1, (x4.2.2.2.1, ((x4.2.1[(Int.toNat x4.2.2.2.1)]'h6.2), ())))))))))
           ((((0 : Int) ≤ (((List.length x4.1) : Nat) : Int)) ∧ (((((List.length x4.1) : Nat) : Int) = (((List.length x4.1) : Nat) : Int)) ∧ ((((List.length x4.1) : Nat) : Int) ≤ ((Go.Abs.big : Nat) : Int)))) ∧
           Go.Abs.Loop (σ := (Int × ((List (Int × (List Int))) × (Int × (Int × ((List Int) × Unit)))))) (fun K6 x6 =>
             br ((decide (x6.2.2.2.1 < x6.2.2.1)))
              (∃ h8 : (((0 : Int) ≤ x6.2.2.2.1) ∧ ((Int.toNat x6.2.2.2.1) < (List.length x6.2.1))),
              (((0 : Int) ≤ x6.2.2.2.1) ∧ ((Int.toNat x6.2.2.2.1) < (List.length x6.2.2.2.2.1))) ∧
              ∃ h9 : ((Int.toNat x6.2.2.2.1) < (List.length x6.2.2.2.2.1)),
              Go.Abs.Loop (σ := (Int × (Int × ((List (Int × (List Int))) × (Int × (Int × ((List Int) × (Int × (Int × ((List Int) × Unit)))))))))) (fun K10 x10 =>
                br ((decide (x10.2.2.2.2.2.2.2.1 < x10.2.2.2.2.2.2.1)))
                 (∃ h12 : (((0 : Int) ≤ x10.2.2.2.2.2.2.2.1) ∧ ((Int.toNat x10.2.2.2.2.2.2.2.1) < (List.length x10.2.2.2.2.2.1))),
                 br ((decide ((x10.2.2.2.2.2.1[(Int.toNat x10.2.2.2.2.2.2.2.1)]'h12.2) ≥ (0 : Int))))
                  ((((0 : Int) ≤ x10.2.1) ∧ ((Int.toNat x10.2.1) < (List.length x10.2.2.2.2.2.2.2.2.1))) ∧
                  ∃ h13 : ((Int.toNat x10.2.1) < (List.length x10.2.2.2.2.2.2.2.2.1)),
                  (Go.Abs.fitsK Go.IntKind.i64 ((x10.2.2.2.2.2.2.2.2.1[(Int.toNat x10.2.1)]'h13) + (1 : Int))) ∧
                  (((0 : Int) ≤ (x10.2.2.2.2.2.1[(Int.toNat x10.2.2.2.2.2.2.2.1)]'h12.2)) ∧ ((Int.toNat (x10.2.2.2.2.2.1[(Int.toNat x10.2.2.2.2.2.2.2.1)]'h12.2)) < (List.length x10.2.2.2.2.2.2.2.2.1))) ∧
                  ∃ h14 : ((Int.toNat (x10.2.2.2.2.2.1[(Int.toNat x10.2.2.2.2.2.2.2.1)]'h12.2)) < (List.length x10.2.2.2.2.2.2.2.2.1)),
                  (Go.Abs.fitsK Go.IntKind.i64 (x10.2.2.2.2.2.2.2.1 + (1 : Int))) ∧
                  (K10 (x10.1, (x10.2.1, (x10.2.2.1, (x10.2.2.2.1, (x10.2.2.2.2.1, (x10.2.2.2.2.2.1, (x10.2.2.2.2.2.2.1, ((x10.2.2.2.2.2.2.2.1 + (1 : Int)), ((List.set x10.2.2.2.2.2.2.2.2.1 (Int.toNat (x10.2.2.2.2.2.1[(Int.toNat x10.2.2.2.2.2.2.2.1)]'h12.2)) ((x10.2.2.2.2.2.2.2.2.1[(Int.toNat x10.2.1)]'h13) + (1 : Int))), ())))))))))))
                  ((Go.Abs.fitsK Go.IntKind.i64 (x10.2.2.2.2.2.2.2.1 + (1 : Int))) ∧
                  (K10 (x10.1, (x10.2.1, (x10.2.2.1, (x10.2.2.2.1, (x10.2.2.2.2.1, (x10.2.2.2.2.2.1, (x10.2.2.2.2.2.2.1, ((x10.2.2.2.2.2.2.2.1 + (1 : Int)), (x10.2.2.2.2.2.2.2.2.1, ()))))))))))))
                 ((Go.Abs.fitsK Go.IntKind.i64 (x10.2.2.2.2.1 + (1 : Int))) ∧
                 (K6 (x10.1, (x10.2.2.1, (x10.2.2.2.1, ((x10.2.2.2.2.1 + (1 : Int)), (x10.2.2.2.2.2.2.2.2.1, ())))))))) (((ite ((x6.2.2.2.2.1[(Int.toNat x6.2.2.2.1)]'h9) > x6.1) (x6.2.2.2.2.1[(Int.toNat x6.2.2.2.1)]'h9) x6.1), (x6.2.2.2.1, (x6.2.1, (x6.2.2.1, (x6.2.2.2.1, ((x6.2.1[(Int.toNat x6.2.2.2.1)]'h8.2).2, ((((List.length (x6.2.1[(Int.toNat x6.2.2.2.1)]'h8.2).2) : Nat) : Int), ((0 : Int), (x6.2.2.2.2.1, ())))))))))))
              ((Go.Abs.fitsK Go.IntKind.i64 (x6.1 + (1 : Int))) ∧
              (k (Go.Abs.AVal.tup ((Go.Abs.AVal.int Go.IntKind.i64 (x6.1 + (1 : Int))) :: ((Go.Abs.AVal.int Go.IntKind.i64 (0 : Int)) :: []))) []))) (((0 : Int), (x4.1, ((((List.length x4.1) : Nat) : Int), ((0 : Int), ((List.replicate (Int.toNat (((List.length x4.1) : Nat) : Int)) (Int.ofNat 0)), ())))))))) ((t, (pots, ((((List.length pots) : Nat) : Int), ((0 : Int), ())))))))))))
theorem eq35 (m : Int) (pots : List (List Int)) (t : List (Int × List Int)) (k : AVal → List Cont → Prop) : awpF (envOf [(55, mkC [v55]), (72, mkC [v72])]) Try.prog kt 35 false Try.f35 (v35.S.enc Unit (m, pots, t, ())).1 [] k = vc35 m pots t k := by kernel_rfl
theorem tx35 : (Try.f35.body.map Code.textsOk).getD true = true := by kernel_rfl

def vc36 (m : Int) (pots : List (List Int)) (t : List (Int × List Int)) (k : AVal → List Cont → Prop) : Prop :=
  (Go.Abs.King.v23.p (m, (pots, ()))) ∧
  br (((Go.Abs.King.checkShelf m pots) != (0 : Int)))
   ((Go.Abs.King.v23.p (m, (pots, ()))) ∧
   (k (Go.Abs.AVal.tup ((Go.Abs.AVal.int Go.IntKind.i64 (0 : Int)) :: ((Go.Abs.AVal.int Go.IntKind.i64 (Go.Abs.King.checkShelf m pots)) :: []))) []))
   ((Go.Abs.King.v73.p (m, (pots, (t, ())))) ∧
   br (((Go.Abs.King.treeErr m pots t) != (0 : Int)))
    ((Go.Abs.King.v73.p (m, (pots, (t, ())))) ∧
    (k (Go.Abs.AVal.tup ((Go.Abs.AVal.int Go.IntKind.i64 (0 : Int)) :: ((Go.Abs.AVal.int Go.IntKind.i64 (Go.Abs.King.treeErr m pots t)) :: []))) []))
    (br (((((List.length t) : Nat) : Int) == (0 : Int)))
     (br ((decide ((((List.length pots) : Nat) : Int) > (1 : Int))))
      ((k (Go.Abs.AVal.tup ((Go.Abs.AVal.int Go.IntKind.i64 (0 : Int)) :: ((Go.Abs.AVal.int Go.IntKind.i64 (27 : Int)) :: []))) []))
      ((k (Go.Abs.AVal.tup ((Go.Abs.AVal.int Go.IntKind.i64 (0 : Int)) :: ((Go.Abs.AVal.int Go.IntKind.i64 (0 : Int)) :: []))) [])))
     (Go.Abs.Loop (σ := ((List (Int × (List Int))) × (Int × (Int × ((List (List Int)) × Unit))))) (fun K4 x4 =>
       br ((decide (x4.2.1 < (((List.length x4.2.2.2.1) : Nat) : Int))))
        ((Go.Abs.King.v74.p (x4.2.2.1, (x4.2.2.2.1, (x4.1, (x4.2.1, ()))))) ∧
        br (((Go.Abs.King.toldI x4.2.2.2.1 x4.1 x4.2.1) != x4.2.1))
         ((k (Go.Abs.AVal.tup ((Go.Abs.AVal.int Go.IntKind.i64 (0 : Int)) :: ((Go.Abs.AVal.int Go.IntKind.i64 (27 : Int)) :: []))) []))
         ((Go.Abs.fitsK Go.IntKind.i64 (x4.2.1 + (1 : Int))) ∧
         (K4 (x4.1, ((x4.2.1 + (1 : Int)), (x4.2.2.1, (x4.2.2.2.1, ())))))))
        ((Go.Abs.King.v75.p (x4.1, ((0 : Int), ()))) ∧
        (k (Go.Abs.AVal.tup ((Go.Abs.AVal.int Go.IntKind.i64 (Go.Abs.King.deepI x4.1 (0 : Int))) :: ((Go.Abs.AVal.int Go.IntKind.i64 (0 : Int)) :: []))) []))) ((t, ((0 : Int), (m, (pots, ()))))))))
theorem eq36 (m : Int) (pots : List (List Int)) (t : List (Int × List Int)) (k : AVal → List Cont → Prop) : awpF (envOf [(23, mkC [v23]), (73, mkC [v73]), (74, mkC [v74]), (75, mkC [v75])]) Try.prog kt 36 false Try.f36 (v36.S.enc Unit (m, pots, t, ())).1 [] k = vc36 m pots t k := by kernel_rfl
theorem tx36 : (Try.f36.body.map Code.textsOk).getD true = true := by kernel_rfl

def vc74 (m : Int) (pots : List (List Int)) (t : List (Int × List Int)) (pot : Int) (k : AVal → List Cont → Prop) : Prop :=
  Go.Abs.Loop (σ := ((List (Int × (List Int))) × (Int × (Int × (Int × (Int × ((List (List Int)) × Unit))))))) (fun K5 x5 =>
    br ((decide (x5.2.2.2.1 < (((List.length x5.1) : Nat) : Int))))
     (∃ h7 : (((0 : Int) ≤ x5.2.2.1) ∧ ((Int.toNat x5.2.2.1) < (List.length x5.1))),
     ∃ h8 : (((0 : Int) ≤ x5.2.1) ∧ ((Int.toNat x5.2.1) < (List.length x5.2.2.2.2.2.1))),
     ∃ h9 : (((0 : Int) ≤ x5.2.2.1) ∧ ((Int.toNat x5.2.2.1) < (List.length x5.1))),
     ∃ h10 : (((0 : Int) ≤ (x5.1[(Int.toNat x5.2.2.1)]'h9.2).1) ∧ ((Int.toNat (x5.1[(Int.toNat x5.2.2.1)]'h9.2).1) < (List.length (x5.2.2.2.2.2.1[(Int.toNat x5.2.1)]'h8.2)))),
     ∃ h11 : (((0 : Int) ≤ ((x5.2.2.2.2.2.1[(Int.toNat x5.2.1)]'h8.2)[(Int.toNat (x5.1[(Int.toNat x5.2.2.1)]'h9.2).1)]'h10.2)) ∧ ((Int.toNat ((x5.2.2.2.2.2.1[(Int.toNat x5.2.1)]'h8.2)[(Int.toNat (x5.1[(Int.toNat x5.2.2.1)]'h9.2).1)]'h10.2)) < (List.length (x5.1[(Int.toNat x5.2.2.1)]'h7.2).2))),
     br ((decide (((x5.1[(Int.toNat x5.2.2.1)]'h7.2).2[(Int.toNat ((x5.2.2.2.2.2.1[(Int.toNat x5.2.1)]'h8.2)[(Int.toNat (x5.1[(Int.toNat x5.2.2.1)]'h9.2).1)]'h10.2))]'h11.2) < (0 : Int))))
      ((Go.Abs.fitsK Go.IntKind.i64 ((Neg.neg (2 : Int)) - ((x5.1[(Int.toNat x5.2.2.1)]'h7.2).2[(Int.toNat ((x5.2.2.2.2.2.1[(Int.toNat x5.2.1)]'h8.2)[(Int.toNat (x5.1[(Int.toNat x5.2.2.1)]'h9.2).1)]'h10.2))]'h11.2))) ∧
      (k (Go.Abs.AVal.int Go.IntKind.i64 ((Neg.neg (2 : Int)) - ((x5.1[(Int.toNat x5.2.2.1)]'h7.2).2[(Int.toNat ((x5.2.2.2.2.2.1[(Int.toNat x5.2.1)]'h8.2)[(Int.toNat (x5.1[(Int.toNat x5.2.2.1)]'h9.2).1)]'h10.2))]'h11.2))) []))
      ((Go.Abs.fitsK Go.IntKind.i64 (x5.2.2.2.1 + (1 : Int))) ∧
      (K5 (x5.1, (x5.2.1, (((x5.1[(Int.toNat x5.2.2.1)]'h7.2).2[(Int.toNat ((x5.2.2.2.2.2.1[(Int.toNat x5.2.1)]'h8.2)[(Int.toNat (x5.1[(Int.toNat x5.2.2.1)]'h9.2).1)]'h10.2))]'h11.2), ((x5.2.2.2.1 + (1 : Int)), (x5.2.2.2.2.1, (x5.2.2.2.2.2.1, ())))))))))
     ((k (Go.Abs.AVal.int Go.IntKind.i64 (Neg.neg (1 : Int))) []))) ((t, (pot, ((0 : Int), ((0 : Int), (m, (pots, ())))))))
theorem eq74 (m : Int) (pots : List (List Int)) (t : List (Int × List Int)) (pot : Int) (k : AVal → List Cont → Prop) : awpF (envOf []) Try.prog kt 74 false Try.f74 (v74.S.enc Unit (m, pots, t, pot, ())).1 [] k = vc74 m pots t pot k := by kernel_rfl
theorem tx74 : (Try.f74.body.map Code.textsOk).getD true = true := by kernel_rfl

def vc75 (t : List (Int × List Int)) (i : Int) (n : Nat) (k : AVal → List Cont → Prop) : Prop :=
  Go.Abs.Loop (σ := ((List (Int × (List Int))) × (Int × (Int × (Int × Unit))))) (fun K4 x4 =>
    br ((decide (x4.2.2.2.1 < (5 : Int))))
     (∃ h6 : (((0 : Int) ≤ x4.2.1) ∧ ((Int.toNat x4.2.1) < (List.length x4.1))),
     ∃ h7 : (((0 : Int) ≤ x4.2.2.2.1) ∧ ((Int.toNat x4.2.2.2.1) < (List.length (x4.1[(Int.toNat x4.2.1)]'h6.2).2))),
     br ((decide (((x4.1[(Int.toNat x4.2.1)]'h6.2).2[(Int.toNat x4.2.2.2.1)]'h7.2) ≥ (0 : Int))))
      (∃ h8 : (((0 : Int) ≤ x4.2.1) ∧ ((Int.toNat x4.2.1) < (List.length x4.1))),
      ∃ h9 : (((0 : Int) ≤ x4.2.2.2.1) ∧ ((Int.toNat x4.2.2.2.1) < (List.length (x4.1[(Int.toNat x4.2.1)]'h8.2).2))),
      ((Go.Abs.King.v75n n).p (x4.1, (((x4.1[(Int.toNat x4.2.1)]'h8.2).2[(Int.toNat x4.2.2.2.1)]'h9.2), ()))) ∧
      (Go.Abs.fitsK Go.IntKind.i64 (x4.2.2.2.1 + (1 : Int))) ∧
      (K4 (x4.1, (x4.2.1, ((ite ((Go.Abs.King.deepI x4.1 ((x4.1[(Int.toNat x4.2.1)]'h8.2).2[(Int.toNat x4.2.2.2.1)]'h9.2)) > x4.2.2.1) (Go.Abs.King.deepI x4.1 ((x4.1[(Int.toNat x4.2.1)]'h8.2).2[(Int.toNat x4.2.2.2.1)]'h9.2)) x4.2.2.1), ((x4.2.2.2.1 + (1 : Int)), ()))))))
      ((Go.Abs.fitsK Go.IntKind.i64 (x4.2.2.2.1 + (1 : Int))) ∧
      (K4 (x4.1, (x4.2.1, (x4.2.2.1, ((x4.2.2.2.1 + (1 : Int)), ())))))))
     ((Go.Abs.fitsK Go.IntKind.i64 ((1 : Int) + x4.2.2.1)) ∧
     (k (Go.Abs.AVal.int Go.IntKind.i64 ((1 : Int) + x4.2.2.1)) []))) ((t, (i, ((0 : Int), ((0 : Int), ())))))
theorem eq75 (t : List (Int × List Int)) (i : Int) (n : Nat) (k : AVal → List Cont → Prop) : awpF (envOf [(75, mkC [v75n n])]) Try.prog kt 75 false Try.f75 (v75.S.enc Unit (t, i, ())).1 [] k = vc75 t i n k := by kernel_rfl
theorem tx75 : (Try.f75.body.map Code.textsOk).getD true = true := by kernel_rfl

def vc77 (m : Int) (pots : List (List Int)) (q : SemP) (t : List (Int × List Int)) (bits : Int) (n : Nat) (k : AVal → List Cont → Prop) : Prop :=
  (Go.Abs.King.v69.p (m, (pots, (q, (bits, ()))))) ∧
  br ((decide ((Go.Abs.King.looksI m pots bits) < (1 : Int))))
   ((k (Go.Abs.AVal.imm (Go.Abs.Ty.pair (Go.Abs.Ty.int Go.IntKind.i64) (Go.Abs.Ty.slice (Go.Abs.Ty.int Go.IntKind.i64))) t Bool.false) []))
   ((Go.Abs.King.v70.p (m, (pots, (q, (bits, ()))))) ∧
   (((0 : Int) ≤ (((List.length t) : Nat) : Int)) ∧ (((((List.length t) : Nat) : Int) ≤ (((List.length t) : Nat) : Int)) ∧ ((((List.length t) : Nat) : Int) = (((List.length t) : Nat) : Int)))) ∧
   (((List.length (List.take (Int.toNat (((List.length t) : Nat) : Int)) t)) + (List.length (((Go.Abs.King.firstI m pots bits), ([] : List Int)) :: ([] : List (Int × (List Int)))))) ≤ Go.Abs.big) ∧
   ((0 : Nat) < (List.length (((Go.Abs.King.firstI m pots bits), ([] : List Int)) :: ([] : List (Int × (List Int)))))) ∧
   (Go.Abs.King.v94.p (m, (pots, (q, (bits, ((Go.Abs.King.firstI m pots bits), ())))))) ∧
   Go.Abs.Loop (σ := (Int × ((List (List Int)) × (Go.Abs.SemP × (Int × (Int × (Int × (Int × (Int × ((List (List Int)) × (Go.Abs.SemP × (Int × (Int × (Int × ((List (List Int)) × (Go.Abs.SemP × (Int × ((List (Int × (List Int))) × ((List Int) × Unit))))))))))))))))))) (fun K7 x7 =>
     br ((decide (x7.2.2.2.2.2.1 < (5 : Int))))
      ((Go.Abs.King.v84.p (x7.1, (x7.2.1, (x7.2.2.1, (x7.2.2.2.1, (x7.2.2.2.2.1, (x7.2.2.2.2.2.1, ()))))))) ∧
      (Go.Abs.King.v60.p ((((Go.Abs.King.partOf x7.2.1 (Int.toNat x7.2.2.2.1) (Int.toNat x7.2.2.2.2.1) x7.2.2.2.2.2.1) : Nat) : Int), ())) ∧
      br (((((List.length (Go.Abs.King.listed (Int.toNat (((Go.Abs.King.partOf x7.2.1 (Int.toNat x7.2.2.2.1) (Int.toNat x7.2.2.2.2.1) x7.2.2.2.2.2.1) : Nat) : Int)) (8 : Nat))) : Nat) : Int) == (0 : Int)))
       ((((List.length x7.2.2.2.2.2.2.2.2.2.2.2.2.2.2.2.2.2.1) + (List.length ((Neg.neg (1 : Int)) :: ([] : List Int)))) ≤ Go.Abs.big) ∧
       (Go.Abs.fitsK Go.IntKind.i64 (x7.2.2.2.2.2.1 + (1 : Int))) ∧
       (K7 (x7.1, (x7.2.1, (x7.2.2.1, (x7.2.2.2.1, (x7.2.2.2.2.1, ((x7.2.2.2.2.2.1 + (1 : Int)), (x7.2.2.2.2.2.2.1, (x7.2.2.2.2.2.2.2.1, (x7.2.2.2.2.2.2.2.2.1, (x7.2.2.2.2.2.2.2.2.2.1, (x7.2.2.2.2.2.2.2.2.2.2.1, (x7.2.2.2.2.2.2.2.2.2.2.2.1, (x7.2.2.2.2.2.2.2.2.2.2.2.2.1, (x7.2.2.2.2.2.2.2.2.2.2.2.2.2.1, (x7.2.2.2.2.2.2.2.2.2.2.2.2.2.2.1, (x7.2.2.2.2.2.2.2.2.2.2.2.2.2.2.2.1, (x7.2.2.2.2.2.2.2.2.2.2.2.2.2.2.2.2.1, ((x7.2.2.2.2.2.2.2.2.2.2.2.2.2.2.2.2.2.1 ++ ((Neg.neg (1 : Int)) :: ([] : List Int))), ()))))))))))))))))))))
       (br (((((List.length (Go.Abs.King.listed (Int.toNat (((Go.Abs.King.partOf x7.2.1 (Int.toNat x7.2.2.2.1) (Int.toNat x7.2.2.2.2.1) x7.2.2.2.2.2.1) : Nat) : Int)) (8 : Nat))) : Nat) : Int) == (1 : Int)))
        ((((0 : Int) ≤ (0 : Int)) ∧ ((Int.toNat (0 : Int)) < (List.length (Go.Abs.King.listed (Int.toNat (((Go.Abs.King.partOf x7.2.1 (Int.toNat x7.2.2.2.1) (Int.toNat x7.2.2.2.2.1) x7.2.2.2.2.2.1) : Nat) : Int)) (8 : Nat))))) ∧
        ∃ h9 : ((Int.toNat (0 : Int)) < (List.length (Go.Abs.King.listed (Int.toNat (((Go.Abs.King.partOf x7.2.1 (Int.toNat x7.2.2.2.1) (Int.toNat x7.2.2.2.2.1) x7.2.2.2.2.2.1) : Nat) : Int)) (8 : Nat)))),
        (Go.Abs.fitsK Go.IntKind.i64 ((Neg.neg (2 : Int)) - ((Go.Abs.King.listed (Int.toNat (((Go.Abs.King.partOf x7.2.1 (Int.toNat x7.2.2.2.1) (Int.toNat x7.2.2.2.2.1) x7.2.2.2.2.2.1) : Nat) : Int)) (8 : Nat))[(Int.toNat (0 : Int))]'h9))) ∧
        (((List.length x7.2.2.2.2.2.2.2.2.2.2.2.2.2.2.2.2.2.1) + (List.length (((Neg.neg (2 : Int)) - ((Go.Abs.King.listed (Int.toNat (((Go.Abs.King.partOf x7.2.1 (Int.toNat x7.2.2.2.1) (Int.toNat x7.2.2.2.2.1) x7.2.2.2.2.2.1) : Nat) : Int)) (8 : Nat))[(Int.toNat (0 : Int))]'h9)) :: ([] : List Int)))) ≤ Go.Abs.big) ∧
        (Go.Abs.fitsK Go.IntKind.i64 (x7.2.2.2.2.2.1 + (1 : Int))) ∧
        (K7 (x7.1, (x7.2.1, (x7.2.2.1, (x7.2.2.2.1, (x7.2.2.2.2.1, ((x7.2.2.2.2.2.1 + (1 : Int)), (x7.2.2.2.2.2.2.1, (x7.2.2.2.2.2.2.2.1, (x7.2.2.2.2.2.2.2.2.1, (x7.2.2.2.2.2.2.2.2.2.1, (x7.2.2.2.2.2.2.2.2.2.2.1, (x7.2.2.2.2.2.2.2.2.2.2.2.1, (x7.2.2.2.2.2.2.2.2.2.2.2.2.1, (x7.2.2.2.2.2.2.2.2.2.2.2.2.2.1, (x7.2.2.2.2.2.2.2.2.2.2.2.2.2.2.1, (x7.2.2.2.2.2.2.2.2.2.2.2.2.2.2.2.1, (x7.2.2.2.2.2.2.2.2.2.2.2.2.2.2.2.2.1, ((x7.2.2.2.2.2.2.2.2.2.2.2.2.2.2.2.2.2.1 ++ (((Neg.neg (2 : Int)) - ((Go.Abs.King.listed (Int.toNat (((Go.Abs.King.partOf x7.2.1 (Int.toNat x7.2.2.2.1) (Int.toNat x7.2.2.2.2.1) x7.2.2.2.2.2.1) : Nat) : Int)) (8 : Nat))[(Int.toNat (0 : Int))]'h9)) :: ([] : List Int))), ()))))))))))))))))))))
        ((((List.length x7.2.2.2.2.2.2.2.2.2.2.2.2.2.2.2.2.2.1) + (List.length ((((List.length x7.2.2.2.2.2.2.2.2.2.2.2.2.2.2.2.2.1) : Nat) : Int) :: ([] : List Int)))) ≤ Go.Abs.big) ∧
        ((Go.Abs.King.v77n n).p (x7.2.2.2.2.2.2.2.2.2.2.2.2.1, (x7.2.2.2.2.2.2.2.2.2.2.2.2.2.1, (x7.2.2.2.2.2.2.2.2.2.2.2.2.2.2.1, (x7.2.2.2.2.2.2.2.2.2.2.2.2.2.2.2.2.1, ((((Go.Abs.King.partOf x7.2.1 (Int.toNat x7.2.2.2.1) (Int.toNat x7.2.2.2.2.1) x7.2.2.2.2.2.1) : Nat) : Int), ())))))) ∧
        (Go.Abs.fitsK Go.IntKind.i64 (x7.2.2.2.2.2.1 + (1 : Int))) ∧
        (K7 (x7.1, (x7.2.1, (x7.2.2.1, (x7.2.2.2.1, (x7.2.2.2.2.1, ((x7.2.2.2.2.2.1 + (1 : Int)), (x7.2.2.2.2.2.2.1, (x7.2.2.2.2.2.2.2.1, (x7.2.2.2.2.2.2.2.2.1, (x7.2.2.2.2.2.2.2.2.2.1, (x7.2.2.2.2.2.2.2.2.2.2.1, (x7.2.2.2.2.2.2.2.2.2.2.2.1, (x7.2.2.2.2.2.2.2.2.2.2.2.2.1, (x7.2.2.2.2.2.2.2.2.2.2.2.2.2.1, (x7.2.2.2.2.2.2.2.2.2.2.2.2.2.2.1, (x7.2.2.2.2.2.2.2.2.2.2.2.2.2.2.2.1, ((Go.Abs.King.growI x7.2.2.2.2.2.2.2.2.2.2.2.2.1 x7.2.2.2.2.2.2.2.2.2.2.2.2.2.1 x7.2.2.2.2.2.2.2.2.2.2.2.2.2.2.2.2.1 (((Go.Abs.King.partOf x7.2.1 (Int.toNat x7.2.2.2.1) (Int.toNat x7.2.2.2.2.1) x7.2.2.2.2.2.1) : Nat) : Int)), ((x7.2.2.2.2.2.2.2.2.2.2.2.2.2.2.2.2.2.1 ++ ((((List.length x7.2.2.2.2.2.2.2.2.2.2.2.2.2.2.2.2.1) : Nat) : Int) :: ([] : List Int))), ()))))))))))))))))))))))
      ((((0 : Int) ≤ x7.2.2.2.2.2.2.1) ∧ ((Int.toNat x7.2.2.2.2.2.2.1) < (List.length x7.2.2.2.2.2.2.2.2.2.2.2.2.2.2.2.2.1))) ∧
      ∃ h9 : ((Int.toNat x7.2.2.2.2.2.2.1) < (List.length x7.2.2.2.2.2.2.2.2.2.2.2.2.2.2.2.2.1)),
      (k (Go.Abs.AVal.reg (0 : Nat) Bool.false) ((Go.Abs.Cont.sl (Go.Abs.Ty.pair (Go.Abs.Ty.int Go.IntKind.i64) (Go.Abs.Ty.slice (Go.Abs.Ty.int Go.IntKind.i64))) (List.set x7.2.2.2.2.2.2.2.2.2.2.2.2.2.2.2.2.1 (Int.toNat x7.2.2.2.2.2.2.1) (x7.2.2.2.2.2.2.2.2.2.2.2.2.2.2.2.1, x7.2.2.2.2.2.2.2.2.2.2.2.2.2.2.2.2.2.1))) :: [])))) ((m, (pots, (q, (bits, ((Go.Abs.King.firstI m pots bits), ((0 : Int), ((((List.length t) : Nat) : Int), (m, (pots, (q, (bits, ((Go.Abs.King.firstI m pots bits), (m, (pots, (q, ((Go.Abs.King.firstI m pots bits), (((List.take (Int.toNat (((List.length t) : Nat) : Int)) t) ++ (((Go.Abs.King.firstI m pots bits), ([] : List Int)) :: ([] : List (Int × (List Int))))), (([] : List Int), ()))))))))))))))))))))
theorem eq77 (m : Int) (pots : List (List Int)) (q : SemP) (t : List (Int × List Int)) (bits : Int) (n : Nat) (k : AVal → List Cont → Prop) : awpF (envOf [(69, mkC [v69]), (70, mkC [v70]), (94, mkC [v94]), (84, mkC [v84]), (60, mkC [v60]), (77, mkC [v77n n])]) Try.prog kt 77 false Try.f77 (v77.S.enc Unit (m, pots, q, t, bits, ())).1 [] k = vc77 m pots q t bits n k := by kernel_rfl
theorem tx77 : (Try.f77.body.map Code.textsOk).getD true = true := by kernel_rfl

def vc37 (m : Int) (pots : List (List Int)) (k : AVal → List Cont → Prop) : Prop :=
  (Go.Abs.King.v55.p (m, (pots, ()))) ∧
  br ((Go.Abs.King.csIs m pots (6 : Int)))
   ((k (Go.Abs.AVal.tup ((Go.Abs.AVal.reg (0 : Nat) Bool.false) :: ((Go.Abs.AVal.int Go.IntKind.i64 (6 : Int)) :: []))) ((Go.Abs.Cont.sl (Go.Abs.Ty.pair (Go.Abs.Ty.int Go.IntKind.i64) (Go.Abs.Ty.slice (Go.Abs.Ty.int Go.IntKind.i64))) ([] : List (Int × (List Int)))) :: [])))
   (br ((Go.Abs.King.csIs m pots (15 : Int)))
    ((k (Go.Abs.AVal.tup ((Go.Abs.AVal.reg (0 : Nat) Bool.false) :: ((Go.Abs.AVal.int Go.IntKind.i64 (15 : Int)) :: []))) ((Go.Abs.Cont.sl (Go.Abs.Ty.pair (Go.Abs.Ty.int Go.IntKind.i64) (Go.Abs.Ty.slice (Go.Abs.Ty.int Go.IntKind.i64))) ([] : List (Int × (List Int)))) :: [])))
    (br ((Go.Abs.King.csIs m pots (3 : Int)))
     ((k (Go.Abs.AVal.tup ((Go.Abs.AVal.reg (0 : Nat) Bool.false) :: ((Go.Abs.AVal.int Go.IntKind.i64 (3 : Int)) :: []))) ((Go.Abs.Cont.sl (Go.Abs.Ty.pair (Go.Abs.Ty.int Go.IntKind.i64) (Go.Abs.Ty.slice (Go.Abs.Ty.int Go.IntKind.i64))) ([] : List (Int × (List Int)))) :: [])))
     ((Go.Abs.King.v76.p (m, (pots, ((Go.Abs.memoP (Go.Abs.King.looksI m pots)), ())))) ∧
     (Go.Abs.King.v69.p (m, (pots, ((Go.Abs.memoP (Go.Abs.King.looksI m pots)), ((((((2 : Nat) ^ (List.length pots)) - (1 : Nat)) : Nat) : Int), ()))))) ∧
     br ((decide ((Go.Abs.King.looksI m pots (((((2 : Nat) ^ (List.length pots)) - (1 : Nat)) : Nat) : Int)) < (0 : Int))))
      ((k (Go.Abs.AVal.tup ((Go.Abs.AVal.reg (0 : Nat) Bool.false) :: ((Go.Abs.AVal.int Go.IntKind.i64 (27 : Int)) :: []))) ((Go.Abs.Cont.sl (Go.Abs.Ty.pair (Go.Abs.Ty.int Go.IntKind.i64) (Go.Abs.Ty.slice (Go.Abs.Ty.int Go.IntKind.i64))) ([] : List (Int × (List Int)))) :: [])))
      ((Go.Abs.King.v76.p (m, (pots, ((Go.Abs.memoP (Go.Abs.King.looksI m pots)), ())))) ∧
      (Go.Abs.King.v77.p (m, (pots, ((Go.Abs.memoP (Go.Abs.King.looksI m pots)), (([] : List (Int × (List Int))), ((((((2 : Nat) ^ (List.length pots)) - (1 : Nat)) : Nat) : Int), ())))))) ∧
      br ((Go.Abs.King.lowLooks m pots (((((2 : Nat) ^ (List.length pots)) - (1 : Nat)) : Nat) : Int)))
       ((((0 : Int) ≤ (((List.length ([] : List (Int × (List Int)))) : Nat) : Int)) ∧ (((((List.length ([] : List (Int × (List Int)))) : Nat) : Int) = (((List.length ([] : List (Int × (List Int)))) : Nat) : Int)) ∧ ((((List.length ([] : List (Int × (List Int)))) : Nat) : Int) ≤ ((Go.Abs.big : Nat) : Int)))) ∧
       (k (Go.Abs.AVal.tup ((Go.Abs.AVal.reg (0 : Nat) Bool.false) :: ((Go.Abs.AVal.int Go.IntKind.i64 (0 : Int)) :: []))) ((Go.Abs.Cont.sl (Go.Abs.Ty.pair (Go.Abs.Ty.int Go.IntKind.i64) (Go.Abs.Ty.slice (Go.Abs.Ty.int Go.IntKind.i64))) ((List.take (List.length (List.replicate (Int.toNat (((List.length ([] : List (Int × (List Int)))) : Nat) : Int)) ((Int.ofNat 0), ([] : List Int)))) ([] : List (Int × (List Int)))) ++ (List.drop (List.length ([] : List (Int × (List Int)))) (List.replicate (Int.toNat (((List.length ([] : List (Int × (List Int)))) : Nat) : Int)) ((Int.ofNat 0), ([] : List Int)))))) :: [])))
       ((((0 : Int) ≤ (((List.length (Go.Abs.King.growI m pots ([] : List (Int × (List Int))) (((((2 : Nat) ^ (List.length pots)) - (1 : Nat)) : Nat) : Int))) : Nat) : Int)) ∧ (((((List.length (Go.Abs.King.growI m pots ([] : List (Int × (List Int))) (((((2 : Nat) ^ (List.length pots)) - (1 : Nat)) : Nat) : Int))) : Nat) : Int) = (((List.length (Go.Abs.King.growI m pots ([] : List (Int × (List Int))) (((((2 : Nat) ^ (List.length pots)) - (1 : Nat)) : Nat) : Int))) : Nat) : Int)) ∧ ((((List.length (Go.Abs.King.growI m pots ([] : List (Int × (List Int))) (((((2 : Nat) ^ (List.length pots)) - (1 : Nat)) : Nat) : Int))) : Nat) : Int) ≤ ((Go.Abs.big : Nat) : Int)))) ∧
       (k (Go.Abs.AVal.tup ((Go.Abs.AVal.reg (0 : Nat) Bool.false) :: ((Go.Abs.AVal.int Go.IntKind.i64 (0 : Int)) :: []))) ((Go.Abs.Cont.sl (Go.Abs.Ty.pair (Go.Abs.Ty.int Go.IntKind.i64) (Go.Abs.Ty.slice (Go.Abs.Ty.int Go.IntKind.i64))) ((List.take (List.length (List.replicate (Int.toNat (((List.length (Go.Abs.King.growI m pots ([] : List (Int × (List Int))) (((((2 : Nat) ^ (List.length pots)) - (1 : Nat)) : Nat) : Int))) : Nat) : Int)) ((Int.ofNat 0), ([] : List Int)))) (Go.Abs.King.growI m pots ([] : List (Int × (List Int))) (((((2 : Nat) ^ (List.length pots)) - (1 : Nat)) : Nat) : Int))) ++ (List.drop (List.length (Go.Abs.King.growI m pots ([] : List (Int × (List Int))) (((((2 : Nat) ^ (List.length pots)) - (1 : Nat)) : Nat) : Int))) (List.replicate (Int.toNat (((List.length (Go.Abs.King.growI m pots ([] : List (Int × (List Int))) (((((2 : Nat) ^ (List.length pots)) - (1 : Nat)) : Nat) : Int))) : Nat) : Int)) ((Int.ofNat 0), ([] : List Int)))))) :: [])))))))
theorem eq37 (m : Int) (pots : List (List Int)) (k : AVal → List Cont → Prop) : awpF (envOf [(55, mkC [v55]), (76, mkC [v76]), (69, mkC [v69]), (77, mkC [v77])]) Try.prog kt 37 false Try.f37 (v37.S.enc Unit (m, pots, ())).1 [] k = vc37 m pots k := by kernel_rfl
theorem tx37 : (Try.f37.body.map Code.textsOk).getD true = true := by kernel_rfl

def vc38 (m : Int) (pots : List (List Int)) (k : AVal → List Cont → Prop) : Prop :=
  (Go.Abs.King.v23.p (m, (pots, ()))) ∧
  br (((Go.Abs.King.checkShelf m pots) != (0 : Int)))
   ((Go.Abs.King.v23.p (m, (pots, ()))) ∧
   (k (Go.Abs.AVal.int Go.IntKind.i64 (Go.Abs.King.checkShelf m pots)) []))
   ((Go.Abs.King.v49.p (m, ())) ∧
   (Go.Abs.King.v58.p (m, (pots, ((Go.Abs.King.listed (((2 : Nat) ^ (Int.toNat m)) - (1 : Nat)) (Int.toNat m)), ())))) ∧
   br ((Go.Abs.King.hardB pots (Go.Abs.King.listed (((2 : Nat) ^ (Int.toNat m)) - (1 : Nat)) (Int.toNat m))))
    ((k (Go.Abs.AVal.int Go.IntKind.i64 (27 : Int)) []))
    ((k (Go.Abs.AVal.int Go.IntKind.i64 (0 : Int)) [])))
theorem eq38 (m : Int) (pots : List (List Int)) (k : AVal → List Cont → Prop) : awpF (envOf [(23, mkC [v23]), (49, mkC [v49]), (58, mkC [v58])]) Try.prog kt 38 false Try.f38 (v38.S.enc Unit (m, pots, ())).1 [] k = vc38 m pots k := by kernel_rfl
theorem tx38 : (Try.f38.body.map Code.textsOk).getD true = true := by kernel_rfl

def vc71 (m : Int) (pots : List (List Int)) (l : List Int) (bits mark : Int) (k : AVal → List Cont → Prop) : Prop :=
  Go.Abs.Loop (σ := ((List Int) × (Int × (Int × (Int × (Int × (Int × ((List (List Int)) × Unit)))))))) (fun K6 x6 =>
    br ((decide (x6.2.2.2.2.1 ≤ (4 : Int))))
     ((Go.Abs.King.v90.p (x6.2.2.2.2.2.1, (x6.2.2.2.2.2.2.1, (x6.2.1, (x6.2.2.1, (x6.2.2.2.2.1, ())))))) ∧
     br ((((((Go.Abs.King.partOf x6.2.2.2.2.2.2.1 (Int.toNat x6.2.1) (Int.toNat x6.2.2.1) x6.2.2.2.2.1) : Nat) : Int) == x6.2.1) == Bool.false))
      (∃ h8 : (((0 : Int) ≤ (((Go.Abs.King.partOf x6.2.2.2.2.2.2.1 (Int.toNat x6.2.1) (Int.toNat x6.2.2.1) x6.2.2.2.2.1) : Nat) : Int)) ∧ ((Int.toNat (((Go.Abs.King.partOf x6.2.2.2.2.2.2.1 (Int.toNat x6.2.1) (Int.toNat x6.2.2.1) x6.2.2.2.2.1) : Nat) : Int)) < (List.length x6.1))),
      br ((decide ((x6.1[(Int.toNat (((Go.Abs.King.partOf x6.2.2.2.2.2.2.1 (Int.toNat x6.2.1) (Int.toNat x6.2.2.1) x6.2.2.2.2.1) : Nat) : Int))]'h8.2) < (0 : Int))))
       ((k (Go.Abs.AVal.int Go.IntKind.i64 (Neg.neg (1 : Int))) []))
       (∃ h9 : (((0 : Int) ≤ (((Go.Abs.King.partOf x6.2.2.2.2.2.2.1 (Int.toNat x6.2.1) (Int.toNat x6.2.2.1) x6.2.2.2.2.1) : Nat) : Int)) ∧ ((Int.toNat (((Go.Abs.King.partOf x6.2.2.2.2.2.2.1 (Int.toNat x6.2.1) (Int.toNat x6.2.2.1) x6.2.2.2.2.1) : Nat) : Int)) < (List.length x6.1))),
       (Go.Abs.fitsK Go.IntKind.i64 (x6.2.2.2.2.1 + (1 : Int))) ∧
       (K6 (x6.1, (x6.2.1, (x6.2.2.1, ((ite ((x6.1[(Int.toNat (((Go.Abs.King.partOf x6.2.2.2.2.2.2.1 (Int.toNat x6.2.1) (Int.toNat x6.2.2.1) x6.2.2.2.2.1) : Nat) : Int))]'h9.2) > x6.2.2.2.1) (x6.1[(Int.toNat (((Go.Abs.King.partOf x6.2.2.2.2.2.2.1 (Int.toNat x6.2.1) (Int.toNat x6.2.2.1) x6.2.2.2.2.1) : Nat) : Int))]'h9.2) x6.2.2.2.1), ((x6.2.2.2.2.1 + (1 : Int)), (x6.2.2.2.2.2.1, (x6.2.2.2.2.2.2.1, ()))))))))))
      ((k (Go.Abs.AVal.int Go.IntKind.i64 (Neg.neg (1 : Int))) [])))
     ((k (Go.Abs.AVal.int Go.IntKind.i64 x6.2.2.2.1) []))) ((l, (bits, (mark, ((0 : Int), ((0 : Int), (m, (pots, ()))))))))
theorem eq71 (m : Int) (pots : List (List Int)) (l : List Int) (bits mark : Int) (k : AVal → List Cont → Prop) : awpF (envOf [(90, mkC [v90])]) Try.prog kt 71 false Try.f71 (v71.S.enc Unit (m, pots, l, bits, mark, ())).1 [] k = vc71 m pots l bits mark k := by kernel_rfl
theorem tx71 : (Try.f71.body.map Code.textsOk).getD true = true := by kernel_rfl

def vc39 (m : Int) (pots : List (List Int)) (k : AVal → List Cont → Prop) : Prop :=
  ((0 : Int) ≤ (((List.length pots) : Nat) : Int)) ∧
  (((0 : Int) ≤ (Go.Abs.shlA Go.IntKind.i64 (1 : Int) (((List.length pots) : Nat) : Int))) ∧ (((Go.Abs.shlA Go.IntKind.i64 (1 : Int) (((List.length pots) : Nat) : Int)) = (Go.Abs.shlA Go.IntKind.i64 (1 : Int) (((List.length pots) : Nat) : Int))) ∧ ((Go.Abs.shlA Go.IntKind.i64 (1 : Int) (((List.length pots) : Nat) : Int)) ≤ ((Go.Abs.big : Nat) : Int)))) ∧
  Go.Abs.Loop (σ := (Int × (Int × ((List (List Int)) × ((List Int) × Unit))))) (fun K3 x3 =>
    br ((decide (x3.1 < (((List.length x3.2.2.2.1) : Nat) : Int))))
     ((Go.Abs.King.v41.p (x3.1, ((((List.length x3.2.2.1) : Nat) : Int), ()))) ∧
     br (((((List.length (Go.Abs.King.listed (Int.toNat x3.1) (Int.toNat (((List.length x3.2.2.1) : Nat) : Int)))) : Nat) : Int) == (1 : Int)))
      ((Go.Abs.fitsK Go.IntKind.i64 (x3.1 + (1 : Int))) ∧
      (K3 ((x3.1 + (1 : Int)), (x3.2.1, (x3.2.2.1, (x3.2.2.2.1, ()))))))
      ((((0 : Int) ≤ x3.1) ∧ ((Int.toNat x3.1) < (List.length x3.2.2.2.1))) ∧
      ∃ h5 : ((Int.toNat x3.1) < (List.length x3.2.2.2.1)),
      Go.Abs.Loop (σ := (Int × (Int × (Int × ((List (List Int)) × ((List Int) × Unit)))))) (fun K6 x6 =>
        br ((decide (x6.2.1 < x6.2.2.1)))
         ((Go.Abs.King.v71.p (x6.2.2.1, (x6.2.2.2.1, (x6.2.2.2.2.1, (x6.1, (x6.2.1, ())))))) ∧
         br (((decide ((Go.Abs.King.worstL x6.2.2.2.1 x6.2.2.2.2.1 x6.1 x6.2.1) ≥ (0 : Int))) == Bool.true))
          ((((0 : Int) ≤ x6.1) ∧ ((Int.toNat x6.1) < (List.length x6.2.2.2.2.1))) ∧
          ∃ h8 : ((Int.toNat x6.1) < (List.length x6.2.2.2.2.1)),
          br (((decide ((x6.2.2.2.2.1[(Int.toNat x6.1)]'h8) < (0 : Int))) == Bool.false))
           ((Go.Abs.fitsK Go.IntKind.i64 ((Go.Abs.King.worstL x6.2.2.2.1 x6.2.2.2.2.1 x6.1 x6.2.1) + (1 : Int))) ∧
           (((0 : Int) ≤ x6.1) ∧ ((Int.toNat x6.1) < (List.length x6.2.2.2.2.1))) ∧
           ∃ h9 : ((Int.toNat x6.1) < (List.length x6.2.2.2.2.1)),
           br ((decide (((Go.Abs.King.worstL x6.2.2.2.1 x6.2.2.2.2.1 x6.1 x6.2.1) + (1 : Int)) < (x6.2.2.2.2.1[(Int.toNat x6.1)]'h9))))
            ((Go.Abs.fitsK Go.IntKind.i64 ((Go.Abs.King.worstL x6.2.2.2.1 x6.2.2.2.2.1 x6.1 x6.2.1) + (1 : Int))) ∧
            (((0 : Int) ≤ x6.1) ∧ ((Int.toNat x6.1) < (List.length x6.2.2.2.2.1))) ∧
            ∃ h10 : ((Int.toNat x6.1) < (List.length x6.2.2.2.2.1)),
            (Go.Abs.fitsK Go.IntKind.i64 (x6.2.1 + (1 : Int))) ∧
            (K6 (x6.1, ((x6.2.1 + (1 : Int)), (x6.2.2.1, (x6.2.2.2.1, ((List.set x6.2.2.2.2.1 (Int.toNat x6.1) ((Go.Abs.King.worstL x6.2.2.2.1 x6.2.2.2.2.1 x6.1 x6.2.1) + (1 : Int))), ())))))))
            ((Go.Abs.fitsK Go.IntKind.i64 (x6.2.1 + (1 : Int))) ∧
            (K6 (x6.1, ((x6.2.1 + (1 : Int)), (x6.2.2.1, (x6.2.2.2.1, (x6.2.2.2.2.1, ()))))))))
           ((Go.Abs.fitsK Go.IntKind.i64 ((Go.Abs.King.worstL x6.2.2.2.1 x6.2.2.2.2.1 x6.1 x6.2.1) + (1 : Int))) ∧
           (((0 : Int) ≤ x6.1) ∧ ((Int.toNat x6.1) < (List.length x6.2.2.2.2.1))) ∧
           ∃ h9 : ((Int.toNat x6.1) < (List.length x6.2.2.2.2.1)),
           (Go.Abs.fitsK Go.IntKind.i64 (x6.2.1 + (1 : Int))) ∧
           (K6 (x6.1, ((x6.2.1 + (1 : Int)), (x6.2.2.1, (x6.2.2.2.1, ((List.set x6.2.2.2.2.1 (Int.toNat x6.1) ((Go.Abs.King.worstL x6.2.2.2.1 x6.2.2.2.2.1 x6.1 x6.2.1) + (1 : Int))), ()))))))))
          ((Go.Abs.fitsK Go.IntKind.i64 (x6.2.1 + (1 : Int))) ∧
          (K6 (x6.1, ((x6.2.1 + (1 : Int)), (x6.2.2.1, (x6.2.2.2.1, (x6.2.2.2.2.1, ()))))))))
         ((Go.Abs.fitsK Go.IntKind.i64 (x6.1 + (1 : Int))) ∧
         (K3 ((x6.1 + (1 : Int)), (x6.2.2.1, (x6.2.2.2.1, (x6.2.2.2.2.1, ()))))))) ((x3.1, ((0 : Int), (x3.2.1, (x3.2.2.1, ((List.set x3.2.2.2.1 (Int.toNat x3.1) (Neg.neg (1 : Int))), ()))))))))
     ((k (Go.Abs.AVal.reg (0 : Nat) Bool.false) ((Go.Abs.Cont.sl (Go.Abs.Ty.int Go.IntKind.i64) x3.2.2.2.1) :: [])))) (((1 : Int), (m, (pots, ((List.replicate (Int.toNat (Go.Abs.shlA Go.IntKind.i64 (1 : Int) (((List.length pots) : Nat) : Int))) (Int.ofNat 0)), ())))))
theorem eq39 (m : Int) (pots : List (List Int)) (k : AVal → List Cont → Prop) : awpF (envOf [(41, mkC [v41]), (71, mkC [v71])]) Try.prog kt 39 false Try.f39 (v39.S.enc Unit (m, pots, ())).1 [] k = vc39 m pots k := by kernel_rfl
theorem tx39 : (Try.f39.body.map Code.textsOk).getD true = true := by kernel_rfl

def vc31 (m : Int) (pots : List (List Int)) (seen : List Int) (k : AVal → List Cont → Prop) : Prop :=
  (Go.Abs.King.v61.p (m, (pots, (seen, ())))) ∧
  br (((Go.Abs.King.seenErr m pots seen) != (0 : Int)))
   ((Go.Abs.King.v61.p (m, (pots, (seen, ())))) ∧
   (k (Go.Abs.AVal.tup ((Go.Abs.AVal.int Go.IntKind.i64 (0 : Int)) :: ((Go.Abs.AVal.int Go.IntKind.i64 (Go.Abs.King.seenErr m pots seen)) :: []))) []))
   ((Go.Abs.King.v39.p (m, (pots, ()))) ∧
   (Go.Abs.King.v62.p (m, (pots, (seen, ())))) ∧
   (((0 : Int) ≤ (((Go.Abs.King.agree pots (Int.toNat m) seen) : Nat) : Int)) ∧ ((Int.toNat (((Go.Abs.King.agree pots (Int.toNat m) seen) : Nat) : Int)) < (List.length (Go.Abs.King.looksAll m pots)))) ∧
   ∃ h4 : ((Int.toNat (((Go.Abs.King.agree pots (Int.toNat m) seen) : Nat) : Int)) < (List.length (Go.Abs.King.looksAll m pots))),
   (k (Go.Abs.AVal.tup ((Go.Abs.AVal.int Go.IntKind.i64 ((Go.Abs.King.looksAll m pots)[(Int.toNat (((Go.Abs.King.agree pots (Int.toNat m) seen) : Nat) : Int))]'h4)) :: ((Go.Abs.AVal.int Go.IntKind.i64 (0 : Int)) :: []))) []))
theorem eq31 (m : Int) (pots : List (List Int)) (seen : List Int) (k : AVal → List Cont → Prop) : awpF (envOf [(61, mkC [v61]), (62, mkC [v62]), (39, mkC [v39])]) Try.prog kt 31 false Try.f31 (v31.S.enc Unit (m, pots, seen, ())).1 [] k = vc31 m pots seen k := by kernel_rfl
theorem tx31 : (Try.f31.body.map Code.textsOk).getD true = true := by kernel_rfl

def vc33 (m : Int) (pots : List (List Int)) (seen : List Int) (k : AVal → List Cont → Prop) : Prop :=
  (Go.Abs.King.v61.p (m, (pots, (seen, ())))) ∧
  br (((Go.Abs.King.seenErr m pots seen) != (0 : Int)))
   ((Go.Abs.King.v61.p (m, (pots, (seen, ())))) ∧
   (k (Go.Abs.AVal.tup ((Go.Abs.AVal.int Go.IntKind.i64 (0 : Int)) :: ((Go.Abs.AVal.int Go.IntKind.i64 (Go.Abs.King.seenErr m pots seen)) :: []))) []))
   ((Go.Abs.King.v39.p (m, (pots, ()))) ∧
   (Go.Abs.King.v62.p (m, (pots, (seen, ())))) ∧
   (((0 : Int) ≤ (((Go.Abs.King.agree pots (Int.toNat m) seen) : Nat) : Int)) ∧ ((Int.toNat (((Go.Abs.King.agree pots (Int.toNat m) seen) : Nat) : Int)) < (List.length (Go.Abs.King.looksAll m pots)))) ∧
   ∃ h4 : ((Int.toNat (((Go.Abs.King.agree pots (Int.toNat m) seen) : Nat) : Int)) < (List.length (Go.Abs.King.looksAll m pots))),
   br ((((Go.Abs.King.looksAll m pots)[(Int.toNat (((Go.Abs.King.agree pots (Int.toNat m) seen) : Nat) : Int))]'h4) == (0 : Int)))
    ((k (Go.Abs.AVal.tup ((Go.Abs.AVal.int Go.IntKind.i64 (0 : Int)) :: ((Go.Abs.AVal.int Go.IntKind.i64 (5 : Int)) :: []))) []))
    ((((0 : Int) ≤ (((Go.Abs.King.agree pots (Int.toNat m) seen) : Nat) : Int)) ∧ ((Int.toNat (((Go.Abs.King.agree pots (Int.toNat m) seen) : Nat) : Int)) < (List.length (Go.Abs.King.looksAll m pots)))) ∧
    ∃ h5 : ((Int.toNat (((Go.Abs.King.agree pots (Int.toNat m) seen) : Nat) : Int)) < (List.length (Go.Abs.King.looksAll m pots))),
    br ((decide (((Go.Abs.King.looksAll m pots)[(Int.toNat (((Go.Abs.King.agree pots (Int.toNat m) seen) : Nat) : Int))]'h5) < (0 : Int))))
     ((k (Go.Abs.AVal.tup ((Go.Abs.AVal.int Go.IntKind.i64 (0 : Int)) :: ((Go.Abs.AVal.int Go.IntKind.i64 (27 : Int)) :: []))) []))
     (Go.Abs.Loop (σ := (Int × (Int × (Int × ((List (List Int)) × ((List Int) × Unit)))))) (fun K6 x6 =>
       br ((decide (x6.2.1 < x6.2.2.1)))
        ((Go.Abs.King.v71.p (x6.2.2.1, (x6.2.2.2.1, (x6.2.2.2.2.1, (x6.1, (x6.2.1, ())))))) ∧
        br (((decide ((Go.Abs.King.worstL x6.2.2.2.1 x6.2.2.2.2.1 x6.1 x6.2.1) ≥ (0 : Int))) == Bool.true))
         ((((0 : Int) ≤ x6.1) ∧ ((Int.toNat x6.1) < (List.length x6.2.2.2.2.1))) ∧
         ∃ h8 : ((Int.toNat x6.1) < (List.length x6.2.2.2.2.1)),
         br ((decide ((Go.Abs.King.worstL x6.2.2.2.1 x6.2.2.2.2.1 x6.1 x6.2.1) < (x6.2.2.2.2.1[(Int.toNat x6.1)]'h8))))
          ((k (Go.Abs.AVal.tup ((Go.Abs.AVal.int Go.IntKind.i64 x6.2.1) :: ((Go.Abs.AVal.int Go.IntKind.i64 (0 : Int)) :: []))) []))
          ((Go.Abs.fitsK Go.IntKind.i64 (x6.2.1 + (1 : Int))) ∧
          (K6 (x6.1, ((x6.2.1 + (1 : Int)), (x6.2.2.1, (x6.2.2.2.1, (x6.2.2.2.2.1, ()))))))))
         ((Go.Abs.fitsK Go.IntKind.i64 (x6.2.1 + (1 : Int))) ∧
         (K6 (x6.1, ((x6.2.1 + (1 : Int)), (x6.2.2.1, (x6.2.2.2.1, (x6.2.2.2.2.1, ()))))))))
        ((k (Go.Abs.AVal.tup ((Go.Abs.AVal.int Go.IntKind.i64 (0 : Int)) :: ((Go.Abs.AVal.int Go.IntKind.i64 (27 : Int)) :: []))) []))) (((((Go.Abs.King.agree pots (Int.toNat m) seen) : Nat) : Int), ((0 : Int), (m, (pots, ((Go.Abs.King.looksAll m pots), ())))))))))
theorem eq33 (m : Int) (pots : List (List Int)) (seen : List Int) (k : AVal → List Cont → Prop) : awpF (envOf [(61, mkC [v61]), (62, mkC [v62]), (39, mkC [v39]), (71, mkC [v71])]) Try.prog kt 33 false Try.f33 (v33.S.enc Unit (m, pots, seen, ())).1 [] k = vc33 m pots seen k := by kernel_rfl
theorem tx33 : (Try.f33.body.map Code.textsOk).getD true = true := by kernel_rfl

def vc48 (l : List Int) (i : Int) (k : AVal → List Cont → Prop) : Prop :=
  br (((((List.length l) : Nat) : Int) == (0 : Int)))
   ((k (Go.Abs.AVal.int Go.IntKind.i64 (0 : Int)) []))
   ((((0 : Int) ≤ i) ∧ ((0 : Int) < (((List.length l) : Nat) : Int))) ∧
   ∃ h3 : (((0 : Int) ≤ (HMod.hMod i (((List.length l) : Nat) : Int))) ∧ ((Int.toNat (HMod.hMod i (((List.length l) : Nat) : Int))) < (List.length l))),
   (Go.Abs.fitsK Go.IntKind.i64 (l[(Int.toNat (HMod.hMod i (((List.length l) : Nat) : Int)))]'h3.2)) ∧
   (((0 : Int) ≤ (l[(Int.toNat (HMod.hMod i (((List.length l) : Nat) : Int)))]'h3.2)) ∧ ((0 : Int) < (5 : Int))) ∧
   (k (Go.Abs.AVal.int Go.IntKind.i64 (HMod.hMod (l[(Int.toNat (HMod.hMod i (((List.length l) : Nat) : Int)))]'h3.2) (5 : Int))) []))
theorem eq48 (l : List Int) (i : Int) (k : AVal → List Cont → Prop) : awpF (envOf []) Try.prog kt 48 false Try.f48 (v48.S.enc Unit (l, i, ())).1 [] k = vc48 l i k := by kernel_rfl
theorem tx48 : (Try.f48.body.map Code.textsOk).getD true = true := by kernel_rfl

def vc52 (m : Int) (pots : List (List Int)) (k : AVal → List Cont → Prop) : Prop :=
  Go.Abs.Loop (σ := ((List (List Int)) × (Int × (Int × (Int × ((List (List Int)) × ((List (List Int)) × Unit))))))) (fun K3 x3 =>
    br ((decide (x3.2.1 < (((List.length x3.1) : Nat) : Int))))
     (∃ h5 : (((0 : Int) ≤ x3.2.1) ∧ ((Int.toNat x3.2.1) < (List.length x3.1))),
     (((List.length x3.2.2.2.2.2.1) + (List.length ((x3.1[(Int.toNat x3.2.1)]'h5.2) :: ([] : List (List Int))))) ≤ Go.Abs.big) ∧
     (Go.Abs.fitsK Go.IntKind.i64 (x3.2.1 + (1 : Int))) ∧
     (K3 (x3.1, ((x3.2.1 + (1 : Int)), (x3.2.2.1, (x3.2.2.2.1, (x3.2.2.2.2.1, ((x3.2.2.2.2.2.1 ++ ((x3.1[(Int.toNat x3.2.1)]'h5.2) :: ([] : List (List Int)))), ()))))))))
     ((k (Go.Abs.AVal.agg ((Go.Abs.AVal.int Go.IntKind.i64 x3.2.2.2.1) :: ((Go.Abs.AVal.imm (Go.Abs.Ty.slice (Go.Abs.Ty.int Go.IntKind.i64)) x3.2.2.2.2.2.1 Bool.false) :: []))) []))) ((pots, ((0 : Int), ((0 : Int), (m, (([] : List (List Int)), (([] : List (List Int)), ())))))))
theorem eq52 (m : Int) (pots : List (List Int)) (k : AVal → List Cont → Prop) : awpF (envOf []) Try.prog kt 52 true Try.f52 (v52.S.enc Unit (m, pots, ())).1 [] k = vc52 m pots k := by kernel_rfl
theorem tx52 : (Try.f52.body.map Code.textsOk).getD true = true := by kernel_rfl

def vc50  (k : AVal → List Cont → Prop) : Prop :=
  (Go.Abs.King.v47.p (((0 : Int) :: ((0 : Int) :: ((1 : Int) :: ([] : List Int)))), ())) ∧
  (Go.Abs.King.v47.p (((0 : Int) :: ((1 : Int) :: ((1 : Int) :: ([] : List Int)))), ())) ∧
  (Go.Abs.King.v47.p (((1 : Int) :: ((0 : Int) :: ((0 : Int) :: ([] : List Int)))), ())) ∧
  (Go.Abs.King.v47.p (((1 : Int) :: ((1 : Int) :: ((1 : Int) :: ([] : List Int)))), ())) ∧
  (Go.Abs.King.v52.p ((3 : Int), ((((0 : Int) :: ((0 : Int) :: ((1 : Int) :: ([] : List Int)))) :: (((0 : Int) :: ((1 : Int) :: ((1 : Int) :: ([] : List Int)))) :: (((1 : Int) :: ((0 : Int) :: ((0 : Int) :: ([] : List Int)))) :: (((1 : Int) :: ((1 : Int) :: ((1 : Int) :: ([] : List Int)))) :: ([] : List (List Int)))))), ()))) ∧
  (k (Go.Abs.AVal.agg ((Go.Abs.AVal.int Go.IntKind.i64 (3 : Int)) :: ((Go.Abs.AVal.imm (Go.Abs.Ty.slice (Go.Abs.Ty.int Go.IntKind.i64)) (((0 : Int) :: ((0 : Int) :: ((1 : Int) :: ([] : List Int)))) :: (((0 : Int) :: ((1 : Int) :: ((1 : Int) :: ([] : List Int)))) :: (((1 : Int) :: ((0 : Int) :: ((0 : Int) :: ([] : List Int)))) :: (((1 : Int) :: ((1 : Int) :: ((1 : Int) :: ([] : List Int)))) :: ([] : List (List Int)))))) Bool.false) :: []))) [])
theorem eq50  (k : AVal → List Cont → Prop) : awpF (envOf [(47, mkC [v47]), (52, mkC [v52])]) Try.prog kt 50 true Try.f50 (v50.S.enc Unit ()).1 [] k = vc50  k := by kernel_rfl
theorem tx50 : (Try.f50.body.map Code.textsOk).getD true = true := by kernel_rfl

def vc51  (k : AVal → List Cont → Prop) : Prop :=
  (Go.Abs.King.v47.p (((0 : Int) :: ((0 : Int) :: ([] : List Int))), ())) ∧
  (Go.Abs.King.v47.p (((1 : Int) :: ((1 : Int) :: ([] : List Int))), ())) ∧
  (Go.Abs.King.v47.p (((0 : Int) :: ((0 : Int) :: ([] : List Int))), ())) ∧
  (Go.Abs.King.v52.p ((2 : Int), ((((0 : Int) :: ((0 : Int) :: ([] : List Int))) :: (((1 : Int) :: ((1 : Int) :: ([] : List Int))) :: (((0 : Int) :: ((0 : Int) :: ([] : List Int))) :: ([] : List (List Int))))), ()))) ∧
  (k (Go.Abs.AVal.agg ((Go.Abs.AVal.int Go.IntKind.i64 (2 : Int)) :: ((Go.Abs.AVal.imm (Go.Abs.Ty.slice (Go.Abs.Ty.int Go.IntKind.i64)) (((0 : Int) :: ((0 : Int) :: ([] : List Int))) :: (((1 : Int) :: ((1 : Int) :: ([] : List Int))) :: (((0 : Int) :: ((0 : Int) :: ([] : List Int))) :: ([] : List (List Int))))) Bool.false) :: []))) [])
theorem eq51  (k : AVal → List Cont → Prop) : awpF (envOf [(47, mkC [v47]), (52, mkC [v52])]) Try.prog kt 51 true Try.f51 (v51.S.enc Unit ()).1 [] k = vc51  k := by kernel_rfl
theorem tx51 : (Try.f51.body.map Code.textsOk).getD true = true := by kernel_rfl

def vc78 (m : Int) (l : List Int) (k : AVal → List Cont → Prop) : Prop :=
  (k (Go.Abs.AVal.agg ((Go.Abs.AVal.int Go.IntKind.i64 m) :: ((Go.Abs.AVal.imm (Go.Abs.Ty.int Go.IntKind.i64) l Bool.false) :: []))) [])
theorem eq78 (m : Int) (l : List Int) (k : AVal → List Cont → Prop) : awpF (envOf []) Try.prog kt 78 true Try.f78 (v78.S.enc Unit (m, l, ())).1 [] k = vc78 m l k := by kernel_rfl
theorem tx78 : (Try.f78.body.map Code.textsOk).getD true = true := by kernel_rfl

def vc53 (m : Int) (k : AVal → List Cont → Prop) : Prop :=
  (Go.Abs.King.v78.p (m, (((1 : Int) :: ((2 : Int) :: ((-(1 : Int) : Int) :: ((-(1 : Int) : Int) :: ((-(1 : Int) : Int) :: ([] : List Int)))))), ()))) ∧
  (Go.Abs.King.v78.p ((1 : Int), (((-(2 : Int) : Int) :: ((-(3 : Int) : Int) :: ((-(1 : Int) : Int) :: ((-(1 : Int) : Int) :: ((-(1 : Int) : Int) :: ([] : List Int)))))), ()))) ∧
  (Go.Abs.King.v78.p ((1 : Int), (((-(4 : Int) : Int) :: ((-(5 : Int) : Int) :: ((-(1 : Int) : Int) :: ((-(1 : Int) : Int) :: ((-(1 : Int) : Int) :: ([] : List Int)))))), ()))) ∧
  (k (Go.Abs.AVal.imm (Go.Abs.Ty.pair (Go.Abs.Ty.int Go.IntKind.i64) (Go.Abs.Ty.slice (Go.Abs.Ty.int Go.IntKind.i64))) ((m, ((1 : Int) :: ((2 : Int) :: ((-(1 : Int) : Int) :: ((-(1 : Int) : Int) :: ((-(1 : Int) : Int) :: ([] : List Int))))))) :: (((1 : Int), ((-(2 : Int) : Int) :: ((-(3 : Int) : Int) :: ((-(1 : Int) : Int) :: ((-(1 : Int) : Int) :: ((-(1 : Int) : Int) :: ([] : List Int))))))) :: (((1 : Int), ((-(4 : Int) : Int) :: ((-(5 : Int) : Int) :: ((-(1 : Int) : Int) :: ((-(1 : Int) : Int) :: ((-(1 : Int) : Int) :: ([] : List Int))))))) :: ([] : List (Int × (List Int)))))) Bool.false) [])
theorem eq53 (m : Int) (k : AVal → List Cont → Prop) : awpF (envOf [(78, mkC [v78])]) Try.prog kt 53 true Try.f53 (v53.S.enc Unit (m, ())).1 [] k = vc53 m k := by kernel_rfl
theorem tx53 : (Try.f53.body.map Code.textsOk).getD true = true := by kernel_rfl

def vc54 (l : List (List Int)) (k : AVal → List Cont → Prop) : Prop :=
  (k (Go.Abs.AVal.imm (Go.Abs.Ty.slice (Go.Abs.Ty.int Go.IntKind.i64)) l Bool.false) [])
theorem eq54 (l : List (List Int)) (k : AVal → List Cont → Prop) : awpF (envOf []) Try.prog kt 54 true Try.f54 (v54.S.enc Unit (l, ())).1 [] k = vc54 l k := by kernel_rfl
theorem tx54 : (Try.f54.body.map Code.textsOk).getD true = true := by kernel_rfl

def vc47 (l : List Int) (k : AVal → List Cont → Prop) : Prop :=
  (k (Go.Abs.AVal.imm (Go.Abs.Ty.int Go.IntKind.i64) l Bool.false) [])
theorem eq47 (l : List Int) (k : AVal → List Cont → Prop) : awpF (envOf []) Try.prog kt 47 true Try.f47 (v47.S.enc Unit (l, ())).1 [] k = vc47 l k := by kernel_rfl
theorem tx47 : (Try.f47.body.map Code.textsOk).getD true = true := by kernel_rfl

end Go.Abs.King
end

section
/- The king's functions keep their contracts: thirteenth part, the statements' helpers; looks of trees. -/
open Go.Proofs
set_option maxRecDepth 100000
set_option linter.unusedVariables false
namespace Go.Abs.King

theorem k47 (hG : Good Try.prog (envOf [])) : v47.Kept Try.prog 47 := by
  rintro ⟨l, ⟨⟩⟩ hpre k hk
  exact aspec hmix hG Try.func47 tx47 (Eq.mpr (eq47 l k) hk)
theorem k54 (hG : Good Try.prog (envOf [])) : v54.Kept Try.prog 54 := by
  rintro ⟨l, ⟨⟩⟩ hpre k hk
  exact aspec hmix hG Try.func54 tx54 (Eq.mpr (eq54 l k) hk)
theorem k78 (hG : Good Try.prog (envOf [])) : v78.Kept Try.prog 78 := by
  rintro ⟨m, l, ⟨⟩⟩ hpre k hk
  exact aspec hmix hG Try.func78 tx78 (Eq.mpr (eq78 m l k) hk)
theorem k52 (hG : Good Try.prog (envOf [])) : v52.Kept Try.prog 52 := by
  rintro ⟨m, pots, ⟨⟩⟩ hpre k hk
  change List (List Int) at pots
  change Int at m
  refine aspec hmix hG Try.func52 tx52 (Eq.mpr (eq52 m pots k) ?_)
  replace hk : k (.agg [rI m, immLL pots]) [] := hk
  have hpre : pots.length ≤ 100 := hpre
  unfold vc52
  refine Loop.upto (fun i => (pots, (i : Int), (0 : Int), m, ([] : List (List Int)), pots.take i, ())) (fun i => True) pots.length rfl trivial ?_ ?_
  · intro i K hi _ hK
    have hK := hK trivial
    dsimp only
    rw [br_decide]
    refine ⟨fun _ => ⟨⟨by omega, by omega⟩, ?_⟩, fun h => absurd hi (by omega)⟩
    simp only [Int.toNat_natCast]
    rw [List.take_succ_eq_append_getElem hi] at hK
    exact ⟨by simp [big]; omega, fits64 (by omega) (by omega), hK⟩
  · intro K _
    dsimp only
    rw [br_decide, List.take_length]
    exact ⟨fun h => absurd h (by omega), fun _ => hk⟩
theorem k50 (hG : Good Try.prog (envOf [(47, mkC [v47]), (52, mkC [v52])])) : v50.Kept Try.prog 50 := by
  rintro ⟨⟩ hpre k hk
  refine aspec hmix hG Try.func50 tx50 (Eq.mpr (eq50 k) ?_)
  exact ⟨trivial, trivial, trivial, trivial, by show (4 : Nat) ≤ 100; omega, hk⟩
theorem k51 (hG : Good Try.prog (envOf [(47, mkC [v47]), (52, mkC [v52])])) : v51.Kept Try.prog 51 := by
  rintro ⟨⟩ hpre k hk
  refine aspec hmix hG Try.func51 tx51 (Eq.mpr (eq51 k) ?_)
  exact ⟨trivial, trivial, trivial, by show (3 : Nat) ≤ 100; omega, hk⟩
theorem k53 (hG : Good Try.prog (envOf [(78, mkC [v78])])) : v53.Kept Try.prog 53 := by
  rintro ⟨m, ⟨⟩⟩ hpre k hk
  refine aspec hmix hG Try.func53 tx53 (Eq.mpr (eq53 m k) ?_)
  exact ⟨trivial, trivial, trivial, hk⟩
theorem k48 (hG : Good Try.prog (envOf [])) : v48.Kept Try.prog 48 := by
  rintro ⟨l, i, ⟨⟩⟩ hpre k hk
  change List Int at l
  change Int at i
  refine aspec hmix hG Try.func48 tx48 (Eq.mpr (eq48 l i k) ?_)
  replace hk : k (rI (valueB l i)) [] := hk
  obtain ⟨h1, h2, h3, h4⟩ := hpre
  have h2 : 0 ≤ i := h2
  have h4 : ∀ b ∈ l, 0 ≤ b ∧ b ≤ 255 := h4
  unfold vc48
  rw [br_beq]
  refine ⟨fun h => ?_, fun h => ?_⟩
  · rw [valueB, if_pos (by omega)] at hk; exact hk
  · have hpos : (0 : Int) < (l.length : Int) := by omega
    have hm0 := Int.emod_nonneg i (b := (l.length : Int)) (by omega)
    have hm1 := Int.emod_lt_of_pos i hpos
    have hidx : (i % (l.length : Int)).toNat < l.length := by omega
    have hb := h4 _ (List.getElem_mem hidx)
    rw [valueB, if_neg (by omega), getD_lt _ _ hidx] at hk
    exact ⟨⟨h2, hpos⟩, ⟨hm0, hidx⟩, fits64 (by omega) (by omega), ⟨hb.1, by omega⟩, hk⟩

theorem k93 (hG : Good Try.prog (envOf [])) : v93.Kept Try.prog 93 := by
  rintro ⟨a, l, ⟨⟩⟩ hpre k hk
  change List Int at l
  change Int at a
  refine aspec hmix hG Try.func93 tx93 (Eq.mpr (eq93 a l k) ?_)
  replace hk : k (.bool (notFive (a, l))) [] := hk
  unfold vc93
  have : notFive (a, l) = ((l.length : Int) != 5) := by
    rw [Bool.eq_iff_iff]
    simp [notFive]
  rwa [this] at hk
theorem stray_within (m a : Int) (l : List Int) : (!within 0 (m - 1) [a]) = strayL m (a, l) := by
  rw [within_one, Bool.eq_iff_iff]
  simp only [strayL, Bool.not_eq_true', decide_eq_false_iff_not, decide_eq_true_eq]
  omega
theorem k91 (hG : Good Try.prog (envOf [(56, mkC [v56])])) : v91.Kept Try.prog 91 := by
  rintro ⟨a, l, m, pots, ⟨⟩⟩ hpre k hk
  change List Int at l
  change List (List Int) at pots
  change Int at a m
  refine aspec hmix hG Try.func91 tx91 (Eq.mpr (eq91 a l m pots k) ?_)
  replace hk : k (.bool (strayL m (a, l))) [] := hk
  have hm : 0 ≤ m ∧ m ≤ 6 := hpre
  unfold vc91
  refine ⟨fits64 (by omega) (by omega), by show (1 : Nat) ≤ 1152921504606846976; omega, ?_⟩
  rw [stray_within m a l]
  exact hk
theorem k100a (hG : Good Try.prog (envOf [(91, mkC [v91]), (93, mkC [v93])])) : v100a.Kept Try.prog 100 := by
  rintro ⟨t, m, pots, ⟨⟩⟩ hpre k hk
  change List (Int × List Int) at t
  change List (List Int) at pots
  change Int at m
  refine aspec hmix hG Try.func100 tx100 (Eq.mpr (eq100a t m pots k) ?_)
  replace hk : k (rI (indexStray m t)) [] := hk
  have hl0 : t.length ≤ 14 := hpre.1.1
  unfold vc100a
  refine Loop.upto (fun i => (t, m, pots, ((t.length : Nat) : Int), (i : Int), ())) (fun i => ∀ y ∈ t.take i, strayL m y = false) t.length rfl (by simp) ?_ ?_
  · intro i K hi' hp hK
    dsimp only
    rw [br_decide]
    refine ⟨fun _ => ⟨⟨by omega, by omega⟩, ?_⟩, fun h => absurd hi' (by omega)⟩
    simp only [Int.toNat_natCast]
    refine ⟨hpre.2, br_intro (fun h => ?_) (fun h => ⟨fits64 (by omega) (by omega), hK (take_all_succ _ _ _ hi' hp h)⟩)⟩
    have : indexStray m t = (i : Int) := indexOf_some _ t i hi' hp h
    rwa [this] at hk
  · intro K hp
    dsimp only
    rw [br_decide]
    refine ⟨fun h => absurd h (by omega), fun _ => ?_⟩
    rw [List.take_length] at hp
    have : indexStray m t = -1 := indexOf_none _ t hp
    rwa [this] at hk
theorem k100b (hG : Good Try.prog (envOf [(91, mkC [v91]), (93, mkC [v93])])) : v100b.Kept Try.prog 100 := by
  rintro ⟨t, ⟨⟩⟩ hpre k hk
  change List (Int × List Int) at t
  refine aspec hmix hG Try.func100 tx100 (Eq.mpr (eq100b t k) ?_)
  replace hk : k (rI (indexFive t)) [] := hk
  have hl0 : t.length ≤ 14 := hpre.1
  have hl1 : ∀ l ∈ t, l.2.length ≤ 12 := hpre.2
  unfold vc100b
  refine Loop.upto (fun i => (t, ((t.length : Nat) : Int), (i : Int), ())) (fun i => ∀ y ∈ t.take i, notFive y = false) t.length rfl (by simp) ?_ ?_
  · intro i K hi' hp hK
    dsimp only
    rw [br_decide]
    refine ⟨fun _ => ⟨⟨by omega, by omega⟩, ?_⟩, fun h => absurd hi' (by omega)⟩
    simp only [Int.toNat_natCast]
    have hle := hl1 _ (List.getElem_mem hi')
    refine ⟨by show t[i].2.length ≤ 1152921504606846976; omega, br_intro (fun h => ?_) (fun h => ⟨fits64 (by omega) (by omega), hK (take_all_succ _ _ _ hi' hp h)⟩)⟩
    have : indexFive t = (i : Int) := indexOf_some _ t i hi' hp h
    rwa [this] at hk
  · intro K hp
    dsimp only
    rw [br_decide]
    refine ⟨fun h => absurd h (by omega), fun _ => ?_⟩
    rw [List.take_length] at hp
    have : indexFive t = -1 := indexOf_none _ t hp
    rwa [this] at hk
theorem k92a (hG : Good Try.prog (envOf [(100, mkC [v100a, v100b])])) : v92a.Kept Try.prog 92 := by
  rintro ⟨t, m, pots, ⟨⟩⟩ hpre k hk
  refine aspec hmix hG Try.func92 tx92 (Eq.mpr (eq92a t m pots k) ?_)
  replace hk : k (.bool (anyStray m t)) [] := hk
  refine ⟨hpre, ?_⟩
  have : decide (indexStray m t ≥ 0) = anyStray m t := indexOf_ge _ t
  rwa [this]
theorem k92b (hG : Good Try.prog (envOf [(100, mkC [v100a, v100b])])) : v92b.Kept Try.prog 92 := by
  rintro ⟨t, ⟨⟩⟩ hpre k hk
  refine aspec hmix hG Try.func92 tx92 (Eq.mpr (eq92b t k) ?_)
  replace hk : k (.bool (anyFive t)) [] := hk
  refine ⟨hpre, ?_⟩
  have : decide (indexFive t ≥ 0) = anyFive t := indexOf_ge _ t
  rwa [this]
end Go.Abs.King
end

section
/- The king's functions keep their contracts: fourteenth part, the numbers of a tree. -/
open Go.Proofs
set_option maxRecDepth 100000
set_option linter.unusedVariables false
namespace Go.Abs.King

def mostUp (t : List Look) (i : Nat) : Int := (t.take i).foldl (fun (a : Int) (l : Look) => if (l.2.length : Int) > a then (l.2.length : Int) else a) 0
theorem mostUp_succ {t : List Look} {i : Nat} (h : i < t.length) : mostUp t (i + 1) = if (t[i].2.length : Int) > mostUp t i then (t[i].2.length : Int) else mostUp t i := by
  unfold mostUp
  rw [List.take_succ_eq_append_getElem h, List.foldl_append]
  rfl
theorem k34 (hG : Good Try.prog (envOf [])) : v34.Kept Try.prog 34 := by
  rintro ⟨t, ⟨⟩⟩ hpre k hk
  change List (Int × List Int) at t
  refine aspec hmix hG Try.func34 tx34 (Eq.mpr (eq34 t k) ?_)
  replace hk : k (.bool (wide t)) [] := hk
  unfold vc34
  rw [br_decide]
  refine ⟨fun h => ?_, fun h => ?_⟩
  · have : wide t = true := by unfold wide; rw [decide_eq_true (by omega : 14 < t.length)]; rfl
    rw [this] at hk; exact hk
  · refine Loop.upto (fun i => (t, mostUp t i, (i : Int), ())) (fun i => mostUp t i > 12 ↔ ∃ l ∈ t.take i, 12 < l.2.length) t.length rfl ⟨fun h => by have h0 : mostUp t 0 = 0 := rfl; omega, fun ⟨l, hl, _⟩ => by simp at hl⟩ ?_ ?_
    · intro i K hi hp hK
      dsimp only
      rw [br_decide]
      refine ⟨fun _ => ⟨⟨by omega, by omega⟩, ?_⟩, fun h => absurd hi (by omega)⟩
      simp only [Int.toNat_natCast]
      rw [mostUp_succ hi, List.take_succ_eq_append_getElem hi] at hK
      refine ⟨fits64 (by omega) (by omega), hK ?_⟩
      have hs : (∃ l ∈ t.take i ++ [t[i]], 12 < l.2.length) ↔ (∃ l ∈ t.take i, 12 < l.2.length) ∨ 12 < t[i].2.length := by
        constructor
        · rintro ⟨l, hl, h⟩
          rcases List.mem_append.1 hl with hl | hl
          · exact Or.inl ⟨l, hl, h⟩
          · simp only [List.mem_singleton] at hl; rw [hl] at h; exact Or.inr h
        · rintro (⟨l, hl, h⟩ | h)
          · exact ⟨l, List.mem_append_left _ hl, h⟩
          · exact ⟨t[i], List.mem_append_right _ (List.mem_singleton.2 rfl), h⟩
      rw [hs, ← hp]
      generalize mostUp t i = z
      generalize t[i].2.length = y
      split
      · omega
      · omega
    · intro K hp
      dsimp only
      rw [br_decide]
      refine ⟨fun h => absurd h (by omega), fun _ => ?_⟩
      rw [List.take_length] at hp
      have : wide t = decide (mostUp t t.length > 12) := by
        unfold wide
        rw [decide_eq_false (by omega : ¬ 14 < t.length), Bool.false_or, Bool.eq_iff_iff, List.any_eq_true]
        constructor
        · rintro ⟨l, hl, h⟩; exact decide_eq_true (hp.2 ⟨l, hl, of_decide_eq_true h⟩)
        · intro h
          obtain ⟨l, hl, h⟩ := hp.1 (of_decide_eq_true h)
          exact ⟨l, hl, decide_eq_true h⟩
      rw [this] at hk; exact hk

/-- How often each number comes. -/
def manyOf (n : Nat) (l : List Int) : List Int := (List.range n).map (fun i : Nat => ((l.count (i : Int) : Nat) : Int))
theorem manyOf_len (n : Nat) (l : List Int) : (manyOf n l).length = n := by simp [manyOf]
theorem manyOf_nil (n : Nat) : manyOf n [] = List.replicate n 0 := by
  apply List.ext_getElem
  · simp [manyOf]
  · intro i h1 h2; simp [manyOf]
theorem manyOf_get (n : Nat) (l : List Int) (i : Nat) (h : i < (manyOf n l).length) : (manyOf n l)[i] = ((l.count (i : Int) : Nat) : Int) := by simp [manyOf]
theorem manyOf_snoc (n : Nat) (l : List Int) (x : Nat) (h : x < (manyOf n l).length) : manyOf n (l ++ [(x : Int)]) = (manyOf n l).set x ((manyOf n l)[x] + 1) := by
  apply List.ext_getElem
  · simp [manyOf_len]
  · intro i h1 h2
    rw [manyOf_get, List.getElem_set, List.count_append]
    by_cases e : x = i
    · subst e
      rw [if_pos rfl, manyOf_get]
      simp
    · rw [if_neg e, manyOf_get]
      have : ¬ ((x : Int) = (i : Int)) := by omega
      simp [List.count_cons, this]
theorem manyOf_neg (n : Nat) (l : List Int) (x : Int) (h : x < 0) : manyOf n (l ++ [x]) = manyOf n l := by
  apply List.ext_getElem
  · simp [manyOf_len]
  · intro i h1 h2
    rw [manyOf_get, manyOf_get, List.count_append]
    have : ¬ (x = (i : Int)) := by omega
    simp [List.count_cons, this]
theorem lookAt_eq {t : List Look} {i : Nat} (h : i < t.length) : lookAt t i = t[i] := by
  unfold lookAt
  rw [List.getD_eq_getElem?_getD, List.getElem?_eq_getElem h]; rfl
theorem flat_take (t : List Look) (i : Nat) (h : i < t.length) : (t.take (i + 1)).flatMap (fun l => l.2) = (t.take i).flatMap (fun l => l.2) ++ t[i].2 := by
  rw [List.take_succ_eq_append_getElem h, List.flatMap_append]
  simp

theorem k72 (hG : Good Try.prog (envOf [(92, mkC [v92a, v92b]), (56, mkC [v56])])) : v72.Kept Try.prog 72 := by
  rintro ⟨m, pots, t, ⟨⟩⟩ hpre k hk
  change List (Int × List Int) at t
  change List (List Int) at pots
  change Int at m
  refine aspec hmix hG Try.func72 tx72 (Eq.mpr (eq72 m pots t k) ?_)
  replace hk : k (rI (treeErr m pots t)) [] := hk
  obtain ⟨hf, hs⟩ := hpre
  have hf : checkShelf m pots = 0 := hf
  have hs1 : t.length ≤ 14 := hs.1
  have hs2 : ∀ l ∈ t, l.2.length ≤ 12 := hs.2
  obtain ⟨f1, f2, f3, f4⟩ := fine_spec hf
  unfold treeErr at hk
  unfold vc72
  rw [br_decide]
  refine ⟨fun h1 => ?_, fun h1 => ⟨⟨hs, by show 0 ≤ m; omega, by show m ≤ 6; omega⟩, br_intro (fun h2 => ?_) (fun h2 => ⟨hs, br_intro (fun h3 => ?_) (fun h3 => ?_)⟩)⟩⟩
  · rw [if_pos (by omega)] at hk; exact hk
  · rw [if_neg (by omega), if_pos (show t.any (strayL m) = true from h2)] at hk; exact hk
  · have h2' : ¬ t.any (strayL m) = true := by rw [show t.any (strayL m) = anyStray m t from rfl, h2]; simp
    rw [if_neg (by omega), if_neg h2', if_pos (show t.any notFive = true from h3)] at hk; exact hk
  have h2' : ¬ t.any (strayL m) = true := by rw [show t.any (strayL m) = anyStray m t from rfl, h2]; simp
  have h3' : ¬ t.any notFive = true := by rw [show t.any notFive = anyFive t from rfl, h3]; simp
  rw [if_neg (by omega), if_neg h2', if_neg h3'] at hk
  refine ⟨⟨by omega, rfl, by simp [big]; omega⟩, ?_⟩
  refine Loop.upto (fun i => (t, t, ((t.length : Nat) : Int), (i : Int), m, pots, manyOf t.length ((t.take i).flatMap (fun l => l.2)), ())) (fun i => ∀ i', i' < i → (lookAt t i').2.any (badNum t.length i' pots.length) = false) t.length (by simp only [List.take_zero, List.flatMap_nil, manyOf_nil]; rfl) (fun i' h => by omega) ?_ ?_
  · intro i K hi hp hK
    dsimp only
    rw [br_decide]
    refine ⟨fun _ => ⟨⟨by omega, by omega⟩, ?_⟩, fun h => absurd hi (by omega)⟩
    simp only [Int.toNat_natCast]
    have hle := hs2 _ (List.getElem_mem hi)
    have hla := lookAt_eq hi
    refine Loop.upto (fun c => (t, (i : Int), t, ((t.length : Nat) : Int), (i : Int), t[i].2, ((t[i].2.length : Nat) : Int), (c : Int), m, pots, manyOf t.length ((t.take i).flatMap (fun l => l.2) ++ t[i].2.take c), ())) (fun c => ∀ y ∈ t[i].2.take c, badNum t.length i pots.length y = false) t[i].2.length (by simp only [List.take_zero, List.append_nil]; rfl) (by simp) ?_ ?_
    · intro c K2 hc hp2 hK2
      dsimp only
      rw [br_decide]
      refine ⟨fun _ => ⟨⟨by omega, by omega⟩, ?_⟩, fun h => absurd hc (by omega)⟩
      simp only [Int.toNat_natCast]
      rw [List.take_succ_eq_append_getElem hc, ← List.append_assoc] at hK2
      have hmem : t[i].2[c] ∈ t[i].2 := List.getElem_mem hc
      obtain ⟨x, hx⟩ : ∃ x : Int, t[i].2[c] = x := ⟨_, rfl⟩
      simp only [hx] at hK2 hmem ⊢
      have hbad : badNum t.length i pots.length x = true → k (rI 2) [] := by
        intro hb
        have hany : badNext t pots.length = true := by
          unfold badNext
          exact any_range_true hi (by rw [hla]; exact List.any_eq_true.2 ⟨x, hmem, hb⟩)
        rw [if_pos hany] at hk; exact hk
      rw [within_one, within_one, br_bf, br_decide]
      have one1 : ∀ z : Int, [z].length ≤ big60 := fun z => by show (1 : Nat) ≤ 1152921504606846976; omega
      refine ⟨fits64 (by omega) (by omega), fits64 (by omega) (by omega), one1 _, fun h5 => ⟨one1 _, fun h6 => hbad ?_, fun h6 => ?_⟩, fun h5 => hbad ?_⟩
      · unfold badNum; exact decide_eq_true (Or.inr (Or.inl h6))
      · have h5' := of_decide_eq_true (nb_f h5)
        have hok : badNum t.length i pots.length x = false := by
          unfold badNum
          exact decide_eq_false (by omega)
        have hnext : ∀ y ∈ t[i].2.take c ++ [x], badNum t.length i pots.length y = false := by
          intro y hy
          rcases List.mem_append.1 hy with hy | hy
          · exact hp2 y hy
          · simp only [List.mem_singleton] at hy; rw [hy]; exact hok
        rw [br_decide]
        refine ⟨fun h7 => ?_, fun h7 => ⟨fits64 (by omega) (by omega), ?_⟩⟩
        · obtain ⟨w, rfl⟩ := Int.eq_ofNat_of_zero_le h7
          have hlen := manyOf_len t.length ((t.take i).flatMap (fun l => l.2) ++ t[i].2.take c)
          simp only [Int.toNat_natCast]
          have hw : w < (manyOf t.length ((t.take i).flatMap (fun l => l.2) ++ t[i].2.take c)).length := by rw [hlen]; omega
          have hcl : ((t.take i).flatMap (fun l => l.2) ++ t[i].2.take c).count (w : Int) ≤ 200 := by
            refine Nat.le_trans List.count_le_length ?_
            rw [List.length_append, List.length_take]
            have : ∀ (s : List Look), (∀ l ∈ s, l.2.length ≤ 12) → (s.map (fun l => l.2.length)).sum ≤ s.length * 12 := by
              intro s
              induction s with
              | nil => simp
              | cons a s ih =>
                intro hs
                simp only [List.map_cons, List.sum_cons, List.length_cons]
                have h1 := hs a (by simp)
                have h2 := ih (fun l hl => hs l (List.mem_cons_of_mem _ hl))
                omega
            have h8 := this (t.take i) (fun l hl => hs2 l (List.mem_of_mem_take hl))
            have h9 : ((t.take i).flatMap (fun l => l.2)).length ≤ (t.take i).length * 12 := by rw [List.length_flatMap]; exact h8
            have h10 : (t.take i).length ≤ t.length := by rw [List.length_take]; omega
            omega
          have hg := manyOf_get t.length ((t.take i).flatMap (fun l => l.2) ++ t[i].2.take c) w hw
          rw [manyOf_snoc _ _ _ hw] at hK2
          exact ⟨⟨h7, hw⟩, hw, fits64 (by rw [hg]; omega) (by rw [hg]; omega), ⟨h7, hw⟩, hw, fits64 (by omega) (by omega), hK2 hnext⟩
        · rw [manyOf_neg _ _ _ (by omega)] at hK2
          exact hK2 hnext
      · have h5' := of_decide_eq_false (nb_t h5)
        unfold badNum
        exact decide_eq_true (by omega)
    · intro K2 hp2
      dsimp only
      rw [br_decide]
      rw [List.take_length] at hp2 ⊢
      refine ⟨fun h => absurd h (by omega), fun _ => ⟨fits64 (by omega) (by omega), ?_⟩⟩
      rw [flat_take t i hi] at hK
      refine hK ?_
      intro i' hi'
      rcases Nat.lt_or_ge i' i with h' | h'
      · exact hp i' h'
      · obtain rfl : i' = i := by omega
        rw [hla, List.any_eq_false]
        intro y hy
        rw [hp2 y hy]; simp
  · intro K hp
    dsimp only
    rw [br_decide]
    refine ⟨fun h => absurd h (by omega), fun _ => ?_⟩
    have hnb : ¬ badNext t pots.length = true := by
      unfold badNext
      rw [any_range_false hp]; simp
    rw [if_neg hnb] at hk
    rw [List.take_length, manyOf_len]
    have hall : t.flatMap (fun l => l.2) = allNext t := rfl
    rw [hall]
    refine Loop.upto (fun i => (((t.length : Nat) : Int), (i : Int), manyOf t.length (allNext t), ())) (fun i => ∀ i', i' < i → (decide (0 < i') && decide ((allNext t).count (i' : Int) ≠ 1)) = false) t.length rfl (fun i' h => by omega) ?_ ?_
    · intro i K2 hi hp2 hK2
      dsimp only
      have hlen := manyOf_len t.length (allNext t)
      have hg := manyOf_get t.length (allNext t) i (by omega)
      rw [br_decide]
      simp only [Int.toNat_natCast]
      refine ⟨fun _ => ⟨⟨by omega, by omega⟩, by omega, ?_⟩, fun h => absurd hi (by omega)⟩
      rw [br_true, hg, br_bne]
      have hnext : (decide (0 < i) && decide ((allNext t).count (i : Int) ≠ 1)) = false → ∀ i', i' < i + 1 → (decide (0 < i') && decide ((allNext t).count (i' : Int) ≠ 1)) = false := by
        intro hh i' hi'
        rcases Nat.lt_or_ge i' i with h' | h'
        · exact hp2 i' h'
        · obtain rfl : i' = i := by omega
          exact hh
      refine ⟨fun h5 => ⟨fun h6 => ?_, fun h6 => ⟨fits64 (by omega) (by omega), hK2 (hnext ?_)⟩⟩, fun h5 => ⟨fits64 (by omega) (by omega), hK2 (hnext ?_)⟩⟩
      · have hb : badCount t = true := by
          unfold badCount
          exact any_range_true hi (by rw [decide_eq_true (by omega : 0 < i), decide_eq_true (by omega : (allNext t).count (i : Int) ≠ 1)]; rfl)
        rw [if_pos hb] at hk; exact hk
      · rw [decide_eq_false (by omega : ¬ (allNext t).count (i : Int) ≠ 1), Bool.and_false]
      · rw [decide_eq_false (by omega : ¬ 0 < i), Bool.false_and]
    · intro K2 hp2
      dsimp only
      rw [br_decide]
      refine ⟨fun h => absurd h (by omega), fun _ => ?_⟩
      have hb : ¬ badCount t = true := by
        unfold badCount
        rw [any_range_false hp2]; simp
      rw [if_neg hb] at hk; exact hk
end Go.Abs.King
end

section
/- The king's functions keep their contracts: fifteenth part. -/
open Go.Proofs
set_option maxRecDepth 100000
set_option linter.unusedVariables false
namespace Go.Abs.King

theorem k38 (hG : Good Try.prog (envOf [(23, mkC [v23]), (49, mkC [v49]), (58, mkC [v58])])) : v38.Kept Try.prog 38 := by
  rintro ⟨m, pots, ⟨⟩⟩ hpre k hk
  change List (List Int) at pots
  change Int at m
  refine aspec hmix hG Try.func38 tx38 (Eq.mpr (eq38 m pots k) ?_)
  replace hk : k (rI (treeErrE m pots)) [] := hk
  have hp14 : pots.length ≤ 14 := hpre.1
  unfold vc38
  rw [br_bne]
  refine ⟨hp14, fun h => ⟨hp14, ?_⟩, fun h => ?_⟩
  · rw [treeErrE, if_pos h] at hk; exact hk
  · obtain ⟨f1, f2, f3, f4⟩ := fine_spec h
    rw [treeErrE, if_neg (not_not_intro h), toldAll] at hk
    have hll := listed_len (2 ^ m.toNat - 1) m.toNat
    refine ⟨⟨by show 0 ≤ m; omega, by show m ≤ 40; omega⟩, ⟨h, by show (listed (2 ^ m.toNat - 1) m.toNat).length ≤ 1152921504606846976; omega, ?_⟩, br_intro (fun h2 => ?_) (fun h2 => ?_)⟩
    · intro x hx
      obtain ⟨i, rfl, hi, _⟩ := mem_listed hx
      show (0 : Int) ≤ (i : Int) ∧ (i : Int) < m
      omega
    · rw [h2] at hk; exact hk
    · rw [h2] at hk; exact hk

theorem k71 (hG : Good Try.prog (envOf [(90, mkC [v90])])) : v71.Kept Try.prog 71 := by
  rintro ⟨m, pots, l, bits, mark, ⟨⟩⟩ hpre k hk
  change List (List Int) at pots
  change List Int at l
  change Int at m bits mark
  refine aspec hmix hG Try.func71 tx71 (Eq.mpr (eq71 m pots l bits mark k) ?_)
  replace hk : k (rI (worstL pots l bits mark)) [] := hk
  obtain ⟨hf, hlen, ⟨h1, h2⟩, h3, h4⟩ := hpre
  have hf : checkShelf m pots = 0 := hf
  have hlen : l.length = 2 ^ pots.length := hlen
  have h1 : 0 ≤ bits := h1
  have h2 : bits < ((2 ^ pots.length : Nat) : Int) := h2
  have h3 : 0 ≤ mark := h3
  have h4 : mark < m := h4
  obtain ⟨f1, f2, f3, f4⟩ := fine_spec hf
  obtain ⟨b, rfl⟩ := Int.eq_ofNat_of_zero_le h1
  obtain ⟨j, rfl⟩ := Int.eq_ofNat_of_zero_le h3
  have hw : worstL pots l (b : Int) (j : Int) = worstOf (getL l) pots b j := rfl
  rw [hw, worstOf_eq] at hk
  have hp8 : 2 ^ pots.length ≤ 2 ^ 8 := Nat.pow_le_pow_right (by omega) (by omega)
  have h256 : (2 : Nat) ^ 8 = 256 := by decide
  have hg : ∀ i : Nat, i < 5 → (parts5 pots b j).take (i + 1) = (parts5 pots b j).take i ++ [partOf pots b j (i : Int)] := by
    intro i hi
    match i, hi with
    | 0, _ => rfl
    | 1, _ => rfl
    | 2, _ => rfl
    | 3, _ => rfl
    | 4, _ => rfl
  unfold vc71
  refine Loop.upto (fun i => (l, (b : Int), (j : Int), ((parts5 pots b j).take i).foldl (fun n p => max n (getL l p)) 0, (i : Int), m, pots, ())) (fun i => ∀ p ∈ (parts5 pots b j).take i, p ≠ b ∧ 0 ≤ getL l p) 5 rfl (by simp) ?_ ?_
  · intro i K hi hpi hK
    dsimp only
    rw [br_decide]
    have hlt := partOf_lt pots b j (i : Int)
    have hpl : partOf pots b j (i : Int) < l.length := by omega
    have hge : getL l (partOf pots b j (i : Int)) = l[partOf pots b j (i : Int)] := getD_lt _ _ hpl
    have hmem : partOf pots b j (i : Int) ∈ parts5 pots b j := by
      have : partOf pots b j (i : Int) ∈ (parts5 pots b j).take (i + 1) := by rw [hg i hi]; simp
      exact List.mem_of_mem_take this
    refine ⟨fun _ => ⟨⟨hf, ⟨by show (0 : Int) ≤ (b : Int); omega, by show (b : Int) < 4611686018427387904; omega⟩, ⟨h3, h4⟩⟩, ?_⟩, fun h => absurd hi (by omega)⟩
    simp only [Int.toNat_natCast]
    rw [br_bf]
    refine ⟨fun h5 => ?_, fun h5 => ?_⟩
    · have hne : partOf pots b j (i : Int) ≠ b := by
        intro e
        rw [e] at h5
        simp at h5
      refine ⟨⟨by omega, hpl⟩, ?_⟩
      rw [br_decide, ← hge]
      refine ⟨fun h6 => ?_, fun h6 => ⟨⟨by omega, hpl⟩, fits64 (by omega) (by omega), ?_⟩⟩
      · rw [if_neg (fun hh => by have := hh.2 _ hmem; omega)] at hk
        exact hk
      · have hK := hK (by
          intro p hp
          rw [hg i hi, List.mem_append] at hp
          rcases hp with hp | hp
          · exact hpi p hp
          · simp only [List.mem_singleton] at hp; rw [hp]; exact ⟨hne, by omega⟩)
        rw [hg i hi, List.foldl_append] at hK
        simp only [List.foldl_cons, List.foldl_nil] at hK
        rw [Int.max_def, hge] at hK
        generalize List.foldl (fun n p => max n (getL l p)) 0 ((parts5 pots b j).take i) = z at hK ⊢
        generalize l[partOf pots b j (i : Int)] = y at hK ⊢
        have e : (if y > z then y else z) = (if z ≤ y then y else z) := by
          by_cases h : z ≤ y
          · by_cases h' : y > z
            · rw [if_pos h, if_pos h']
            · rw [if_pos h, if_neg h']; omega
          · rw [if_neg h, if_neg (by omega)]
        rw [e]
        exact hK
    · have he : partOf pots b j (i : Int) = b := by
        have := eq_of_beq h5
        omega
      rw [if_neg (fun hh => (proper_iff.1 hh.1) i hi he)] at hk
      exact hk
  · intro K hpi
    dsimp only
    rw [br_decide]
    refine ⟨fun h => absurd h (by omega), fun _ => ?_⟩
    have e5 : (parts5 pots b j).take 5 = parts5 pots b j := rfl
    rw [e5] at hpi
    have hp : proper pots b j = true := by
      unfold proper
      rw [Bool.not_eq_true', List.any_eq_false]
      intro p hp e
      exact (hpi p hp).1 (of_decide_eq_true e)
    rw [if_pos ⟨hp, fun p hp => (hpi p hp).2⟩] at hk
    exact hk
end Go.Abs.King
end

section
/- The king's functions keep their contracts: sixteenth part, how deep a tree is. -/
open Go.Proofs
set_option maxRecDepth 100000
set_option linter.unusedVariables false
namespace Go.Abs.King

theorem deepFold_congr {g g' : Nat → Int} : ∀ (l : List Int) (a : Int), (∀ n ∈ l, 0 ≤ n → g n.toNat = g' n.toNat) → l.foldl (fun mx n => if n ≥ 0 then max mx (g n.toNat) else mx) a = l.foldl (fun mx n => if n ≥ 0 then max mx (g' n.toNat) else mx) a
  | [], _, _ => rfl
  | x :: l, a, h => by
    simp only [List.foldl_cons]
    by_cases hx : x ≥ 0
    · rw [if_pos hx, if_pos hx, h x (by simp) hx]
      exact deepFold_congr l _ (fun n hn => h n (List.mem_cons_of_mem _ hn))
    · rw [if_neg hx, if_neg hx]
      exact deepFold_congr l _ (fun n hn => h n (List.mem_cons_of_mem _ hn))
theorem deepFold_bounds {g : Nat → Int} (c : Int) : ∀ (l : List Int) (a : Int), a ≤ c → (∀ n ∈ l, 0 ≤ n → g n.toNat ≤ c) → a ≤ l.foldl (fun mx n => if n ≥ 0 then max mx (g n.toNat) else mx) a ∧ l.foldl (fun mx n => if n ≥ 0 then max mx (g n.toNat) else mx) a ≤ c
  | [], a, h, _ => ⟨Int.le_refl _, h⟩
  | x :: l, a, h, h2 => by
    simp only [List.foldl_cons]
    by_cases hx : x ≥ 0
    · rw [if_pos hx]
      have h3 := h2 x (by simp) hx
      have := deepFold_bounds c l (max a (g x.toNat)) (by omega) (fun n hn => h2 n (List.mem_cons_of_mem _ hn))
      omega
    · rw [if_neg hx]
      exact deepFold_bounds c l a h (fun n hn => h2 n (List.mem_cons_of_mem _ hn))
theorem deepF_irrel {t : List Look} (ht : okTree t) : ∀ (f f' i : Nat), i < t.length → t.length - i ≤ f → t.length - i ≤ f' → deepF t f i = deepF t f' i
  | 0, _, i, h, h1, _ => by omega
  | _ + 1, 0, i, h, _, h2 => by omega
  | f + 1, f' + 1, i, h, h1, h2 => by
    unfold deepF
    congr 1
    refine deepFold_congr _ _ (fun n hn h0 => ?_)
    obtain ⟨a, b⟩ := (ht i h).2 n hn
    have := b h0
    exact deepF_irrel ht f f' n.toNat (by omega) (by omega) (by omega)
theorem deepF_bounds {t : List Look} : ∀ (f i : Nat), 0 ≤ deepF t f i ∧ deepF t f i ≤ (f : Int)
  | 0, i => by unfold deepF; omega
  | f + 1, i => by
    unfold deepF
    have := deepFold_bounds (g := deepF t f) (f : Int) (lookAt t i).2 0 (by omega) (fun n _ _ => (deepF_bounds f n.toNat).2)
    omega

theorem k75 (n : Nat) (hG : Good Try.prog (envOf [(75, mkC [v75n n])])) : (v75n (n + 1)).Kept Try.prog 75 := by
  rintro ⟨t, i, ⟨⟩⟩ hpre k hk
  change List (Int × List Int) at t
  change Int at i
  refine aspec hmix hG Try.func75 tx75 (Eq.mpr (eq75 t i n k) ?_)
  replace hk : k (rI (deepI t i)) [] := hk
  obtain ⟨⟨hs, hok, h1, h2⟩, hn⟩ := hpre
  have hs1 : t.length ≤ 14 := hs.1
  have h1 : 0 ≤ i := h1
  have h2 : i < (t.length : Int) := h2
  obtain ⟨a, rfl⟩ := Int.eq_ofNat_of_zero_le h1
  have hn : t.length - a < n + 1 := hn
  have ha : a < t.length := by omega
  have hla := lookAt_eq ha
  obtain ⟨h5, hall⟩ := hok a ha
  rw [hla] at h5 hall
  have hall : ∀ n ∈ t[a].2, n < (t.length : Int) ∧ (0 ≤ n → (a : Int) < n) := hall
  have h5 : t[a].2.length = 5 := h5
  have hd : deepI t (a : Int) = 1 + t[a].2.foldl (fun mx n => if n ≥ 0 then max mx (deepI t n) else mx) 0 := by
    show deepF t (t.length - a) a = _
    obtain ⟨f, hf⟩ : ∃ f, t.length - a = f + 1 := ⟨t.length - a - 1, by omega⟩
    rw [hf]
    unfold deepF
    rw [hla]
    congr 1
    refine deepFold_congr (g := deepF t f) (g' := fun x => deepI t (x : Int)) _ _ (fun x hx h0 => ?_) |>.trans ?_
    · obtain ⟨c, d⟩ := hall x hx
      have := d h0
      exact deepF_irrel (t := t) hok f _ x.toNat (by omega) (by omega) (by omega)
    · have : ∀ (l : List Int) (z : Int), l.foldl (fun mx n => if n ≥ 0 then max mx (deepI t ((n.toNat : Nat) : Int)) else mx) z = l.foldl (fun mx n => if n ≥ 0 then max mx (deepI t n) else mx) z := by
        intro l
        induction l with
        | nil => intro z; rfl
        | cons x l ih =>
          intro z
          simp only [List.foldl_cons]
          by_cases hx : x ≥ 0
          · rw [if_pos hx, if_pos hx, Int.toNat_of_nonneg hx]; exact ih _
          · rw [if_neg hx, if_neg hx]; exact ih _
      exact this _ _
  have hub : ∀ x : Int, 0 ≤ deepI t x ∧ deepI t x ≤ 14 := by
    intro x
    have := deepF_bounds (t := t) (t.length - x.toNat) x.toNat
    show 0 ≤ deepF t _ _ ∧ deepF t _ _ ≤ 14
    omega
  rw [hd] at hk
  unfold vc75
  refine Loop.upto (fun c => (t, (a : Int), (t[a].2.take c).foldl (fun mx n => if n ≥ 0 then max mx (deepI t n) else mx) 0, (c : Int), ())) (fun c => 0 ≤ (t[a].2.take c).foldl (fun mx n => if n ≥ 0 then max mx (deepI t n) else mx) 0 ∧ (t[a].2.take c).foldl (fun mx n => if n ≥ 0 then max mx (deepI t n) else mx) 0 ≤ 14) 5 rfl ⟨by simp, by simp⟩ ?_ ?_
  · rintro c K hc ⟨hp1, hp2⟩ hK
    dsimp only
    have hc' : c < t[a].2.length := by omega
    rw [br_decide]
    refine ⟨fun _ => ⟨⟨by omega, ha⟩, ⟨by omega, by simpa using hc'⟩, ?_⟩, fun h => absurd hc (by omega)⟩
    simp only [Int.toNat_natCast]
    rw [List.take_succ_eq_append_getElem hc', List.foldl_append] at hK
    simp only [List.foldl_cons, List.foldl_nil] at hK
    have hmem : t[a].2[c] ∈ t[a].2 := List.getElem_mem hc'
    obtain ⟨hx1, hx2⟩ := hall _ hmem
    have hb := hub t[a].2[c]
    rw [br_decide]
    refine ⟨fun h6 => ⟨⟨by omega, ha⟩, ⟨by omega, hc'⟩, ⟨⟨hs, hok, h6, hx1⟩, ?_⟩, fits64 (by omega) (by omega), ?_⟩, fun h6 => ⟨fits64 (by omega) (by omega), ?_⟩⟩
    · show t.length - Int.toNat (t[a].2[c]) < n
      have hlt : (a : Int) < t[a].2[c] := hx2 h6
      generalize t[a].2[c] = x at hlt
      omega
    · simp only [if_pos h6] at hK
      rw [Int.max_def] at hK
      generalize List.foldl (fun mx n => if n ≥ 0 then max mx (deepI t n) else mx) 0 (List.take c t[a].2) = z at hK hp1 hp2 ⊢
      generalize deepI t t[a].2[c] = y at hK hb ⊢
      have e : (if y > z then y else z) = (if z ≤ y then y else z) := by
        by_cases h : z ≤ y
        · by_cases h' : y > z
          · rw [if_pos h, if_pos h']
          · rw [if_pos h, if_neg h']; omega
        · rw [if_neg h, if_neg (by omega)]
      rw [e]
      refine hK ?_
      split <;> omega
    · simp only [if_neg h6] at hK
      exact hK ⟨hp1, hp2⟩
  · rintro K ⟨hp1, hp2⟩
    dsimp only
    have e5 : t[a].2.take 5 = t[a].2 := List.take_of_length_le (by omega)
    rw [e5] at hp1 hp2 ⊢
    rw [br_decide]
    exact ⟨fun h => absurd h (by omega), fun _ => ⟨fits64 (by omega) (by omega), hk⟩⟩
end Go.Abs.King
end

section
/- Of the parts of some pots: how many there are. -/
open Go.Proofs
set_option maxRecDepth 100000
set_option linter.unusedVariables false
namespace Go.Abs.King

theorem listed_part {pots : List (List Int)} {b j : Nat} {v : Int} (hb : b < 2 ^ pots.length) (n : Nat) : listed (partOf pots b j v) n = (listed b n).filter (fun i => decide (mk pots i.toNat j = v)) := by
  unfold listed
  rw [List.filter_map, List.filter_filter]
  congr 1
  refine List.filter_congr (fun i _ => ?_)
  have e : ((fun i : Int => decide (mk pots i.toNat j = v)) ∘ Int.ofNat) i = decide (mk pots i j = v) := rfl
  rw [e]
  unfold partOf
  rw [bitsOf_test]
  cases ht : b.testBit i with
  | false => simp
  | true =>
    have := lt_of_test hb ht
    simp [this]
theorem cnt_part {pots : List (List Int)} {b j : Nat} {v : Int} (hb : b < 2 ^ pots.length) (n : Nat) : cnt (partOf pots b j v) n = (listed b n).countP (fun i => decide (mk pots i.toNat j = v)) := by
  unfold cnt
  rw [listed_part hb, List.countP_eq_length_filter]
theorem counts_sum (pots : List (List Int)) (j : Nat) : ∀ l : List Int, l.countP (fun i => decide (mk pots i.toNat j = 0)) + l.countP (fun i => decide (mk pots i.toNat j = 1)) + l.countP (fun i => decide (mk pots i.toNat j = 2)) + l.countP (fun i => decide (mk pots i.toNat j = 3)) + l.countP (fun i => decide (mk pots i.toNat j = 4)) ≤ l.length
  | [] => by simp
  | x :: l => by
    have := counts_sum pots j l
    simp only [List.countP_cons, List.length_cons, decide_eq_true_eq]
    generalize mk pots x.toNat j = w
    by_cases h0 : w = 0
    · subst h0; simp; omega
    · by_cases h1 : w = 1
      · subst h1; simp; omega
      · by_cases h2 : w = 2
        · subst h2; simp; omega
        · by_cases h3 : w = 3
          · subst h3; simp; omega
          · by_cases h4 : w = 4
            · subst h4; simp; omega
            · simp [h0, h1, h2, h3, h4]; omega
theorem parts_sum {pots : List (List Int)} {b j : Nat} (hb : b < 2 ^ pots.length) (n : Nat) : cnt (partOf pots b j 0) n + cnt (partOf pots b j 1) n + cnt (partOf pots b j 2) n + cnt (partOf pots b j 3) n + cnt (partOf pots b j 4) n ≤ cnt b n := by
  rw [cnt_part hb, cnt_part hb, cnt_part hb, cnt_part hb, cnt_part hb]
  exact counts_sum pots j (listed b n)

/-- Where a look less is needed. -/
theorem firstN_spec {pots : List (List Int)} {m b : Nat} (h : 1 ≤ looks pots m b) : firstN pots m b < m ∧ 0 ≤ worstOf (looks pots m) pots b (firstN pots m b) ∧ worstOf (looks pots m) pots b (firstN pots m b) < looks pots m b := by
  have hex : ∃ j, j < m ∧ 0 ≤ worstOf (looks pots m) pots b j ∧ worstOf (looks pots m) pots b j < looks pots m b := by
    have hl : looks pots m b = bestOf (looks pots m) pots m b := by
      have := looks_eq pots m b
      split at this
      · omega
      · exact this
    have key : ∀ n, ((List.range n).foldl (bestStep (looks pots m) pots b) (-1) = -1) ∨ ∃ j, j < n ∧ 0 ≤ worstOf (looks pots m) pots b j ∧ worstOf (looks pots m) pots b j + 1 = (List.range n).foldl (bestStep (looks pots m) pots b) (-1) := by
      intro n
      induction n with
      | zero => exact Or.inl rfl
      | succ n ih =>
        rw [List.range_succ, List.foldl_append]
        simp only [List.foldl_cons, List.foldl_nil]
        generalize hz : List.foldl (bestStep (looks pots m) pots b) (-1) (List.range n) = z at ih ⊢
        unfold bestStep
        split
        · rename_i hc
          exact Or.inr ⟨n, by omega, hc.1, rfl⟩
        · rcases ih with ih | ⟨j, h1, h2, h3⟩
          · exact Or.inl ih
          · exact Or.inr ⟨j, by omega, h2, h3⟩
    rcases key m with hk | ⟨j, h1, h2, h3⟩
    · unfold bestOf at hl; omega
    · unfold bestOf at hl
      exact ⟨j, h1, h2, by omega⟩
  obtain ⟨j, hj, h1, h2⟩ := hex
  unfold firstN
  cases hf : (List.range m).find? (fun j => decide (0 ≤ worstOf (looks pots m) pots b j ∧ worstOf (looks pots m) pots b j < looks pots m b)) with
  | none =>
    have := List.find?_eq_none.1 hf j (List.mem_range.2 hj)
    exact absurd (decide_eq_true ⟨h1, h2⟩) this
  | some i =>
    have h3 := List.find?_some hf
    have h4 := List.mem_of_find?_eq_some hf
    exact ⟨List.mem_range.1 h4, of_decide_eq_true h3⟩
end Go.Abs.King
end

section
/- The king's functions keep their contracts: a tree that is made. -/
open Go.Proofs
set_option maxRecDepth 100000
set_option linter.unusedVariables false
namespace Go.Abs.King

theorem worst_nonneg {g : Nat → Int} {pots : List (List Int)} {b j : Nat} (h : 0 ≤ worstOf g pots b j) : (∀ v : Nat, v < 5 → partOf pots b j (v : Int) ≠ b) ∧ ∀ v : Nat, v < 5 → 0 ≤ g (partOf pots b j (v : Int)) := by
  rw [worstOf_eq] at h
  split at h
  · rename_i hh
    refine ⟨proper_iff.1 hh.1, fun v hv => hh.2 _ ?_⟩
    unfold parts5
    match v, hv with
    | 0, _ => simp
    | 1, _ => simp
    | 2, _ => simp
    | 3, _ => simp
    | 4, _ => simp
  · omega
theorem looks_cnt {pots : List (List Int)} {m b : Nat} (h : 1 ≤ looks pots m b) : 2 ≤ cnt b pots.length := by
  rw [looks_eq] at h
  split at h
  · omega
  · omega
theorem cnt_cut {b n n' : Nat} (hb : b < 2 ^ n) (h : n ≤ n') : cnt b n' = cnt b n := by
  unfold cnt; rw [listed_cut b n n' hb h]
theorem cnt_lt {pots : List (List Int)} {b j : Nat} {v : Int} (hb : b < 2 ^ pots.length) (h : partOf pots b j v ≠ b) : cnt (partOf pots b j v) pots.length < cnt b pots.length := by
  rw [cnt_part hb]
  have h1 : (listed b pots.length).countP (fun i => decide (mk pots i.toNat j = v)) ≤ (listed b pots.length).length := List.countP_le_length
  have h2 : ¬ ((((listed b pots.length).countP (fun i => decide (mk pots i.toNat j = v)) : Nat) : Int) = ((listed b pots.length).length : Int)) := fun e => h ((count_all hb).1 e)
  unfold cnt
  omega

theorem growStep_congr {r r' : List Look → Nat → List Look} {pots : List (List Int)} {b j : Nat} {s : List Look × List Int} {v : Nat} (h : ∀ t, r t (partOf pots b j v) = r' t (partOf pots b j v)) : growStep r pots b j s v = growStep r' pots b j s v := by
  unfold growStep
  rw [h]
theorem growF_irrel (pots : List (List Int)) (m : Nat) : ∀ (f f' : Nat) (t : List Look) (b : Nat), b ≤ f → b ≤ f' → growF pots m f t b = growF pots m f' t b
  | 0, 0, _, _, _, _ => rfl
  | 0, f' + 1, t, b, h, _ => by
    have hb : b = 0 := by omega
    subst hb
    have := (looks_bounds pots m 0).2
    unfold growF
    rw [if_pos (by omega)]
  | f + 1, 0, t, b, _, h => by
    have hb : b = 0 := by omega
    subst hb
    have := (looks_bounds pots m 0).2
    unfold growF
    rw [if_pos (by omega)]
  | f + 1, f' + 1, t, b, h, h' => by
    unfold growF
    by_cases hl : looks pots m b < 1
    · rw [if_pos hl, if_pos hl]
    · rw [if_neg hl, if_neg hl]
      have hs := firstN_spec (pots := pots) (m := m) (b := b) (by omega)
      have hw := worst_nonneg hs.2.1
      have e : ∀ (s : List Look × List Int) (v : Nat), v < 5 → growStep (growF pots m f) pots b (firstN pots m b) s v = growStep (growF pots m f') pots b (firstN pots m b) s v := by
        intro s v hv
        have h1 := partOf_le pots b (firstN pots m b) (v : Int)
        have h2 := hw.1 v hv
        exact growStep_congr (fun t => growF_irrel pots m f f' t _ (by omega) (by omega))
      simp only [List.foldl_cons, List.foldl_nil]
      rw [e _ 0 (by omega), e _ 1 (by omega), e _ 2 (by omega), e _ 3 (by omega), e _ 4 (by omega)]

/-- The tree after the first values. -/
def growUp (pots : List (List Int)) (m : Nat) (t : List Look) (b i : Nat) : List Look × List Int := (List.range i).foldl (growStep (fun t p => growF pots m p t p) pots b (firstN pots m b)) (t ++ [((firstN pots m b : Int), [])], [])
theorem growUp_succ (pots : List (List Int)) (m : Nat) (t : List Look) (b i : Nat) : growUp pots m t b (i + 1) = growStep (fun t p => growF pots m p t p) pots b (firstN pots m b) (growUp pots m t b i) i := by
  unfold growUp
  rw [List.range_succ, List.foldl_append]
  rfl
theorem growF_eq {pots : List (List Int)} {m : Nat} {t : List Look} {b : Nat} (h : 1 ≤ looks pots m b) : growF pots m b t b = (growUp pots m t b 5).1.set t.length ((firstN pots m b : Int), (growUp pots m t b 5).2) := by
  have hb := (looks_bounds pots m b).2
  obtain ⟨f, rfl⟩ : ∃ f, b = f + 1 := ⟨b - 1, by omega⟩
  have hs := firstN_spec h
  have hw := worst_nonneg hs.2.1
  have e : ∀ (s : List Look × List Int) (v : Nat), v < 5 → growStep (growF pots m f) pots (f + 1) (firstN pots m (f + 1)) s v = growStep (fun t p => growF pots m p t p) pots (f + 1) (firstN pots m (f + 1)) s v := by
    intro s v hv
    have h1 := partOf_le pots (f + 1) (firstN pots m (f + 1)) (v : Int)
    have h2 := hw.1 v hv
    exact growStep_congr (fun t => growF_irrel pots m f _ t _ (by omega) (by omega))
  have e5 : growUp pots m t (f + 1) 5 = [0, 1, 2, 3, 4].foldl (growStep (growF pots m f) pots (f + 1) (firstN pots m (f + 1))) (t ++ [((firstN pots m (f + 1) : Int), [])], []) := by
    simp only [List.foldl_cons, List.foldl_nil]
    rw [e _ 0 (by omega), e _ 1 (by omega), e _ 2 (by omega), e _ 3 (by omega), e _ 4 (by omega)]
    rfl
  rw [e5]
  conv => lhs; unfold growF
  rw [if_neg (by omega)]
end Go.Abs.King
end

section
/- The king's functions keep their contracts: a tree that is made, its length; grow. -/
open Go.Proofs
set_option maxRecDepth 100000
set_option linter.unusedVariables false
namespace Go.Abs.King

theorem cnt8 {pots : List (List Int)} {b : Nat} (hp : pots.length ≤ 8) (hb : b < 2 ^ pots.length) : cnt b 8 = cnt b pots.length := cnt_cut hb hp

theorem looks_pos (pots : List (List Int)) (m b : Nat) (h : 2 ≤ cnt b pots.length) : looks pots m b = -1 ∨ 1 ≤ looks pots m b := by
  rw [looks_eq, if_neg (by omega)]
  have := (bestFold_bounds (looks pots m) pots b (fun p _ => (looks_bounds pots m p).2) (List.range m) (-1) (Or.inl rfl) (by omega)).1
  unfold bestOf
  omega

/-- How many looks the parts of the first values add. -/
def addUp (pots : List (List Int)) (b j : Nat) : Nat → Nat
  | 0 => 0
  | i + 1 => addUp pots b j i + (cnt (partOf pots b j (i : Int)) pots.length - 1)

def sumUp (pots : List (List Int)) (b j : Nat) : Nat → Nat
  | 0 => 0
  | i + 1 => sumUp pots b j i + cnt (partOf pots b j (i : Int)) pots.length
theorem addUp_sum (pots : List (List Int)) (b j : Nat) : ∀ i, addUp pots b j i ≤ sumUp pots b j i - 1
  | 0 => Nat.le_refl _
  | i + 1 => by
    have := addUp_sum pots b j i
    unfold addUp sumUp
    omega
theorem sumUp_mono (pots : List (List Int)) (b j : Nat) : ∀ i k, i ≤ k → sumUp pots b j i ≤ sumUp pots b j k
  | i, 0, h => by obtain rfl : i = 0 := by omega
                  exact Nat.le_refl _
  | i, k + 1, h => by
    rcases Nat.lt_or_ge k i with h' | h'
    · obtain rfl : i = k + 1 := by omega
      exact Nat.le_refl _
    · have h1 := sumUp_mono pots b j i k h'
      have h2 : sumUp pots b j (k + 1) = sumUp pots b j k + cnt (partOf pots b j (k : Int)) pots.length := rfl
      omega
theorem sumUp_cnt {pots : List (List Int)} {b j : Nat} (hb : b < 2 ^ pots.length) : sumUp pots b j 5 ≤ cnt b pots.length := by
  have := parts_sum (j := j) hb pots.length
  have e : sumUp pots b j 5 = 0 + cnt (partOf pots b j 0) pots.length + cnt (partOf pots b j 1) pots.length + cnt (partOf pots b j 2) pots.length + cnt (partOf pots b j 3) pots.length + cnt (partOf pots b j 4) pots.length := rfl
  omega
theorem addUp_room {pots : List (List Int)} {b j i : Nat} (hb : b < 2 ^ pots.length) (hi : i < 5) (hne : partOf pots b j (i : Int) ≠ b) : addUp pots b j i + cnt (partOf pots b j (i : Int)) pots.length + 1 ≤ cnt b pots.length := by
  have h1 := addUp_sum pots b j i
  have h2 := cnt_lt hb hne
  have h3 := sumUp_cnt (j := j) hb
  have h4 := sumUp_mono pots b j (i + 1) 5 (by omega)
  have h5 : sumUp pots b j (i + 1) = sumUp pots b j i + cnt (partOf pots b j (i : Int)) pots.length := rfl
  omega
theorem addUp_all {pots : List (List Int)} {b j : Nat} (hb : b < 2 ^ pots.length) (hc : 2 ≤ cnt b pots.length) (hne : ∀ v : Nat, v < 5 → partOf pots b j (v : Int) ≠ b) : addUp pots b j 5 + 2 ≤ cnt b pots.length := by
  have key : ∀ i, i ≤ 5 → addUp pots b j i + 2 ≤ cnt b pots.length := by
    intro i
    induction i with
    | zero => intro _; unfold addUp; omega
    | succ i ih =>
      intro hi
      have h1 := ih (by omega)
      have h2 := addUp_room hb (by omega) (hne i (by omega))
      unfold addUp
      omega
  exact key 5 (by omega)
theorem growStep_len {r : List Look → Nat → List Look} (h : ∀ t b, t.length ≤ (r t b).length) (pots : List (List Int)) (b j : Nat) (s : List Look × List Int) (v : Nat) : s.1.length ≤ (growStep r pots b j s v).1.length := by
  unfold growStep
  split
  · exact Nat.le_refl _
  · split
    · exact Nat.le_refl _
    · exact h _ _
theorem growFold_len {r : List Look → Nat → List Look} (h : ∀ t b, t.length ≤ (r t b).length) (pots : List (List Int)) (b j : Nat) : ∀ (l : List Nat) (s : List Look × List Int), s.1.length ≤ (l.foldl (growStep r pots b j) s).1.length
  | [], _ => Nat.le_refl _
  | v :: l, s => Nat.le_trans (growStep_len h pots b j s v) (growFold_len h pots b j l _)
theorem growF_ge (pots : List (List Int)) (m : Nat) : ∀ (f : Nat) (t : List Look) (b : Nat), t.length ≤ (growF pots m f t b).length
  | 0, _, _ => Nat.le_refl _
  | f + 1, t, b => by
    unfold growF
    split
    · exact Nat.le_refl _
    · simp only [List.length_set]
      refine Nat.le_trans ?_ (growFold_len (growF_ge pots m f) pots b _ _ _)
      simp
theorem growUp_gt (pots : List (List Int)) (m : Nat) (t : List Look) (b i : Nat) : t.length < (growUp pots m t b i).1.length := by
  unfold growUp
  refine Nat.lt_of_lt_of_le ?_ (growFold_len (fun t b => growF_ge pots m b t b) pots b _ _ _)
  simp

theorem growF_len {pots : List (List Int)} {m : Nat} (hp : pots.length ≤ 8) : ∀ (N b : Nat) (t : List Look), b < N → b < 2 ^ pots.length → 1 ≤ looks pots m b →
    (growF pots m b t b).length + 1 ≤ t.length + cnt b pots.length ∧ ∀ i, i ≤ 5 → (growUp pots m t b i).1.length ≤ t.length + 1 + addUp pots b (firstN pots m b) i
  | 0, b, t, h, _, _ => by omega
  | N + 1, b, t, h, hb, hl => by
    have hs := firstN_spec hl
    have hw := worst_nonneg hs.2.1
    have hc := looks_cnt hl
    have up : ∀ i, i ≤ 5 → (growUp pots m t b i).1.length ≤ t.length + 1 + addUp pots b (firstN pots m b) i := by
      intro i
      induction i with
      | zero => intro _; simp [growUp, addUp]
      | succ i ih =>
        intro hi
        have ih := ih (by omega)
        rw [growUp_succ]
        have h1 := partOf_le pots b (firstN pots m b) (i : Int)
        have h2 := hw.1 i (by omega)
        have h3 := hw.2 i (by omega)
        have h4 := partOf_lt pots b (firstN pots m b) (i : Int)
        have h5 := cnt8 hp h4
        unfold growStep
        unfold addUp
        rw [h5]
        split
        · simp only; omega
        · split
          · simp only; omega
          · rename_i c0 c1
            simp only
            have hl2 : 1 ≤ looks pots m (partOf pots b (firstN pots m b) (i : Int)) := by
              rcases looks_pos pots m (partOf pots b (firstN pots m b) (i : Int)) (by omega) with h | h <;> omega
            have := (growF_len hp N (partOf pots b (firstN pots m b) (i : Int)) (growUp pots m t b i).1 (by omega) h4 hl2).1
            omega
    refine ⟨?_, up⟩
    rw [growF_eq hl, List.length_set]
    have h5 := up 5 (by omega)
    have h6 := addUp_all hb hc hw.1
    omega

theorem growUp_next {pots : List (List Int)} {m : Nat} (t : List Look) (b : Nat) : ∀ i, (growUp pots m t b i).2.length = i
  | 0 => rfl
  | i + 1 => by
    rw [growUp_succ]
    have := growUp_next t b i (pots := pots) (m := m)
    unfold growStep
    split
    · simp [this]
    · split
      · simp [this]
      · simp [this]

theorem k77 (n : Nat) (hG : Good Try.prog (envOf [(69, mkC [v69]), (70, mkC [v70]), (94, mkC [v94]), (84, mkC [v84]), (60, mkC [v60]), (77, mkC [v77n n])])) : (v77.below m77 (n + 1)).Kept Try.prog 77 := by
  rintro ⟨m, pots, q, t, bits, ⟨⟩⟩ hpre k hk
  change List (Int × List Int) at t
  change List (List Int) at pots
  change Int at m bits
  refine aspec hmix hG Try.func77 tx77 (Eq.mpr (eq77 m pots q t bits n k) ?_)
  replace hk : br (lowLooks m pots bits) (k (.imm tyT t false) []) (k (.reg 0 false) [.sl tyT (growI m pots t bits)]) := hk
  obtain ⟨⟨hf, hq, hlen, ⟨h1, h2⟩, hl0⟩, hn⟩ := hpre
  have hf : checkShelf m pots = 0 := hf
  have hq : q = memoP (looksI m pots) := hq
  have h1 : 0 ≤ bits := h1
  have h2 : bits < ((2 ^ pots.length : Nat) : Int) := h2
  have hn : bits.toNat < n + 1 := hn
  have hlen : t.length + cnt bits.toNat 8 ≤ 30 := hlen
  obtain ⟨f1, f2, f3, f4⟩ := fine_spec hf
  obtain ⟨b, rfl⟩ := Int.eq_ofNat_of_zero_le h1
  obtain ⟨mm, rfl⟩ := Int.eq_ofNat_of_zero_le (show 0 ≤ m by omega)
  have hl : looksI (mm : Int) pots (b : Int) = looks pots mm b := rfl
  have hl0 : 0 ≤ looks pots mm b := hl0
  have hb : b < 2 ^ pots.length := by omega
  have hp8 : 2 ^ pots.length ≤ 2 ^ 8 := Nat.pow_le_pow_right (by omega) (by omega)
  have h256 : (2 : Nat) ^ 8 = 256 := by decide
  simp only [Int.toNat_natCast] at hn hlen
  rw [cnt8 (by omega) hb] at hlen
  unfold lowLooks at hk
  rw [hl, br_decide] at hk
  unfold vc77
  rw [hl, br_decide]
  refine ⟨⟨hf, hq, h1, h2⟩, fun h => hk.1 h, fun h => ?_⟩
  have hk := hk.2 h
  have hg : growI (mm : Int) pots t (b : Int) = growF pots mm b t b := rfl
  have hlk : 1 ≤ looks pots mm b := by omega
  rw [hg, growF_eq hlk] at hk
  have hs := firstN_spec hlk
  have hw := worst_nonneg hs.2.1
  have hc := looks_cnt hlk
  have hj : firstI (mm : Int) pots (b : Int) = ((firstN pots mm b : Nat) : Int) := rfl
  have hgl := (growF_len (m := mm) (by omega : pots.length ≤ 8) (b + 1) b t (by omega) hb hlk).2
  have hgr := growF_len (m := mm) (by omega : pots.length ≤ 8)
  rw [hj]
  generalize hjj : firstN pots mm b = j at hk hs hw hgl
  have hj6 : (j : Int) < (mm : Int) := by omega
  refine ⟨⟨hf, hq, h1, h2⟩, ⟨by omega, by omega, rfl⟩, ?_, by simp, trivial, ?_⟩
  · rw [List.length_take]
    simp [big]; omega
  have htk : List.take (Int.toNat ((List.length t : Nat) : Int)) t = t := by rw [Int.toNat_natCast]; exact List.take_length
  rw [htk]
  refine Loop.upto (fun i => ((mm : Int), pots, q, (b : Int), (j : Int), (i : Int), ((t.length : Nat) : Int), (mm : Int), pots, q, (b : Int), (j : Int), (mm : Int), pots, q, (j : Int), (growUp pots mm t b i).1, (growUp pots mm t b i).2, ())) (fun i => True) 5 (by simp only [growUp, hjj]; rfl) trivial ?_ ?_
  · intro i K hi _ hK
    have hK := hK trivial
    dsimp only
    rw [br_decide]
    have hplt := partOf_lt pots b j (i : Int)
    have hple := partOf_le pots b j (i : Int)
    have hpne := hw.1 i hi
    have hp0 := hw.2 i hi
    have hnl := growUp_next (pots := pots) (m := mm) t b i
    have hul : (growUp pots mm t b i).1.length ≤ t.length + 1 + addUp pots b j i := hgl i (by omega)
    have hsi := addUp_room hb hi hpne
    refine ⟨fun _ => ⟨⟨hf, ⟨h1, h2⟩, by show (0 : Int) ≤ (j : Int); omega, hj6⟩, ⟨by show (0 : Int) ≤ ((partOf pots b j (i : Int) : Nat) : Int); omega, by show ((partOf pots b j (i : Int) : Nat) : Int) < 4611686018427387904; omega⟩, ?_⟩, fun h => absurd hi (by omega)⟩
    rw [growUp_succ, hjj] at hK
    simp only [Int.toNat_natCast, br_beq]
    have hc8 : (listed (partOf pots b j (i : Int)) 8).length = cnt (partOf pots b j (i : Int)) 8 := rfl
    have hp8' := cnt8 (by omega : pots.length ≤ 8) hplt
    unfold growStep at hK
    refine ⟨fun h3 => ?_, fun h3 => ⟨fun h4 => ?_, fun h4 => ?_⟩⟩
    · rw [if_pos (by omega)] at hK
      refine ⟨by rw [hnl]; simp [big]; omega, fits64 (by omega) (by omega), hK⟩
    · rw [if_neg (by omega), if_pos (by omega)] at hK
      have hl1 : (listed (partOf pots b j (i : Int)) 8).length = 1 := by omega
      obtain ⟨x, hx⟩ := List.length_eq_one_iff.1 hl1
      have hxm := mem_listed (b := partOf pots b j (i : Int)) (n := 8) (x := x) (by rw [hx]; simp)
      obtain ⟨y, hy, hy8, _⟩ := hxm
      rw [hx] at hK
      refine ⟨⟨by omega, by show 0 < _; omega⟩, by show 0 < _; omega, ?_⟩
      have h0 : (Int.toNat (0 : Int)) = 0 := rfl
      simp only [h0, hx, List.getElem_cons_zero]
      refine ⟨fits64 (by omega) (by omega), by rw [hnl]; simp [big]; omega, fits64 (by omega) (by omega), hK⟩
    · rw [if_neg (by omega), if_neg (by omega)] at hK
      refine ⟨by rw [hnl]; simp [big]; omega, ⟨⟨hf, hq, ?_, ⟨by show (0 : Int) ≤ ((partOf pots b j (i : Int) : Nat) : Int); omega, by show ((partOf pots b j (i : Int) : Nat) : Int) < ((2 ^ pots.length : Nat) : Int); omega⟩, ?_⟩, ?_⟩, fits64 (by omega) (by omega), hK⟩
      · show (growUp pots mm t b i).1.length + cnt (partOf pots b j (i : Int)) 8 ≤ 30
        have a1 : List.length (α := Look) t + cnt b pots.length ≤ 30 := hlen
        have a2 : (growUp pots mm t b i).1.length ≤ List.length (α := Look) t + 1 + addUp pots b j i := hul
        omega
      · show 1 ≤ looks pots mm (partOf pots b j (i : Int))
        rcases looks_pos pots mm (partOf pots b j (i : Int)) (by omega) with h | h <;> omega
      · show partOf pots b j (i : Int) < n
        omega
  · intro K _
    dsimp only
    rw [br_decide]
    refine ⟨fun h => absurd h (by omega), fun _ => ?_⟩
    have h5 := growUp_gt pots mm t b 5
    simp only [Int.toNat_natCast]
    exact ⟨⟨by omega, h5⟩, h5, hk⟩
end Go.Abs.King
end

section
/- The king's functions keep their contracts: trees that are checked. -/
open Go.Proofs
set_option maxRecDepth 100000
set_option linter.unusedVariables false
namespace Go.Abs.King

/-- What is so of numbers of a tree that are right. -/
structure RightT (m : Int) (pots : List (List Int)) (t : List Look) : Prop where
  len : t.length ≤ pots.length
  mark : ∀ i, i < t.length → 0 ≤ (lookAt t i).1 ∧ (lookAt t i).1 < m
  ok : okTree t
  low : ∀ i, i < t.length → ∀ n ∈ (lookAt t i).2, -1 - (pots.length : Int) ≤ n
  count : ∀ i : Nat, 0 < i → i < t.length → (allNext t).count (i : Int) = 1

theorem treeErr_ok {m : Int} {pots : List (List Int)} {t : List Look} (h : treeErr m pots t = 0) : RightT m pots t := by
  unfold treeErr at h
  by_cases h1 : pots.length < t.length
  · rw [if_pos h1] at h; omega
  rw [if_neg h1] at h
  by_cases h2 : t.any (strayL m) = true
  · rw [if_pos h2] at h; omega
  rw [if_neg h2] at h
  by_cases h3 : t.any notFive = true
  · rw [if_pos h3] at h; omega
  rw [if_neg h3] at h
  by_cases h4 : badNext t pots.length = true
  · rw [if_pos h4] at h; omega
  rw [if_neg h4] at h
  by_cases h5 : badCount t = true
  · rw [if_pos h5] at h; omega
  have g2 : ∀ i, i < t.length → 0 ≤ (lookAt t i).1 ∧ (lookAt t i).1 < m := by
    intro i hi
    rw [lookAt_eq hi]
    have : strayL m t[i] ≠ true := fun hh => h2 (List.any_eq_true.2 ⟨_, List.getElem_mem hi, hh⟩)
    have h6 : ¬ (t[i].1 < 0 ∨ m ≤ t[i].1) := fun hh => this (decide_eq_true hh)
    omega
  have g3 : ∀ i, i < t.length → (lookAt t i).2.length = 5 := by
    intro i hi
    rw [lookAt_eq hi]
    have : notFive t[i] ≠ true := fun hh => h3 (List.any_eq_true.2 ⟨_, List.getElem_mem hi, hh⟩)
    have h6 : ¬ ((t[i].2.length : Int) ≠ 5) := fun hh => this (decide_eq_true hh)
    omega
  have g4 : ∀ i, i < t.length → ∀ n ∈ (lookAt t i).2, ¬ ((t.length : Int) ≤ n ∨ (0 ≤ n ∧ n ≤ (i : Int)) ∨ n < -1 - (pots.length : Int)) := by
    intro i hi n hn hh
    exact h4 (any_range_true hi (List.any_eq_true.2 ⟨n, hn, decide_eq_true hh⟩))
  refine ⟨by omega, g2, fun i hi => ⟨g3 i hi, fun n hn => ?_⟩, fun i hi n hn => ?_, fun i h0 hi => ?_⟩
  · have := g4 i hi n hn; omega
  · have := g4 i hi n hn; omega
  · by_cases hc : (allNext t).count (i : Int) = 1
    · exact hc
    · exact absurd (any_range_true hi (by rw [decide_eq_true h0, decide_eq_true hc]; rfl)) h5

theorem walkT_neg (t : List Look) (p : List Int) : ∀ (f : Nat) (i : Int), i < 0 → walkT t p f i = i
  | 0, _, _ => rfl
  | f + 1, i, h => by unfold walkT; rw [if_pos h]
theorem walkT_snoc (t : List Look) (p : List Int) : ∀ (c : Nat) (i : Int), walkT t p (c + 1) i = if walkT t p c i < 0 then walkT t p c i else stepT t p (walkT t p c i).toNat
  | 0, i => rfl
  | c + 1, i => by
    have e1 : walkT t p (c + 1 + 1) i = if i < 0 then i else walkT t p (c + 1) (stepT t p i.toNat) := by rw [walkT]
    have e2 : walkT t p (c + 1) i = if i < 0 then i else walkT t p c (stepT t p i.toNat) := by rw [walkT]
    rw [e1, e2]
    by_cases h : i < 0
    · rw [if_pos h, if_pos h, if_pos h]
    · rw [if_neg h, if_neg h]
      exact walkT_snoc t p c _
theorem walkT_stay (t : List Look) (p : List Int) (c : Nat) (i : Int) (h : walkT t p c i < 0) : ∀ d, walkT t p (c + d) i = walkT t p c i
  | 0 => rfl
  | d + 1 => by
    have := walkT_stay t p c i h d
    rw [← Nat.add_assoc, walkT_snoc, this, if_pos h]

theorem step_mem {m : Int} {pots : List (List Int)} {t : List Look} (hr : RightT m pots t) {p : List Int} (hp : (p.length : Int) = m) (hv : ∀ x ∈ p, 0 ≤ x ∧ x ≤ 4) {i : Nat} (hi : i < t.length) :
    ∃ (h1 : (t[i].1).toNat < p.length) (h2 : (p[(t[i].1).toNat]).toNat < t[i].2.length), 0 ≤ t[i].1 ∧ 0 ≤ p[(t[i].1).toNat] ∧ stepT t p i = t[i].2[(p[(t[i].1).toNat]).toNat] ∧ stepT t p i < (t.length : Int) ∧ (0 ≤ stepT t p i → (i : Int) < stepT t p i) ∧ -1 - (pots.length : Int) ≤ stepT t p i := by
  have a1 := hr.mark i hi
  have a2 := hr.ok i hi
  have a3 := hr.low i hi
  have hla := lookAt_eq hi
  have hst : stepT t p i = (lookAt t i).2.getD (p.getD (lookAt t i).1.toNat 0).toNat 0 := rfl
  rw [hla] at a1 a2 a3 hst
  have b1 : (t[i].1).toNat < p.length := by omega
  have b2 := hv _ (List.getElem_mem b1)
  rw [getD_lt _ _ b1] at hst
  have b3 : (p[(t[i].1).toNat]).toNat < t[i].2.length := by rw [a2.1]; omega
  rw [getD_lt _ _ b3] at hst
  have b4 := a2.2 _ (List.getElem_mem b3)
  have b5 := a3 _ (List.getElem_mem b3)
  rw [← hst] at b4 b5
  exact ⟨b1, b3, a1.1, b2.1, hst, b4.1, b4.2, b5⟩

theorem walk_room {m : Int} {pots : List (List Int)} {t : List Look} (hr : RightT m pots t) {p : List Int} (hp : (p.length : Int) = m) (hv : ∀ x ∈ p, 0 ≤ x ∧ x ≤ 4) (h0 : 0 < t.length) : ∀ c, walkT t p c 0 < (t.length : Int) ∧ (0 ≤ walkT t p c 0 → (c : Int) ≤ walkT t p c 0) ∧ -1 - (pots.length : Int) ≤ walkT t p c 0
  | 0 => ⟨by show (0 : Int) < _; omega, fun _ => by show ((0 : Nat) : Int) ≤ 0; omega, by show -1 - (pots.length : Int) ≤ 0; omega⟩
  | c + 1 => by
    obtain ⟨i1, i2, i3⟩ := walk_room hr hp hv h0 c
    rw [walkT_snoc]
    by_cases h : walkT t p c 0 < 0
    · rw [if_pos h]; exact ⟨i1, by omega, i3⟩
    · rw [if_neg h]
      have hi : (walkT t p c 0).toNat < t.length := by omega
      obtain ⟨_, _, _, _, _, s1, s2, s3⟩ := step_mem hr hp hv hi
      exact ⟨s1, fun h5 => by have := s2 h5; omega, s3⟩
theorem ends_neg {m : Int} {pots : List (List Int)} {t : List Look} (hr : RightT m pots t) {p : List Int} (hp : (p.length : Int) = m) (hv : ∀ x ∈ p, 0 ≤ x ∧ x ≤ 4) (h0 : 0 < t.length) : endsAt t p < 0 ∧ -1 - (pots.length : Int) ≤ endsAt t p := by
  obtain ⟨i1, i2, i3⟩ := walk_room hr hp hv h0 t.length
  unfold endsAt
  omega
theorem ends_at {t : List Look} {p : List Int} {c : Nat} (hc : c ≤ t.length) (h : walkT t p c 0 < 0) : endsAt t p = walkT t p c 0 := by
  have := walkT_stay t p c 0 h (t.length - c)
  unfold endsAt
  rw [← this]
  congr 1
  omega

theorem k74 (hG : Good Try.prog (envOf [])) : v74.Kept Try.prog 74 := by
  rintro ⟨m, pots, t, pot, ⟨⟩⟩ hpre k hk
  change List (Int × List Int) at t
  change List (List Int) at pots
  change Int at m pot
  refine aspec hmix hG Try.func74 tx74 (Eq.mpr (eq74 m pots t pot k) ?_)
  replace hk : k (rI (toldI pots t pot)) [] := hk
  obtain ⟨hf, hs, he, h0, h1, h2⟩ := hpre
  replace hf : checkShelf m pots = 0 := hf
  have hs1 : t.length ≤ 14 := hs.1
  replace he : treeErr m pots t = 0 := he
  replace h0 : 0 < t.length := h0
  replace h1 : 0 ≤ pot := h1
  replace h2 : pot < (pots.length : Int) := h2
  obtain ⟨f1, f2, f3, f4⟩ := fine_spec hf
  obtain ⟨i, rfl⟩ := Int.eq_ofNat_of_zero_le h1
  have hi : i < pots.length := by omega
  have hr := treeErr_ok he
  have hp := f3 _ (List.getElem_mem hi)
  have hv := f4 _ (List.getElem_mem hi)
  have hg : pots.getD i [] = pots[i] := by rw [List.getD_eq_getElem?_getD, List.getElem?_eq_getElem hi]; rfl
  have ht : toldI pots t (i : Int) = if endsAt t pots[i] < 0 then -2 - endsAt t pots[i] else -1 := by
    show toldT pots t i = _
    unfold toldT
    rw [hg]
  rw [ht] at hk
  unfold vc74
  refine Loop.upto (fun c => (t, (i : Int), walkT t pots[i] c 0, (c : Int), m, pots, ())) (fun c => 0 ≤ walkT t pots[i] c 0) t.length rfl (Int.le_refl _) ?_ ?_
  · intro c K hc hp0 hK
    dsimp only
    rw [br_decide]
    obtain ⟨i1, i2, i3⟩ := walk_room hr hp hv h0 c
    have hw := walkT_snoc t pots[i] c 0
    rw [if_neg (by omega)] at hw
    obtain ⟨a, ha⟩ := Int.eq_ofNat_of_zero_le hp0
    have hal : a < t.length := by omega
    rw [ha, Int.toNat_natCast] at hw
    rw [ha]
    obtain ⟨s1, s2, s3, s4, s5, s6, s7, s8⟩ := step_mem hr hp hv hal
    rw [s5] at hw s6 s7 s8
    refine ⟨fun _ => ⟨⟨by omega, by omega⟩, ⟨h1, by omega⟩, ⟨by omega, by omega⟩, ⟨s3, s1⟩, ⟨s4, s2⟩, ?_⟩, fun h => absurd hc (by omega)⟩
    simp only [Int.toNat_natCast]
    rw [br_decide]
    refine ⟨fun h5 => ?_, fun h5 => ?_⟩
    · have hn : walkT t pots[i] (c + 1) 0 < 0 := by rw [hw]; exact h5
      rw [ends_at (by omega) hn, if_pos hn, hw] at hk
      exact ⟨fits64 (by omega) (by omega), hk⟩
    · rw [hw] at hK
      exact ⟨fits64 (by omega) (by omega), hK (by omega)⟩
  · intro K hp0
    dsimp only
    rw [br_decide]
    refine ⟨fun h => absurd h (by omega), fun _ => ?_⟩
    rw [if_neg (by unfold endsAt; omega)] at hk
    exact hk

theorem k73 (hG : Good Try.prog (envOf [])) : v73.Kept Try.prog 73 := by
  rintro ⟨m, pots, t, ⟨⟩⟩ hpre k hk
  change List (Int × List Int) at t
  change List (List Int) at pots
  change Int at m
  refine aspec hmix hG Try.func73 tx73 (Eq.mpr (eq73 m pots t k) ?_)
  replace hk : k (rI (treeErr m pots t)) [] := hk
  obtain ⟨hf, hs⟩ := hpre
  replace hf : checkShelf m pots = 0 := hf
  have hs1 : t.length ≤ 14 := hs.1
  have hs2 : ∀ l ∈ t, l.2.length ≤ 12 := hs.2
  obtain ⟨f1, f2, f3, f4⟩ := fine_spec hf
  unfold treeErr at hk
  unfold vc73
  rw [br_decide]
  refine ⟨fun h1 => ?_, fun h1 => ?_⟩
  · rw [if_pos (by omega)] at hk; exact hk
  rw [if_neg (by omega)] at hk
  refine Loop.upto (fun i => (t, (i : Int), m, pots, ())) (fun i => ∀ x ∈ t.take i, strayL m x = false) t.length rfl (by simp) ?_ ?_
  · intro i K hi hp hK
    dsimp only
    rw [br_decide]
    refine ⟨fun _ => ⟨⟨by omega, by omega⟩, ?_⟩, fun h => absurd hi (by omega)⟩
    simp only [Int.toNat_natCast]
    have hstray : strayL m t[i] = true → k (rI 3) [] := fun h => by
      rw [if_pos (List.any_eq_true.2 ⟨_, List.getElem_mem hi, h⟩)] at hk; exact hk
    rw [br_false]
    refine ⟨fun h2 => ⟨⟨by omega, by omega⟩, ?_⟩, fun h2 => hstray (decide_eq_true (Or.inl h2))⟩
    rw [br_decide]
    exact ⟨fun h3 => hstray (decide_eq_true (Or.inr h3)), fun h3 => ⟨fits64 (by omega) (by omega), hK (take_all_succ _ _ _ hi hp (decide_eq_false (by omega)))⟩⟩
  intro K hp
  dsimp only
  rw [br_decide]
  refine ⟨fun h => absurd h (by omega), fun _ => ?_⟩
  rw [List.take_length] at hp
  have hno : t.any (strayL m) = false := List.any_eq_false.2 (fun x hx => by rw [hp x hx]; simp)
  rw [if_neg (by rw [hno]; simp)] at hk
  refine Loop.upto (fun i => (t, (i : Int), m, pots, ())) (fun i => ∀ x ∈ t.take i, notFive x = false) t.length rfl (by simp) ?_ ?_
  · intro i K hi hp hK
    dsimp only
    rw [br_decide]
    refine ⟨fun _ => ⟨⟨by omega, by omega⟩, ?_⟩, fun h => absurd hi (by omega)⟩
    simp only [Int.toNat_natCast]
    rw [br_bne]
    refine ⟨fun h2 => ?_, fun h2 => ⟨fits64 (by omega) (by omega), hK (take_all_succ _ _ _ hi hp (decide_eq_false (by omega)))⟩⟩
    rw [if_pos (List.any_eq_true.2 ⟨_, List.getElem_mem hi, decide_eq_true h2⟩)] at hk; exact hk
  intro K2 hp2
  dsimp only
  rw [br_decide]
  refine ⟨fun h => absurd h (by omega), fun _ => ?_⟩
  rw [List.take_length] at hp2
  have hno2 : t.any notFive = false := List.any_eq_false.2 (fun x hx => by rw [hp2 x hx]; simp)
  rw [if_neg (by rw [hno2]; simp)] at hk
  have h5 : ∀ (i : Nat) (hi : i < t.length), t[i].2.length = 5 := by
    intro i hi
    have := of_decide_eq_false (hp2 _ (List.getElem_mem hi))
    omega
  refine ⟨fits64 (by omega) (by omega), ⟨by omega, rfl, by simp [big]; omega⟩, ?_⟩
  have hN : (((t.length : Nat) : Int) + 1).toNat = t.length + 1 := rfl
  rw [hN]
  refine Loop.upto (fun i => (t, (i : Int), m, pots, manyOf (t.length + 1) ((t.take i).flatMap (fun l => l.2)), ())) (fun i => ∀ i', i' < i → (lookAt t i').2.any (badNum t.length i' pots.length) = false) t.length (by simp only [List.take_zero, List.flatMap_nil, manyOf_nil]; rfl) (fun i' h => by omega) ?_ ?_
  · intro i K hi hp hK
    dsimp only
    rw [br_decide]
    refine ⟨fun _ => ?_, fun h => absurd hi (by omega)⟩
    have hle := h5 i hi
    have hla := lookAt_eq hi
    refine Loop.upto (fun c => (t, (i : Int), (c : Int), m, pots, manyOf (t.length + 1) ((t.take i).flatMap (fun l => l.2) ++ t[i].2.take c), ())) (fun c => ∀ y ∈ t[i].2.take c, badNum t.length i pots.length y = false) 5 (by simp only [List.take_zero, List.append_nil]; rfl) (by simp) ?_ ?_
    · intro c K2 hc hp2 hK2
      dsimp only
      have hc' : c < t[i].2.length := by omega
      rw [br_decide]
      refine ⟨fun _ => ⟨⟨by omega, by omega⟩, ⟨by omega, by simpa using hc'⟩, ?_⟩, fun h => absurd hc (by omega)⟩
      simp only [Int.toNat_natCast]
      rw [List.take_succ_eq_append_getElem hc', ← List.append_assoc] at hK2
      have hmem : t[i].2[c] ∈ t[i].2 := List.getElem_mem hc'
      obtain ⟨x, hx⟩ : ∃ x : Int, t[i].2[c] = x := ⟨_, rfl⟩
      simp only [hx] at hK2 hmem ⊢
      have hbad : badNum t.length i pots.length x = true → k (rI 2) [] := by
        intro hb
        have hany : badNext t pots.length = true := by
          unfold badNext
          exact any_range_true hi (by rw [hla]; exact List.any_eq_true.2 ⟨x, hmem, hb⟩)
        rw [if_pos hany] at hk; exact hk
      have hbad' : ((t.length : Int) ≤ x ∨ (0 ≤ x ∧ x ≤ (i : Int)) ∨ x < -1 - (pots.length : Int)) → k (rI 2) [] := fun h => hbad (decide_eq_true h)
      have hok : ¬ ((t.length : Int) ≤ x ∨ (0 ≤ x ∧ x ≤ (i : Int)) ∨ x < -1 - (pots.length : Int)) → ∀ y ∈ t[i].2.take c ++ [x], badNum t.length i pots.length y = false := by
        intro h y hy
        rcases List.mem_append.1 hy with hy | hy
        · exact hp2 y hy
        · simp only [List.mem_singleton] at hy; rw [hy]; exact decide_eq_false h
      have hset : ∀ w : Nat, x = (w : Int) → w < t.length → ∃ h : w < (manyOf (t.length + 1) ((t.take i).flatMap (fun l => l.2) ++ t[i].2.take c)).length, fitsK .i64 ((manyOf (t.length + 1) ((t.take i).flatMap (fun l => l.2) ++ t[i].2.take c))[w] + 1) ∧ manyOf (t.length + 1) ((t.take i).flatMap (fun l => l.2) ++ t[i].2.take c ++ [x]) = (manyOf (t.length + 1) ((t.take i).flatMap (fun l => l.2) ++ t[i].2.take c)).set w ((manyOf (t.length + 1) ((t.take i).flatMap (fun l => l.2) ++ t[i].2.take c))[w] + 1) := by
        intro w hw hwl
        have hlen := manyOf_len (t.length + 1) ((t.take i).flatMap (fun l => l.2) ++ t[i].2.take c)
        have hwm : w < (manyOf (t.length + 1) ((t.take i).flatMap (fun l => l.2) ++ t[i].2.take c)).length := by rw [hlen]; omega
        have hcl : ((t.take i).flatMap (fun l => l.2) ++ t[i].2.take c).count (w : Int) ≤ 200 := by
          refine Nat.le_trans List.count_le_length ?_
          rw [List.length_append, List.length_take]
          have : ∀ (s : List Look), (∀ l ∈ s, l.2.length ≤ 12) → (s.map (fun l => l.2.length)).sum ≤ s.length * 12 := by
            intro s
            induction s with
            | nil => simp
            | cons a s ih =>
              intro hs
              simp only [List.map_cons, List.sum_cons, List.length_cons]
              have h1 := hs a (by simp)
              have h2 := ih (fun l hl => hs l (List.mem_cons_of_mem _ hl))
              omega
          have h8 := this (t.take i) (fun l hl => hs2 l (List.mem_of_mem_take hl))
          have h9 : ((t.take i).flatMap (fun l => l.2)).length ≤ (t.take i).length * 12 := by rw [List.length_flatMap]; exact h8
          have h10 : (t.take i).length ≤ t.length := by rw [List.length_take]; omega
          omega
        have hg := manyOf_get (t.length + 1) ((t.take i).flatMap (fun l => l.2) ++ t[i].2.take c) w hwm
        rw [hw, manyOf_snoc _ _ _ hwm]
        exact ⟨hwm, fits64 (by rw [hg]; omega) (by rw [hg]; omega), rfl⟩
      rw [br_false]
      refine ⟨fun h6 => ?_, fun h6 => hbad' (Or.inl h6)⟩
      rw [br_true, br_false]
      refine ⟨fun h7 => ⟨fun h8 => ⟨fits64 (by omega) (by omega), ?_⟩, fun h8 => hbad' (Or.inr (Or.inl ⟨h7, h8⟩))⟩, fun h7 => ⟨fits64 (by omega) (by omega), ?_⟩⟩
      · rw [br_decide, br_decide]
        refine ⟨fun h9 => by omega, fun h9 => ⟨fun _ => ?_, fun h => absurd h7 h⟩⟩
        obtain ⟨w, rfl⟩ := Int.eq_ofNat_of_zero_le h7
        obtain ⟨g1, g2, g3⟩ := hset w rfl (by omega)
        rw [g3] at hK2
        simp only [Int.toNat_natCast]
        exact ⟨⟨h7, g1⟩, g1, g2, ⟨h7, g1⟩, g1, fits64 (by omega) (by omega), hK2 (hok (by omega))⟩
      · rw [br_decide, br_decide]
        refine ⟨fun h9 => hbad' (Or.inr (Or.inr h9)), fun h9 => ⟨fun h => absurd h h7, fun _ => ⟨fits64 (by omega) (by omega), ?_⟩⟩⟩
        rw [manyOf_neg _ _ _ (by omega)] at hK2
        exact hK2 (hok (by omega))
    · intro K2 hp2
      dsimp only
      rw [br_decide]
      rw [List.take_of_length_le (show t[i].2.length ≤ 5 by omega)] at hp2 ⊢
      refine ⟨fun h => absurd h (by omega), fun _ => ⟨fits64 (by omega) (by omega), ?_⟩⟩
      rw [flat_take t i hi] at hK
      refine hK ?_
      intro i' hi'
      rcases Nat.lt_or_ge i' i with h' | h'
      · exact hp i' h'
      · obtain rfl : i' = i := by omega
        rw [hla, List.any_eq_false]
        intro y hy
        rw [hp2 y hy]; simp
  · intro K hp
    dsimp only
    rw [br_decide]
    refine ⟨fun h => absurd h (by omega), fun _ => ?_⟩
    have hnb : ¬ badNext t pots.length = true := by
      unfold badNext
      rw [any_range_false hp]; simp
    rw [if_neg hnb] at hk
    rw [List.take_length]
    have hall : t.flatMap (fun l => l.2) = allNext t := rfl
    rw [hall]
    refine Loop.upto (fun i => (t, ((i + 1 : Nat) : Int), manyOf (t.length + 1) (allNext t), ())) (fun i => ∀ i', i' < i + 1 → (decide (0 < i') && decide ((allNext t).count (i' : Int) ≠ 1)) = false) (t.length - 1) rfl (fun i' h => by rw [decide_eq_false (by omega), Bool.false_and]) ?_ ?_
    · intro i K2 hi hp2 hK2
      dsimp only
      have hlen := manyOf_len (t.length + 1) (allNext t)
      have hg := manyOf_get (t.length + 1) (allNext t) (i + 1) (by omega)
      rw [br_decide]
      simp only [Int.toNat_natCast]
      refine ⟨fun _ => ⟨⟨by omega, by omega⟩, by omega, ?_⟩, fun h => absurd hi (by omega)⟩
      rw [hg, br_bne]
      refine ⟨fun h6 => ?_, fun h6 => ⟨fits64 (by omega) (by omega), hK2 ?_⟩⟩
      · have hb : badCount t = true := by
          unfold badCount
          exact any_range_true (i := i + 1) (by omega) (by rw [decide_eq_true (by omega : 0 < i + 1), decide_eq_true (by omega : (allNext t).count ((i + 1 : Nat) : Int) ≠ 1)]; rfl)
        rw [if_pos hb] at hk; exact hk
      · intro i' hi'
        rcases Nat.lt_or_ge i' (i + 1) with h' | h'
        · exact hp2 i' h'
        · obtain rfl : i' = i + 1 := by omega
          rw [decide_eq_false (by omega : ¬ (allNext t).count ((i + 1 : Nat) : Int) ≠ 1), Bool.and_false]
    · intro K2 hp2
      dsimp only
      rw [br_decide]
      refine ⟨fun h => absurd h (by omega), fun _ => ?_⟩
      have hb : ¬ badCount t = true := by
        unfold badCount
        rw [any_range_false (fun i' hi' => hp2 i' (by omega))]; simp
      rw [if_neg hb] at hk; exact hk
end Go.Abs.King
end

section
/- The king's functions keep their contracts: trees, CheckTree and Tree. -/
open Go.Proofs
set_option maxRecDepth 100000
set_option linter.unusedVariables false
namespace Go.Abs.King

theorem getP {pots : List (List Int)} {i : Nat} (hi : i < pots.length) : pots.getD i [] = pots[i] := by rw [List.getD_eq_getElem?_getD, List.getElem?_eq_getElem hi]; rfl

theorem k36 (hG : Good Try.prog (envOf [(23, mkC [v23]), (73, mkC [v73]), (74, mkC [v74]), (75, mkC [v75])])) : v36.Kept Try.prog 36 := by
  rintro ⟨m, pots, t, ⟨⟩⟩ hpre k hk
  change List (Int × List Int) at t
  change List (List Int) at pots
  change Int at m
  refine aspec hmix hG Try.func36 tx36 (Eq.mpr (eq36 m pots t k) ?_)
  replace hk : k (.tup [rI (treeN2 m pots t), rI (treeE m pots t)]) [] := hk
  obtain ⟨hp, hs⟩ := hpre
  have hs1 : t.length ≤ 14 := hs.1
  have hp1 : pots.length ≤ 14 := hp.1
  unfold vc36
  rw [br_bne]
  refine ⟨hp1, fun h => ⟨hp1, ?_⟩, fun h => ?_⟩
  · have e : treeE m pots t = checkShelf m pots := by rw [treeE, if_pos h]
    rw [treeN2, if_pos (Or.inl (by rw [e]; exact h)), e] at hk
    exact hk
  obtain ⟨f1, f2, f3, f4⟩ := fine_spec h
  rw [br_bne]
  refine ⟨⟨h, hs⟩, fun h2 => ⟨⟨h, hs⟩, ?_⟩, fun h2 => ?_⟩
  · have e : treeE m pots t = treeErr m pots t := by rw [treeE, if_neg (not_not_intro h), if_pos h2]
    rw [treeN2, if_pos (Or.inl (by rw [e]; exact h2)), e] at hk
    exact hk
  have hE : treeE m pots t = if t.length = 0 then (if pots.length = 1 then 0 else 27) else if noTells pots t then 27 else 0 := by
    rw [treeE, if_neg (not_not_intro h), if_neg (not_not_intro h2)]
  have hr := treeErr_ok h2
  rw [br_beq, br_decide]
  refine ⟨fun h3 => ⟨fun h4 => ?_, fun h4 => ?_⟩, fun h3 => ?_⟩
  · rw [if_pos (by omega), if_neg (by omega)] at hE
    rw [treeN2, hE, if_pos (Or.inl (by omega))] at hk
    exact hk
  · rw [if_pos (by omega), if_pos (by omega)] at hE
    rw [treeN2, hE, if_pos (Or.inr (by omega))] at hk
    exact hk
  rw [if_neg (by omega)] at hE
  have h0 : 0 < t.length := by omega
  have hin : ∀ i : Nat, i < pots.length → (toldI pots t (i : Int) = (i : Int) ↔ endsAt t (pots.getD i []) = -2 - (i : Int)) := by
    intro i hi
    show toldT pots t i = _ ↔ _
    unfold toldT
    split <;> omega
  refine Loop.upto (fun i => (t, (i : Int), m, pots, ())) (fun i => ∀ i', i' < i → decide (endsAt t (pots.getD i' []) ≠ -2 - (i' : Int)) = false) pots.length rfl (fun i' h => by omega) ?_ ?_
  · intro i K hi hp2 hK
    dsimp only
    rw [br_decide]
    have hpi : inPots pots (i : Int) := ⟨by omega, by omega⟩
    refine ⟨fun _ => ⟨⟨h, hs, h2, h0, hpi⟩, ?_⟩, fun h => absurd hi (by omega)⟩
    rw [br_bne]
    refine ⟨fun h4 => ?_, fun h4 => ⟨fits64 (by omega) (by omega), hK ?_⟩⟩
    · have hn : noTells pots t = true := any_range_true hi (decide_eq_true (fun e => h4 ((hin i hi).2 e)))
      rw [if_pos hn] at hE
      rw [treeN2, hE, if_pos (Or.inl (by omega))] at hk
      exact hk
    · intro i' hi'
      rcases Nat.lt_or_ge i' i with h' | h'
      · exact hp2 i' h'
      · obtain rfl : i' = i := by omega
        exact decide_eq_false (not_not_intro ((hin i' hi).1 h4))
  · intro K hp2
    dsimp only
    rw [br_decide]
    refine ⟨fun h => absurd h (by omega), fun _ => ⟨⟨hs, hr.ok, by show (0 : Int) ≤ 0; omega, by show (0 : Int) < (t.length : Int); omega⟩, ?_⟩⟩
    have hn : ¬ noTells pots t = true := by
      unfold noTells
      rw [any_range_false hp2]; simp
    rw [if_neg hn] at hE
    rw [treeN2, hE, if_neg (by omega)] at hk
    exact hk

theorem k37 (hG : Good Try.prog (envOf [(55, mkC [v55]), (76, mkC [v76]), (69, mkC [v69]), (77, mkC [v77])])) : v37.Kept Try.prog 37 := by
  rintro ⟨m, pots, ⟨⟩⟩ hpre k hk
  change List (List Int) at pots
  change Int at m
  refine aspec hmix hG Try.func37 tx37 (Eq.mpr (eq37 m pots k) ?_)
  replace hk : k (.tup [.reg 0 false, rI (madeE m pots)]) [.sl tyT (madeT m pots)] := hk
  have herr : ∀ e : Int, e ≠ 0 → madeE m pots = e → k (.tup [.reg 0 false, rI e]) [.sl tyT []] := by
    intro e he h
    rw [madeT, if_pos (by rw [h]; exact he), h] at hk
    exact hk
  have hcs : ∀ e : Int, e ≠ 0 → checkShelf m pots = e → madeE m pots = e := by
    intro e he h
    rw [madeE, if_pos (by rw [h]; exact he), h]
  unfold vc37
  refine ⟨hpre, errs_br (fun h => ?_) (fun h => herr 6 (by omega) (hcs 6 (by omega) h)) (fun h => herr 15 (by omega) (hcs 15 (by omega) h)) (fun h => herr 3 (by omega) (hcs 3 (by omega) h))⟩
  obtain ⟨f1, f2, f3, f4⟩ := fine_spec h
  have hp1 : 1 ≤ 2 ^ pots.length := Nat.one_le_two_pow
  have hall : 2 ^ pots.length - 1 < 2 ^ pots.length := by omega
  have hib : inBits pots (((2 ^ pots.length - 1 : Nat)) : Int) := ⟨by show (0 : Int) ≤ ((2 ^ pots.length - 1 : Nat) : Int); omega, Int.ofNat_lt.2 hall⟩
  have hl : looksI m pots ((2 ^ pots.length - 1 : Nat) : Int) = looks pots m.toNat (2 ^ pots.length - 1) := rfl
  rw [br_decide]
  refine ⟨h, ⟨h, rfl, hib⟩, fun h2 => ?_, fun h2 => ?_⟩
  · refine herr 27 (by omega) ?_
    have : canTree m pots = false := decide_eq_false (by rw [hl] at h2; omega)
    rw [madeE, if_neg (not_not_intro h), this]; rfl
  have hE : madeE m pots = 0 := by
    have : canTree m pots = true := decide_eq_true (by rw [hl] at h2; omega)
    rw [madeE, if_neg (not_not_intro h), this]; rfl
  rw [madeT, hE, if_neg (by omega)] at hk
  have hcl : cnt (2 ^ pots.length - 1) 8 ≤ 8 := listed_len _ _
  refine ⟨h, ⟨h, rfl, by show ([] : List Look).length + cnt (((2 ^ pots.length - 1 : Nat) : Int)).toNat 8 ≤ 30; simp only [Int.toNat_natCast, List.length_nil]; omega, hib, by show 0 ≤ looksI m pots ((2 ^ pots.length - 1 : Nat) : Int); omega⟩, ?_⟩
  have hcopy : ∀ (l : List Look) (z : Look), List.take (List.replicate (Int.toNat ((l.length : Nat) : Int)) z).length l ++ List.drop l.length (List.replicate (Int.toNat ((l.length : Nat) : Int)) z) = l := by
    intro l z
    rw [Int.toNat_natCast, List.length_replicate, List.take_length, List.drop_of_length_le (by simp), List.append_nil]
  refine br_intro (fun h3 => ?_) (fun h3 => ?_)
  · have h3 := of_decide_eq_true h3
    refine ⟨⟨by simp, rfl, by simp [big]⟩, ?_⟩
    have hg : growI m pots [] ((2 ^ pots.length - 1 : Nat) : Int) = [] := by
      show growF pots m.toNat (2 ^ pots.length - 1) [] (2 ^ pots.length - 1) = []
      generalize hb : 2 ^ pots.length - 1 = b at h3
      cases b with
      | zero => rfl
      | succ f =>
        unfold growF
        have : looks pots m.toNat (f + 1) < 1 := h3
        rw [if_pos this]
    rw [hg] at hk
    exact hk
  · have h3 := of_decide_eq_false h3
    have hlk : 1 ≤ looks pots m.toNat (2 ^ pots.length - 1) := by rw [← hl]; omega
    have hgl := (growF_len (m := m.toNat) (by omega : pots.length ≤ 8) _ _ [] (Nat.lt_succ_self _) hall hlk).1
    have hgi : growI m pots [] ((2 ^ pots.length - 1 : Nat) : Int) = growF pots m.toNat (2 ^ pots.length - 1) [] (2 ^ pots.length - 1) := rfl
    have hlen : (growI m pots [] ((2 ^ pots.length - 1 : Nat) : Int)).length ≤ 8 := by
      rw [hgi]
      have hc := cnt8 (by omega : pots.length ≤ 8) hall
      simp only [List.length_nil] at hgl
      omega
    have hc := hcopy (growI m pots [] ((2 ^ pots.length - 1 : Nat) : Int)) ((Int.ofNat 0), [])
    refine ⟨⟨by omega, rfl, by simp [big]; omega⟩, ?_⟩
    rw [hc]
    exact hk

def farF (i : Nat) (f : List Int) (n : Int) : List Int := if n ≥ 0 then f.set n.toNat (f.getD i 0 + 1) else f
theorem farF_len (i : Nat) : ∀ (l : List Int) (f : List Int), (l.foldl (farF i) f).length = f.length
  | [], _ => rfl
  | x :: l, f => by
    simp only [List.foldl_cons]
    rw [farF_len i l]
    unfold farF
    split
    · simp
    · rfl
theorem farF_bound (i : Nat) : ∀ (l : List Int) (f : List Int) (a : Nat), (∀ x ∈ f, 0 ≤ x ∧ x ≤ (a : Int)) → ∀ x ∈ l.foldl (farF i) f, 0 ≤ x ∧ x ≤ ((a + l.length : Nat) : Int)
  | [], _, _, h, x, hx => h x hx
  | y :: l, f, a, h, x, hx => by
    simp only [List.foldl_cons] at hx
    have := farF_bound i l (farF i f y) (a + 1) (by
      intro z hz
      unfold farF at hz
      split at hz
      · rcases List.mem_or_eq_of_mem_set hz with hz | hz
        · have := h z hz; omega
        · have hg : 0 ≤ f.getD i 0 ∧ f.getD i 0 ≤ (a : Int) := by
            rw [List.getD_eq_getElem?_getD]
            cases hh : f[i]? with
            | none => simp
            | some w => exact h w (List.mem_of_getElem? hh)
          rw [hz]; omega
      · have := h z hz; omega) x hx
    simp only [List.length_cons]
    omega
theorem farUp_succ (t : List Look) (i : Nat) : farUp t (i + 1) = (lookAt t i).2.foldl (farF i) (farUp t i) := by
  unfold farUp
  rw [List.range_succ, List.foldl_append]
  rfl
theorem farUp_len (t : List Look) : ∀ i, (farUp t i).length = t.length
  | 0 => by simp [farUp]
  | i + 1 => by rw [farUp_succ, farF_len, farUp_len t i]
theorem farUp_bound {t : List Look} (h5 : ∀ i, i < t.length → (lookAt t i).2.length = 5) : ∀ i, i ≤ t.length → ∀ x ∈ farUp t i, 0 ≤ x ∧ x ≤ ((5 * i : Nat) : Int)
  | 0, _, x, hx => by
    have : x ∈ List.replicate t.length (0 : Int) := hx
    have := (List.mem_replicate.1 this).2
    omega
  | i + 1, hi, x, hx => by
    rw [farUp_succ] at hx
    have := farF_bound i (lookAt t i).2 (farUp t i) (5 * i) (farUp_bound h5 i (by omega)) x hx
    rw [h5 i (by omega)] at this
    omega
theorem farMost_succ (t : List Look) (i : Nat) : farMost t (i + 1) = max (farMost t i) ((farUp t i).getD i 0) := by
  unfold farMost
  rw [List.range_succ, List.foldl_append]
  rfl
theorem farMost_bound {t : List Look} (h5 : ∀ i, i < t.length → (lookAt t i).2.length = 5) : ∀ i, i ≤ t.length → 0 ≤ farMost t i ∧ farMost t i ≤ ((5 * i : Nat) : Int)
  | 0, _ => ⟨by show (0 : Int) ≤ 0; omega, by show (0 : Int) ≤ _; omega⟩
  | i + 1, hi => by
    have h1 := farMost_bound h5 i (by omega)
    rw [farMost_succ]
    have hl := farUp_len t i
    have h2 := farUp_bound h5 i (by omega) ((farUp t i).getD i 0) (by rw [getD_lt _ _ (by omega)]; exact List.getElem_mem _)
    omega

theorem k35 (hG : Good Try.prog (envOf [(55, mkC [v55]), (72, mkC [v72])])) : v35.Kept Try.prog 35 := by
  rintro ⟨m, pots, t, ⟨⟩⟩ hpre k hk
  change List (Int × List Int) at t
  change List (List Int) at pots
  change Int at m
  refine aspec hmix hG Try.func35 tx35 (Eq.mpr (eq35 m pots t k) ?_)
  replace hk : k (.tup [rI (treeN m pots t), rI (treeE m pots t)]) [] := hk
  obtain ⟨hp, hs⟩ := hpre
  have hs1 : t.length ≤ 14 := hs.1
  have hs2 : ∀ l ∈ t, l.2.length ≤ 12 := hs.2
  have hp1 : pots.length ≤ 14 := hp.1
  have herr : ∀ e : Int, e ≠ 0 → treeE m pots t = e → k (.tup [rI 0, rI e]) [] := by
    intro e he h
    rw [treeN, if_pos (Or.inl (by rw [h]; exact he)), h] at hk
    exact hk
  have hcs : ∀ e : Int, e ≠ 0 → checkShelf m pots = e → treeE m pots t = e := by
    intro e he h
    rw [treeE, if_pos (by rw [h]; exact he), h]
  unfold vc35
  refine ⟨hp, errs_br (fun h => ?_) (fun h => herr 6 (by omega) (hcs 6 (by omega) h)) (fun h => herr 15 (by omega) (hcs 15 (by omega) h)) (fun h => herr 3 (by omega) (hcs 3 (by omega) h))⟩
  obtain ⟨f1, f2, f3, f4⟩ := fine_spec h
  rw [br_bne]
  refine ⟨⟨h, hs⟩, fun h2 => ?_, fun h2 => ?_⟩
  · exact herr _ h2 (by rw [treeE, if_neg (not_not_intro h), if_pos h2])
  have hE : treeE m pots t = if t.length = 0 then (if pots.length = 1 then 0 else 27) else if noTells pots t then 27 else 0 := by
    rw [treeE, if_neg (not_not_intro h), if_neg (not_not_intro h2)]
  have hr := treeErr_ok h2
  rw [br_bt]
  refine ⟨fun h3 => ?_, fun h3 => ?_⟩
  · have h3 : t.length = 0 := by have := eq_of_beq h3; omega
    rw [if_pos h3] at hE
    rw [br_beq, br_beq]
    refine ⟨fun h4 => ?_, fun h4 => ⟨fun _ => ?_, fun h5 => absurd h3 (by omega)⟩⟩
    · rw [if_pos (by omega)] at hE
      rw [treeN, hE, if_pos (Or.inr h3)] at hk
      exact hk
    · rw [if_neg (by omega)] at hE
      exact herr 27 (by omega) hE
  have h3 : t.length ≠ 0 := by
    intro e
    rw [e] at h3
    simp at h3
  have h0 : 0 < t.length := by omega
  rw [if_neg h3] at hE
  rw [br_beq]
  refine ⟨fun h4 => absurd h4 (by omega), fun _ => ?_⟩
  refine Loop.upto (fun i => (t, pots, ((pots.length : Nat) : Int), (i : Int), ())) (fun i => ∀ i', i' < i → decide (endsAt t (pots.getD i' []) ≠ -2 - (i' : Int)) = false) pots.length rfl (fun i' h => by omega) ?_ ?_
  · intro i K hi hp2 hK
    dsimp only
    rw [br_decide]
    refine ⟨fun _ => ⟨⟨by omega, by omega⟩, ?_⟩, fun h => absurd hi (by omega)⟩
    simp only [Int.toNat_natCast]
    have hpl := f3 _ (List.getElem_mem hi)
    have hpv := f4 _ (List.getElem_mem hi)
    have hg := getP hi
    have hfin : fitsK .i64 (-2 - (i : Int)) ∧ br (endsAt t pots[i] != -2 - (i : Int)) (k (.tup [rI 0, rI 27]) []) (fitsK .i64 ((i : Int) + 1) ∧ K (t, pots, ((pots.length : Nat) : Int), (i : Int) + 1, ())) := by
      rw [br_bne]
      refine ⟨fits64 (by omega) (by omega), fun h5 => ?_, fun h5 => ⟨fits64 (by omega) (by omega), hK ?_⟩⟩
      · have hn : noTells pots t = true := any_range_true hi (by rw [hg]; exact decide_eq_true h5)
        rw [if_pos hn] at hE
        exact herr 27 (by omega) hE
      · intro i' hi'
        rcases Nat.lt_or_ge i' i with h' | h'
        · exact hp2 i' h'
        · obtain rfl : i' = i := by omega
          rw [hg]
          exact decide_eq_false (not_not_intro h5)
    refine Loop.upto (fun c => (t, (i : Int), walkT t pots[i] c 0, pots, ((pots.length : Nat) : Int), (i : Int), pots[i], ())) (fun c => True) t.length rfl trivial ?_ ?_
    · intro c K2 hc _ hK2
      have hK2 := hK2 trivial
      dsimp only
      rw [br_decide]
      obtain ⟨i1, i2, i3⟩ := walk_room hr hpl hpv h0 c
      refine ⟨fun h5 => ?_, fun h5 => ?_⟩
      · have hw := walkT_snoc t pots[i] c 0
        rw [if_neg (by omega)] at hw
        obtain ⟨a, ha⟩ := Int.eq_ofNat_of_zero_le h5
        have hal : a < t.length := by omega
        rw [ha, Int.toNat_natCast] at hw
        rw [ha]
        obtain ⟨s1, s2, s3, s4, s5, s6, s7, s8⟩ := step_mem hr hpl hpv hal
        rw [s5] at hw
        rw [hw] at hK2
        exact ⟨⟨by omega, hal⟩, ⟨by omega, hal⟩, ⟨s3, s1⟩, ⟨s4, s2⟩, hK2⟩
      · rw [← ends_at (by omega) (show walkT t pots[i] c 0 < 0 by omega)]
        exact hfin
    · intro K2 _
      dsimp only
      rw [br_decide]
      have he : walkT t pots[i] t.length 0 = endsAt t pots[i] := rfl
      have := (ends_neg hr hpl hpv h0).1
      rw [he]
      exact ⟨fun h5 => absurd h5 (by omega), fun _ => hfin⟩
  · intro K hp2
    dsimp only
    rw [br_decide]
    refine ⟨fun h => absurd h (by omega), fun _ => ⟨⟨by omega, rfl, by simp [big]; omega⟩, ?_⟩⟩
    have hn : ¬ noTells pots t = true := by
      unfold noTells
      rw [any_range_false hp2]; simp
    rw [if_neg hn] at hE
    rw [treeN, hE, if_neg (by omega)] at hk
    have h5 : ∀ i, i < t.length → (lookAt t i).2.length = 5 := fun i hi => (hr.ok i hi).1
    refine Loop.upto (fun i => (farMost t i, t, ((t.length : Nat) : Int), (i : Int), farUp t i, ())) (fun i => True) t.length rfl trivial ?_ ?_
    · intro i K2 hi _ hK2
      have hK2 := hK2 trivial
      have hfl := farUp_len t i
      have hfb := farUp_bound h5 i (by omega)
      have hmb := farMost_bound h5 i (by omega)
      have hok := hr.ok i hi
      have hla := lookAt_eq hi
      rw [farUp_succ, farMost_succ, getD_lt _ _ (by omega)] at hK2
      rw [hla] at hok hK2
      have hok5 : t[i].2.length = 5 := hok.1
      have hokn : ∀ n ∈ t[i].2, n < (t.length : Int) ∧ (0 ≤ n → (i : Int) < n) := hok.2
      have hif : i < (farUp t i).length := by omega
      dsimp only
      rw [br_decide]
      simp only [Int.toNat_natCast]
      refine ⟨fun _ => ⟨⟨by omega, by omega⟩, ⟨by omega, hif⟩, hif, ?_⟩, fun h => absurd hi (by omega)⟩
      have hmax : (ite ((farUp t i)[i] > farMost t i) (farUp t i)[i] (farMost t i)) = max (farMost t i) (farUp t i)[i] := by
        rw [Int.max_def]
        generalize (farUp t i)[i] = y
        generalize farMost t i = z
        split <;> split <;> omega
      rw [hmax]
      generalize max (farMost t i) (farUp t i)[i] = mx at hK2
      refine Loop.upto (fun c => (mx, (i : Int), t, ((t.length : Nat) : Int), (i : Int), t[i].2, ((t[i].2.length : Nat) : Int), (c : Int), (t[i].2.take c).foldl (farF i) (farUp t i), ())) (fun c => True) t[i].2.length rfl trivial ?_ ?_
      · intro c K3 hc _ hK3
        have hK3 := hK3 trivial
        have hfl2 := farF_len i (t[i].2.take c) (farUp t i)
        have hfb2 := farF_bound i (t[i].2.take c) (farUp t i) (5 * i) hfb
        have htl : (t[i].2.take c).length ≤ 5 := by rw [List.length_take]; omega
        rw [List.take_succ_eq_append_getElem hc, List.foldl_append] at hK3
        simp only [List.foldl_cons, List.foldl_nil] at hK3
        generalize (t[i].2.take c).foldl (farF i) (farUp t i) = fr at hfl2 hfb2 hK3
        have hx := hokn _ (List.getElem_mem hc)
        dsimp only
        rw [br_decide]
        simp only [Int.toNat_natCast]
        refine ⟨fun _ => ⟨⟨by omega, hc⟩, ?_⟩, fun h => absurd hc (by omega)⟩
        obtain ⟨x, hxe⟩ : ∃ x : Int, t[i].2[c] = x := ⟨_, rfl⟩
        simp only [hxe] at hx hK3 ⊢
        unfold farF at hK3
        rw [br_decide]
        refine ⟨fun h6 => ?_, fun h6 => ?_⟩
        · rw [if_pos h6, getD_lt _ _ (by omega)] at hK3
          have hb := hfb2 _ (List.getElem_mem (show i < fr.length by omega))
          exact ⟨⟨by omega, by omega⟩, by omega, fits64 (by omega) (by omega), ⟨h6, by omega⟩, by omega, fits64 (by omega) (by omega), hK3⟩
        · rw [if_neg h6] at hK3
          exact ⟨fits64 (by omega) (by omega), hK3⟩
      · intro K3 _
        dsimp only
        rw [br_decide, List.take_length]
        exact ⟨fun h => absurd h (by omega), fun _ => ⟨fits64 (by omega) (by omega), hK2⟩⟩
    · intro K2 _
      dsimp only
      rw [br_decide]
      have hmb := farMost_bound h5 t.length (by omega)
      exact ⟨fun h => absurd h (by omega), fun _ => ⟨fits64 (by omega) (by omega), hk⟩⟩
end Go.Abs.King
end

section
/- The contracts of the king's functions: third part, the statements. -/
namespace Go.Abs.King
abbrev sU8L : VS := .imm (.int .u8) false
abbrev yes : RTree := one (.bool true)
def fineB (m : Int) (pots : List (List Int)) : Bool := !great pots && decide (checkShelf m pots = 0)
def isF (m : Int) (pots : List (List Int)) : Bool := decide (fewE m pots = 0)
abbrev isByte (n : Int) : Prop := 0 ≤ n ∧ n ≤ 255
def v17 : Var := ⟨.nl, fun _ => True, fun _ => yes⟩
def v40 : Var := ⟨.cs sSh .nl, fun _ => True, fun x => one (.bool (fineB x.1 x.2.1))⟩
def v42 : Var := ⟨.cs sSh .nl, fun x => Fine x.1 x.2.1, fun x => .leaf (.tup [.reg 0 false, .bool (isF x.1 x.2.1), .bool true]) [.sl (.slice (.int .i64)) (fewL x.1 x.2.1)]⟩
def v26 : Var := ⟨.cs sSh .nl, fun x => smallS x.2.1, fun x => own2LL (fewL x.1 x.2.1) (fewE x.1 x.2.1)⟩
def v3 : Var := ⟨.cs sSh (.cs sL (.cs sL .nl)), fun _ => True, fun _ => yes⟩
def v4 : Var := ⟨.cs sSh .nl, fun _ => True, fun _ => yes⟩
def v5 : Var := ⟨.cs sSh (.cs sL .nl), fun _ => True, fun _ => yes⟩
def v6 : Var := ⟨.cs sSh (.cs sT .nl), fun _ => True, fun _ => yes⟩
def v7 : Var := ⟨.cs sSh (.cs sU8 .nl), fun x => isByte x.2.2.1, fun _ => yes⟩
def v8 : Var := ⟨.cs sSh (.cs sT .nl), fun _ => True, fun _ => yes⟩
def v9 : Var := ⟨.cs sSh (.cs sU8 (.cs sU8 .nl)), fun x => isByte x.2.2.1 ∧ isByte x.2.2.2.1, fun _ => yes⟩
def v10 : Var := ⟨.cs sSh (.cs sU8 (.cs sU8 (.cs sU8 .nl))), fun x => isByte x.2.2.1 ∧ isByte x.2.2.2.1 ∧ isByte x.2.2.2.2.1, fun _ => yes⟩
def v11 : Var := ⟨.cs sSh (.cs sU8L (.cs sU8L .nl)), fun x => (∀ b ∈ x.2.2.1, isByte b) ∧ ∀ b ∈ x.2.2.2.1, isByte b, fun _ => yes⟩
def v12 : Var := ⟨.cs sSh (.cs sU8 (.cs sU8 (.cs sU8 .nl))), fun x => isByte x.2.2.1 ∧ isByte x.2.2.2.1 ∧ isByte x.2.2.2.2.1, fun _ => yes⟩
def v13 : Var := ⟨.cs sSh (.cs sU8 (.cs sU8 .nl)), fun x => isByte x.2.2.1 ∧ isByte x.2.2.2.1, fun _ => yes⟩
def v14 : Var := ⟨.nl, fun _ => True, fun _ => yes⟩
end Go.Abs.King
end

