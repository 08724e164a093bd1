/- Part 7 of the road to this seat's statements: lemmas about a small interpreter over the model's code, and about the functions that it is used on. No condition of its own. -/
import Derived.Test.YtpeplcbngnedbaaProg
import Derived.ProofKit
import Derived.OpenShut
import Derived.Carry
import Derived.Deep.Slices
import Derived.Test.YtpeplcbngnedbaaW6

section
/- The king's statements: a rival's pot. -/
open Go.Proofs
set_option maxRecDepth 100000
set_option linter.unusedVariables false
namespace Go.Abs.King

theorem fine_mk {m : Nat} {pots : List (List Int)} (h1 : 1 ≤ m ∧ m ≤ 6) (h2 : 1 ≤ pots.length ∧ pots.length ≤ 8) (h3 : ∀ p ∈ pots, p.length = m) (h4 : ∀ p ∈ pots, ∀ x ∈ p, 0 ≤ x ∧ x ≤ 4) : checkShelf (m : Int) pots = 0 :=
  cs_ok (by omega) (fun p hp => by have := h3 p hp; omega) (fun p hp x hx => by have := h4 p hp x hx; omega)
theorem fine_add {m : Nat} {pots : List (List Int)} (hf : checkShelf (m : Int) pots = 0) (h7 : pots.length < 8) {q : List Int} (hq : q.length = m) (hv : ∀ x ∈ q, 0 ≤ x ∧ x ≤ 4) : checkShelf (m : Int) (pots ++ [q]) = 0 := by
  obtain ⟨f1, f2, f3, f4⟩ := fine_spec hf
  refine fine_mk (by omega) (by rw [List.length_append, List.length_singleton]; omega) (fun p hp => ?_) (fun p hp => ?_)
  · rcases List.mem_append.1 hp with hp | hp
    · have := f3 p hp; omega
    · rw [List.mem_singleton.1 hp]; exact hq
  · rcases List.mem_append.1 hp with hp | hp
    · exact f4 p hp
    · rw [List.mem_singleton.1 hp]; exact hv
theorem mk_add_old {pots : List (List Int)} {q : List Int} {i j : Nat} (hi : i < pots.length) : mk (pots ++ [q]) i j = mk pots i j := by
  have : (pots ++ [q]).getD i [] = pots.getD i [] := by rw [List.getD_eq_getElem?_getD, List.getElem?_append_left hi, ← List.getD_eq_getElem?_getD]
  unfold mk
  rw [this]
theorem mk_add_new {pots : List (List Int)} {q : List Int} {j : Nat} : mk (pots ++ [q]) pots.length j = q.getD j 0 := by
  have : (pots ++ [q]).getD pots.length [] = q := by
    rw [List.getD_eq_getElem?_getD, List.getElem?_append_right (Nat.le_refl _), Nat.sub_self]; rfl
  unfold mk
  rw [this]
theorem agree_unseen (pots : List (List Int)) (m : Nat) : agree pots m (List.replicate m (-1)) = 2 ^ pots.length - 1 := by
  refine bits_ext (fun i => ?_)
  rw [agree_test, all_bits]
  refine ⟨fun h => h.1, fun h => ⟨h, fun k hk => Or.inl ?_⟩⟩
  rw [getD_lt _ _ (by simpa using hk), List.getElem_replicate]
  omega
theorem unseen_ok {m : Nat} {pots : List (List Int)} (hf : checkShelf (m : Int) pots = 0) : seenErr (m : Int) pots (List.replicate m (-1)) = 0 := by
  refine seenErr_ok hf (by simp) (fun x hx => ?_)
  rw [(List.mem_replicate.1 hx).2]; omega
theorem looks_unseen {m : Nat} {pots : List (List Int)} (hf : checkShelf (m : Int) pots = 0) : looksE (m : Int) pots (List.replicate m (-1)) = looks pots m (2 ^ pots.length - 1) := by
  rw [looksE_ok (unseen_ok hf), agree_unseen]
/-- There are lists that tell just if all marks do. -/
theorem isF_told {m : Nat} {pots : List (List Int)} (hf : checkShelf (m : Int) pots = 0) : isF (m : Int) pots = true ↔ Told pots m (fun i => i < pots.length) := by
  rw [← told_all]
  constructor
  · intro h
    have hE : fewE (m : Int) pots = 0 := of_decide_eq_true h
    rcases isF_err hf with ⟨h1, _, _⟩ | ⟨n, _, _, h3, _, h5⟩
    · omega
    · have hs := few_spec hf h3 _ (List.getElem_mem h5)
      refine told_all.2 (fun i k hi hk hne => ?_)
      obtain ⟨y, hy, hd⟩ := hard_false hs.2.2 hi hk hne
      have hb := ((rises_iff (m : Int) _ 0).1 hs.1).1 y hy
      exact ⟨y.toNat, by omega, hd⟩
  · intro h
    have hh : hardB pots (listed (2 ^ m - 1) m) = false := by
      unfold toldAll at h
      rw [Int.toNat_natCast] at h
      cases hh : hardB pots (listed (2 ^ m - 1) m) with
      | true => rw [hh] at h; cases h
      | false => rfl
    obtain ⟨n, hn, _⟩ := few_min hf (listed_isList _ m) hh
    unfold isF fewE
    rw [if_neg (not_not_intro hf), hn]; rfl
theorem needed_iff {m : Nat} {pots : List (List Int)} (hf : checkShelf (m : Int) pots = 0) {j : Nat} (hj : j < m) : (j : Int) ∈ neededL (m : Int) pots ↔ ∃ i k, i < pots.length ∧ k < i ∧ apart pots m i k = [(j : Int)] := by
  constructor
  · intro h
    obtain ⟨j', e, _, h2⟩ := needed_mem hf h
    have : j = j' := by omega
    subst this; exact h2
  · rintro ⟨i, k, hi, hk, ha⟩
    unfold neededL
    rw [if_neg (not_not_intro hf), Int.toNat_natCast]
    refine List.mem_map.2 ⟨j, List.mem_filter.2 ⟨List.mem_range.2 hj, ?_⟩, rfl⟩
    exact any_range_true hi (any_range_true hk (decide_eq_true ha))
theorem apart_one {pots : List (List Int)} {m i k j : Nat} (hj : j < m) (h1 : mk pots i j ≠ mk pots k j) (h2 : ∀ x, x < m → x ≠ j → mk pots i x = mk pots k x) : apart pots m i k = [(j : Int)] := by
  refine of_decide_eq_true ?_
  rw [not_any_apart hj, Bool.and_eq_true]
  refine ⟨tells_iff.2 ⟨(j : Int), by simp, by simpa using h1⟩, ?_⟩
  rw [Bool.not_eq_true']
  cases ht : tells pots (((List.range m).filter (fun x => decide (x ≠ j))).map Int.ofNat) i k with
  | false => rfl
  | true =>
    exfalso
    obtain ⟨y, hy, hd⟩ := tells_iff.1 ht
    obtain ⟨x, hx, rfl⟩ := List.mem_map.1 hy
    obtain ⟨hx1, hx2⟩ := List.mem_filter.1 hx
    exact hd (h2 x (List.mem_range.1 hx1) (of_decide_eq_true hx2))

theorem k13 (hG : Good Try.prog (envOf [(40, mkC [v40]), (17, mkC [v17]), (42, mkC [v42]), (49, mkC [v49]), (18, mkC [v18]), (45, mkC [v45]), (30, mkC [v30]), (27, mkC [v27])])) : v13.Kept Try.prog 13 := by
  rintro ⟨m, pots, which, mark, ⟨⟩⟩ hpre k hk
  change List (List Int) at pots
  change Int at m which mark
  refine aspec hmix hG Try.func13 tx13 (Eq.mpr (eq13 m pots which mark k) ?_)
  replace hk : k (.bool true) [] := hk
  have hw0 : 0 ≤ which := hpre.1.1
  have hw1 : which ≤ 255 := hpre.1.2
  have hb0 : 0 ≤ mark := hpre.2.1
  have hb1 : mark ≤ 255 := hpre.2.2
  unfold vc13
  refine ⟨trivial, br_intro (fun h1 => ?_) (fun h1 => ⟨trivial, hk⟩)⟩
  obtain ⟨hf, hs⟩ := fine_of (notfine_f (eq_of_beq h1))
  obtain ⟨f1, f2, f3, f4⟩ := fine_spec hf
  obtain ⟨mm, rfl⟩ := Int.eq_ofNat_of_zero_le (show 0 ≤ m by omega)
  rw [br_decide]
  refine ⟨fun _ => ⟨trivial, hk⟩, fun h8 => ?_⟩
  have hm0 : 0 ≤ which % (pots.length : Int) := Int.emod_nonneg _ (by omega)
  have hm1 : which % (pots.length : Int) < (pots.length : Int) := Int.emod_lt_of_pos _ (by omega)
  have hr0 : 0 ≤ mark % (mm : Int) := Int.emod_nonneg _ (by omega)
  have hr1 : mark % (mm : Int) < (mm : Int) := Int.emod_lt_of_pos _ (by omega)
  obtain ⟨p, hp⟩ := Int.eq_ofNat_of_zero_le hm0
  obtain ⟨j, hj⟩ := Int.eq_ofNat_of_zero_le hr0
  rw [hp] at hm1
  rw [hj] at hr1
  have hpn : p < pots.length := by omega
  have hjm : j < mm := by omega
  simp only [hp, hj, Int.toNat_natCast, List.nil_append]
  have hpl : pots[p].length = mm := by have := f3 _ (List.getElem_mem hpn); omega
  have hpv := f4 _ (List.getElem_mem hpn)
  have hfx := fine_add hf (by omega) hpl hpv
  obtain ⟨X, hX⟩ : ∃ X, pots ++ [pots[p]] = X := ⟨_, rfl⟩
  have hXl : X.length = pots.length + 1 := by rw [← hX]; simp
  have hfX : checkShelf (mm : Int) X = 0 := hX ▸ hfx
  have hsX : smallS X := by
    obtain ⟨_, g2, g3, _⟩ := fine_spec hfX
    exact ⟨by omega, fun q hq => by have := g3 q hq; omega⟩
  have hsame : ∀ x, mk X pots.length x = mk X p x := by
    intro x
    rw [← hX, mk_add_new, mk_add_old hpn]
    unfold mk
    rw [getP hpn]
  have hnt : ¬ Told X mm (fun i => i < X.length) := by
    intro h
    obtain ⟨x, _, hd⟩ := h pots.length p (by show pots.length < X.length; omega) (by show p < X.length; omega) (by omega)
    exact hd (hsame x)
  have hisF : isF (mm : Int) X = false := by
    cases h : isF (mm : Int) X with
    | false => rfl
    | true => exact absurd ((isF_told hfX).1 h) hnt
  have hhard : hardN (mm : Int) X (listed (2 ^ mm - 1) mm) = 0 := by
    rw [hardN_own hfX (listed_isList _ mm), if_pos]
    refine hardB_iff.2 ⟨p, pots.length, hpn, by omega, ?_⟩
    cases ht : tells X (listed (2 ^ mm - 1) mm) p pots.length with
    | false => rfl
    | true =>
      obtain ⟨y, _, hd⟩ := tells_iff.1 ht
      exact absurd (hsame y.toNat).symm hd
  have hlooks : looksE (mm : Int) X (List.replicate mm (-1)) = -1 := by
    rw [looks_unseen hfX]
    have hb := (looks_bounds X mm (2 ^ X.length - 1)).1
    rcases hb with hb | hb
    · exact hb
    · exfalso
      have := (told_looks hfX (all_lt X.length)).1 hb
      exact hnt (fun i t hi ht => this i t (all_bits.2 hi) (all_bits.2 ht))
  simp only [hX]
  refine ⟨fits64 (by omega) (by omega), ⟨hw0, by omega⟩, fits64 (by omega) (by omega), ⟨hb0, by omega⟩, ⟨by omega, hpn⟩, by simp [big]; omega, by simp [big]; omega, by simp [big]; omega, hfX, ⟨by show (0 : Int) ≤ (mm : Int); omega, by show (mm : Int) ≤ 40; omega⟩, ⟨hsX, by show (listed (2 ^ mm - 1) mm).length ≤ 1152921504606846976; have := listed_len (2 ^ mm - 1) mm; omega⟩, by show (mm : Int) ≤ 100; omega, ⟨hsX, by show (List.replicate mm (-1 : Int)).length ≤ 1152921504606846976; simp; omega⟩, ?_⟩
  rw [hisF, ff1, br_t, hhard, n00, ff1, br_t, unseen_ok hfX, n00, ff1, br_t, hlooks]
  have e1 : ((-1 : Int) != -1) = false := rfl
  rw [e1, br_f]
  have hjl : j < pots[p].length := by omega
  have hv0 := hpv _ (List.getElem_mem hjl)
  have hq0 : 0 ≤ (pots[p][j] + 1) % 5 := Int.emod_nonneg _ (by omega)
  have hq1 : (pots[p][j] + 1) % 5 < 5 := Int.emod_lt_of_pos _ (by omega)
  have hql : (pots[p].set j ((pots[p][j] + 1) % 5)).length = mm := by rw [List.length_set]; exact hpl
  have hqv : ∀ x ∈ pots[p].set j ((pots[p][j] + 1) % 5), 0 ≤ x ∧ x ≤ 4 := by
    intro x hx
    rcases List.mem_or_eq_of_mem_set hx with hx | hx
    · exact hpv x hx
    · omega
  have hfy := fine_add hf (by omega) hql hqv
  have hsY : smallS (pots ++ [pots[p].set j ((pots[p][j] + 1) % 5)]) := by
    obtain ⟨_, g2, g3, _⟩ := fine_spec hfy
    exact ⟨by omega, fun q hq => by have := g3 q hq; omega⟩
  have hyn : ∀ x, x < mm → mk (pots ++ [pots[p].set j ((pots[p][j] + 1) % 5)]) pots.length x = if j = x then (pots[p][j] + 1) % 5 else mk pots p x := by
    intro x hx
    rw [mk_add_new, getD_set _ _ _ _ _ hjl]
    by_cases e : j = x
    · rw [if_pos e, if_pos e]
    · rw [if_neg e, if_neg e]
      unfold mk
      rw [getP hpn]
  have hneed : (j : Int) ∈ neededL (mm : Int) (pots ++ [pots[p].set j ((pots[p][j] + 1) % 5)]) := by
    refine (needed_iff hfy hjm).2 ⟨pots.length, p, by simp, hpn, apart_one hjm ?_ (fun x hx hne => ?_)⟩
    · rw [hyn j hjm, if_pos rfl, mk_add_old hpn, mk_eq hpn hjl]
      omega
    · rw [hyn x hx, if_neg (fun e => hne e.symm), mk_add_old hpn]
  refine ⟨⟨by omega, hpn⟩, by simp [big]; omega, ⟨by omega, hjl⟩, hjl, fits64 (by omega) (by omega), ⟨by omega, by omega⟩, ⟨by omega, hjl⟩, hjl, by simp [big]; omega, by simp [big]; omega, hsY, ?_⟩
  rw [hfy]
  have hnl := needed_len mm (pots ++ [pots[p].set j ((pots[p][j] + 1) % 5)])
  have hany : (neededL (mm : Int) (pots ++ [pots[p].set j ((pots[p][j] + 1) % 5)])).any (fun x => x == (j : Int)) = true := List.any_eq_true.2 ⟨_, hneed, by simp⟩
  generalize neededL (mm : Int) (pots ++ [pots[p].set j ((pots[p][j] + 1) % 5)]) = L at hnl hany
  refine Loop.upto (fun c => ((j : Int), (0 : Int), (L.take c).any (fun x => x == (j : Int)), (c : Int), L, ())) (fun c => True) L.length rfl trivial ?_ ?_
  · intro c K hc _ hK
    have hK := hK trivial
    rw [any_take_succ _ _ _ hc] at hK
    dsimp only
    generalize (L.take c).any (fun x => x == (j : Int)) = z at hK ⊢
    rw [br_decide]
    simp only [Int.toNat_natCast]
    refine ⟨fun _ => ?_, fun h => absurd hc (by omega)⟩
    rw [br_bf]
    refine ⟨fun hz => ?_, fun hz => ⟨fits64 (by omega) (by omega), ?_⟩⟩
    · rw [hz, Bool.false_or] at hK
      exact ⟨⟨by omega, hc⟩, hc, fits64 (by omega) (by omega), hK⟩
    · rw [hz, Bool.true_or] at hK; exact hK
  · intro K _
    dsimp only
    rw [br_decide, List.take_length, hany]
    exact ⟨fun h => absurd h (by omega), fun _ => ⟨trivial, hk⟩⟩
end Go.Abs.King
end

section
/- Conditions and their equations, printed by a program: sixth part. -/
open Go.Proofs
set_option maxRecDepth 100000
set_option linter.unusedVariables false
namespace Go.Abs.King
def vc11 (m : Int) (pots : List (List Int)) (mark pot : List Int) (k : AVal → List Cont → Prop) : Prop :=
  (Go.Abs.King.v40.p (m, (pots, ()))) ∧
  br (((Bool.not (Go.Abs.King.fineB m pots)) == Bool.false))
   (br (((decide ((((List.length pots) : Nat) : Int) ≥ (8 : Int))) == Bool.false))
    (br (((decide (m ≥ (6 : Int))) == Bool.false))
     (br (((decide ((((List.length mark) : Nat) : Int) > (20 : Int))) == Bool.false))
      (br ((decide ((((List.length pot) : Nat) : Int) > (20 : Int))))
       ((Go.Abs.King.v17.p ()) ∧
       (k (Go.Abs.AVal.bool Bool.true) []))
       ((Go.Abs.fitsK Go.IntKind.i64 (m + (1 : Int))) ∧
       Go.Abs.Loop (σ := ((List Int) × ((List Int) × (Int × (Int × ((List (List Int)) × (Int × ((List (List Int)) × Unit)))))))) (fun K5 x5 =>
         br ((decide (x5.2.2.1 < (((List.length x5.2.2.2.2.1) : Nat) : Int))))
          (∃ h7 : (((0 : Int) ≤ x5.2.2.1) ∧ ((Int.toNat x5.2.2.1) < (List.length x5.2.2.2.2.1))),
          (((List.length ([] : List Int)) + (List.length (x5.2.2.2.2.1[(Int.toNat x5.2.2.1)]'h7.2))) ≤ Go.Abs.big) ∧
          (Go.Abs.King.v48.p (x5.1, (x5.2.2.1, ()))) ∧
          (((List.length (([] : List Int) ++ (x5.2.2.2.2.1[(Int.toNat x5.2.2.1)]'h7.2))) + (List.length ((Go.Abs.King.valueB x5.1 x5.2.2.1) :: ([] : List Int)))) ≤ Go.Abs.big) ∧
          (((List.length x5.2.2.2.2.2.2.1) + (List.length (((([] : List Int) ++ (x5.2.2.2.2.1[(Int.toNat x5.2.2.1)]'h7.2)) ++ ((Go.Abs.King.valueB x5.1 x5.2.2.1) :: ([] : List Int))) :: ([] : List (List Int))))) ≤ Go.Abs.big) ∧
          (Go.Abs.fitsK Go.IntKind.i64 (x5.2.2.1 + (1 : Int))) ∧
          (K5 (x5.1, (x5.2.1, ((x5.2.2.1 + (1 : Int)), (x5.2.2.2.1, (x5.2.2.2.2.1, (x5.2.2.2.2.2.1, ((x5.2.2.2.2.2.2.1 ++ (((([] : List Int) ++ (x5.2.2.2.2.1[(Int.toNat x5.2.2.1)]'h7.2)) ++ ((Go.Abs.King.valueB x5.1 x5.2.2.1) :: ([] : List Int))) :: ([] : List (List Int)))), ())))))))))
          ((((List.length ([] : List (List Int))) + (List.length x5.2.2.2.2.1)) ≤ Go.Abs.big) ∧
          Go.Abs.Loop (σ := ((List Int) × (Int × (Int × ((List (List Int)) × (Int × (Int × ((List Int) × ((List (List Int)) × ((List (List Int)) × Unit)))))))))) (fun K7 x7 =>
            br ((decide (x7.2.1 < x7.2.2.1)))
             ((Go.Abs.King.v48.p (x7.1, (x7.2.1, ()))) ∧
             (((List.length x7.2.2.2.2.2.2.1) + (List.length ((Go.Abs.King.valueB x7.1 x7.2.1) :: ([] : List Int)))) ≤ Go.Abs.big) ∧
             (Go.Abs.fitsK Go.IntKind.i64 (x7.2.1 + (1 : Int))) ∧
             (K7 (x7.1, ((x7.2.1 + (1 : Int)), (x7.2.2.1, (x7.2.2.2.1, (x7.2.2.2.2.1, (x7.2.2.2.2.2.1, ((x7.2.2.2.2.2.2.1 ++ ((Go.Abs.King.valueB x7.1 x7.2.1) :: ([] : List Int))), (x7.2.2.2.2.2.2.2.1, (x7.2.2.2.2.2.2.2.2.1, ())))))))))))
             ((((List.length x7.2.2.2.2.2.2.2.2.1) + (List.length (x7.2.2.2.2.2.2.1 :: ([] : List (List Int))))) ≤ Go.Abs.big) ∧
             (Go.Abs.King.v42.p (x7.2.2.1, (x7.2.2.2.1, ()))) ∧
             (Go.Abs.King.v42.p (x7.2.2.2.2.1, (x7.2.2.2.2.2.2.2.1, ()))) ∧
             (Go.Abs.King.v42.p (x7.2.2.2.2.2.1, ((x7.2.2.2.2.2.2.2.2.1 ++ (x7.2.2.2.2.2.2.1 :: ([] : List (List Int)))), ()))) ∧
             (Go.Abs.King.v45.p (x7.2.2.1, (x7.2.2.2.1, ()))) ∧
             (Go.Abs.King.v30.p (x7.2.2.1, (x7.2.2.2.1, ((List.replicate (Int.toNat x7.2.2.1) (-(1 : Int) : Int)), ())))) ∧
             (Go.Abs.King.v45.p (x7.2.2.2.2.1, (x7.2.2.2.2.2.2.2.1, ()))) ∧
             (Go.Abs.King.v30.p (x7.2.2.2.2.1, (x7.2.2.2.2.2.2.2.1, ((List.replicate (Int.toNat x7.2.2.2.2.1) (-(1 : Int) : Int)), ())))) ∧
             (Go.Abs.King.v45.p (x7.2.2.2.2.2.1, ((x7.2.2.2.2.2.2.2.2.1 ++ (x7.2.2.2.2.2.2.1 :: ([] : List (List Int)))), ()))) ∧
             (Go.Abs.King.v30.p (x7.2.2.2.2.2.1, ((x7.2.2.2.2.2.2.2.2.1 ++ (x7.2.2.2.2.2.2.1 :: ([] : List (List Int)))), ((List.replicate (Int.toNat x7.2.2.2.2.2.1) (-(1 : Int) : Int)), ())))) ∧
             br ((((Go.Abs.King.seenErr x7.2.2.1 x7.2.2.2.1 (List.replicate (Int.toNat x7.2.2.1) (-(1 : Int) : Int))) != (0 : Int)) == Bool.false))
              (br ((((Go.Abs.King.seenErr x7.2.2.2.2.1 x7.2.2.2.2.2.2.2.1 (List.replicate (Int.toNat x7.2.2.2.2.1) (-(1 : Int) : Int))) != (0 : Int)) == Bool.false))
               (br ((((Go.Abs.King.seenErr x7.2.2.2.2.2.1 (x7.2.2.2.2.2.2.2.2.1 ++ (x7.2.2.2.2.2.2.1 :: ([] : List (List Int)))) (List.replicate (Int.toNat x7.2.2.2.2.2.1) (-(1 : Int) : Int))) != (0 : Int)) == Bool.false))
                (br (((Go.Abs.King.isF x7.2.2.1 x7.2.2.2.1) == Bool.true))
                 (br (((Bool.not (Go.Abs.King.isF x7.2.2.2.2.1 x7.2.2.2.2.2.2.2.1)) == Bool.false))
                  (br (((Go.Abs.King.isF x7.2.2.2.2.2.1 (x7.2.2.2.2.2.2.2.2.1 ++ (x7.2.2.2.2.2.2.1 :: ([] : List (List Int))))) == Bool.true))
                   (br ((Bool.not (Go.Abs.King.isF x7.2.2.1 x7.2.2.2.1)))
                    ((k (Go.Abs.AVal.bool Bool.false) []))
                    (br (((Bool.not (Go.Abs.King.isF x7.2.2.1 x7.2.2.2.1)) == Bool.false))
                     ((((0 : Int) ≤ (0 : Int)) ∧ ((Int.toNat (0 : Int)) < (List.length (Go.Abs.King.fewL x7.2.2.2.2.1 x7.2.2.2.2.2.2.2.1)))) ∧
                     ∃ h9 : ((Int.toNat (0 : Int)) < (List.length (Go.Abs.King.fewL x7.2.2.2.2.1 x7.2.2.2.2.2.2.2.1))),
                     (((0 : Int) ≤ (0 : Int)) ∧ ((Int.toNat (0 : Int)) < (List.length (Go.Abs.King.fewL x7.2.2.1 x7.2.2.2.1)))) ∧
                     ∃ h10 : ((Int.toNat (0 : Int)) < (List.length (Go.Abs.King.fewL x7.2.2.1 x7.2.2.2.1))),
                     br (((decide ((((List.length ((Go.Abs.King.fewL x7.2.2.2.2.1 x7.2.2.2.2.2.2.2.1)[(Int.toNat (0 : Int))]'h9)) : Nat) : Int) ≤ (((List.length ((Go.Abs.King.fewL x7.2.2.1 x7.2.2.2.1)[(Int.toNat (0 : Int))]'h10)) : Nat) : Int))) == Bool.true))
                      (br (((decide ((Go.Abs.King.looksE x7.2.2.2.2.1 x7.2.2.2.2.2.2.2.1 (List.replicate (Int.toNat x7.2.2.2.2.1) (-(1 : Int) : Int))) ≤ (Go.Abs.King.looksE x7.2.2.1 x7.2.2.2.1 (List.replicate (Int.toNat x7.2.2.1) (-(1 : Int) : Int))))) == Bool.true))
                       (br (((decide ((Go.Abs.King.looksE x7.2.2.2.2.1 x7.2.2.2.2.2.2.2.1 (List.replicate (Int.toNat x7.2.2.2.2.1) (-(1 : Int) : Int))) ≥ (0 : Int))) == Bool.true))
                        (br (((Bool.not (Go.Abs.King.isF x7.2.2.2.2.2.1 (x7.2.2.2.2.2.2.2.2.1 ++ (x7.2.2.2.2.2.2.1 :: ([] : List (List Int)))))) == Bool.false))
                         ((((0 : Int) ≤ (0 : Int)) ∧ ((Int.toNat (0 : Int)) < (List.length (Go.Abs.King.fewL x7.2.2.2.2.2.1 (x7.2.2.2.2.2.2.2.2.1 ++ (x7.2.2.2.2.2.2.1 :: ([] : List (List Int)))))))) ∧
                         ∃ h11 : ((Int.toNat (0 : Int)) < (List.length (Go.Abs.King.fewL x7.2.2.2.2.2.1 (x7.2.2.2.2.2.2.2.2.1 ++ (x7.2.2.2.2.2.2.1 :: ([] : List (List Int))))))),
                         (((0 : Int) ≤ (0 : Int)) ∧ ((Int.toNat (0 : Int)) < (List.length (Go.Abs.King.fewL x7.2.2.1 x7.2.2.2.1)))) ∧
                         ∃ h12 : ((Int.toNat (0 : Int)) < (List.length (Go.Abs.King.fewL x7.2.2.1 x7.2.2.2.1))),
                         br (((decide ((((List.length ((Go.Abs.King.fewL x7.2.2.2.2.2.1 (x7.2.2.2.2.2.2.2.2.1 ++ (x7.2.2.2.2.2.2.1 :: ([] : List (List Int)))))[(Int.toNat (0 : Int))]'h11)) : Nat) : Int) ≥ (((List.length ((Go.Abs.King.fewL x7.2.2.1 x7.2.2.2.1)[(Int.toNat (0 : Int))]'h12)) : Nat) : Int))) == Bool.true))
                          (br (((decide ((Go.Abs.King.looksE x7.2.2.2.2.2.1 (x7.2.2.2.2.2.2.2.2.1 ++ (x7.2.2.2.2.2.2.1 :: ([] : List (List Int)))) (List.replicate (Int.toNat x7.2.2.2.2.2.1) (-(1 : Int) : Int))) ≥ (Go.Abs.King.looksE x7.2.2.1 x7.2.2.2.1 (List.replicate (Int.toNat x7.2.2.1) (-(1 : Int) : Int))))) == Bool.true))
                           ((Go.Abs.King.v17.p ()) ∧
                           (k (Go.Abs.AVal.bool Bool.true) []))
                           ((k (Go.Abs.AVal.bool Bool.false) [])))
                          ((k (Go.Abs.AVal.bool Bool.false) [])))
                         ((Go.Abs.King.v17.p ()) ∧
                         (k (Go.Abs.AVal.bool Bool.true) [])))
                        ((k (Go.Abs.AVal.bool Bool.false) [])))
                       ((k (Go.Abs.AVal.bool Bool.false) [])))
                      ((k (Go.Abs.AVal.bool Bool.false) [])))
                     (br (((Bool.not (Go.Abs.King.isF x7.2.2.2.2.2.1 (x7.2.2.2.2.2.2.2.2.1 ++ (x7.2.2.2.2.2.2.1 :: ([] : List (List Int)))))) == Bool.false))
                      ((((0 : Int) ≤ (0 : Int)) ∧ ((Int.toNat (0 : Int)) < (List.length (Go.Abs.King.fewL x7.2.2.2.2.2.1 (x7.2.2.2.2.2.2.2.2.1 ++ (x7.2.2.2.2.2.2.1 :: ([] : List (List Int)))))))) ∧
                      ∃ h9 : ((Int.toNat (0 : Int)) < (List.length (Go.Abs.King.fewL x7.2.2.2.2.2.1 (x7.2.2.2.2.2.2.2.2.1 ++ (x7.2.2.2.2.2.2.1 :: ([] : List (List Int))))))),
                      (((0 : Int) ≤ (0 : Int)) ∧ ((Int.toNat (0 : Int)) < (List.length (Go.Abs.King.fewL x7.2.2.1 x7.2.2.2.1)))) ∧
                      ∃ h10 : ((Int.toNat (0 : Int)) < (List.length (Go.Abs.King.fewL x7.2.2.1 x7.2.2.2.1))),
                      br (((decide ((((List.length ((Go.Abs.King.fewL x7.2.2.2.2.2.1 (x7.2.2.2.2.2.2.2.2.1 ++ (x7.2.2.2.2.2.2.1 :: ([] : List (List Int)))))[(Int.toNat (0 : Int))]'h9)) : Nat) : Int) ≥ (((List.length ((Go.Abs.King.fewL x7.2.2.1 x7.2.2.2.1)[(Int.toNat (0 : Int))]'h10)) : Nat) : Int))) == Bool.true))
                       (br (((decide ((Go.Abs.King.looksE x7.2.2.2.2.2.1 (x7.2.2.2.2.2.2.2.2.1 ++ (x7.2.2.2.2.2.2.1 :: ([] : List (List Int)))) (List.replicate (Int.toNat x7.2.2.2.2.2.1) (-(1 : Int) : Int))) ≥ (Go.Abs.King.looksE x7.2.2.1 x7.2.2.2.1 (List.replicate (Int.toNat x7.2.2.1) (-(1 : Int) : Int))))) == Bool.true))
                        ((Go.Abs.King.v17.p ()) ∧
                        (k (Go.Abs.AVal.bool Bool.true) []))
                        ((k (Go.Abs.AVal.bool Bool.false) [])))
                       ((k (Go.Abs.AVal.bool Bool.false) [])))
                      ((Go.Abs.King.v17.p ()) ∧
                      (k (Go.Abs.AVal.bool Bool.true) [])))))
                   (br (((Bool.not (Go.Abs.King.isF x7.2.2.1 x7.2.2.2.1)) == Bool.false))
                    ((((0 : Int) ≤ (0 : Int)) ∧ ((Int.toNat (0 : Int)) < (List.length (Go.Abs.King.fewL x7.2.2.2.2.1 x7.2.2.2.2.2.2.2.1)))) ∧
                    ∃ h9 : ((Int.toNat (0 : Int)) < (List.length (Go.Abs.King.fewL x7.2.2.2.2.1 x7.2.2.2.2.2.2.2.1))),
                    (((0 : Int) ≤ (0 : Int)) ∧ ((Int.toNat (0 : Int)) < (List.length (Go.Abs.King.fewL x7.2.2.1 x7.2.2.2.1)))) ∧
                    ∃ h10 : ((Int.toNat (0 : Int)) < (List.length (Go.Abs.King.fewL x7.2.2.1 x7.2.2.2.1))),
                    br (((decide ((((List.length ((Go.Abs.King.fewL x7.2.2.2.2.1 x7.2.2.2.2.2.2.2.1)[(Int.toNat (0 : Int))]'h9)) : Nat) : Int) ≤ (((List.length ((Go.Abs.King.fewL x7.2.2.1 x7.2.2.2.1)[(Int.toNat (0 : Int))]'h10)) : Nat) : Int))) == Bool.true))
                     (br (((decide ((Go.Abs.King.looksE x7.2.2.2.2.1 x7.2.2.2.2.2.2.2.1 (List.replicate (Int.toNat x7.2.2.2.2.1) (-(1 : Int) : Int))) ≤ (Go.Abs.King.looksE x7.2.2.1 x7.2.2.2.1 (List.replicate (Int.toNat x7.2.2.1) (-(1 : Int) : Int))))) == Bool.true))
                      (br (((decide ((Go.Abs.King.looksE x7.2.2.2.2.1 x7.2.2.2.2.2.2.2.1 (List.replicate (Int.toNat x7.2.2.2.2.1) (-(1 : Int) : Int))) ≥ (0 : Int))) == Bool.true))
                       (br (((Bool.not (Go.Abs.King.isF x7.2.2.2.2.2.1 (x7.2.2.2.2.2.2.2.2.1 ++ (x7.2.2.2.2.2.2.1 :: ([] : List (List Int)))))) == Bool.false))
                        ((((0 : Int) ≤ (0 : Int)) ∧ ((Int.toNat (0 : Int)) < (List.length (Go.Abs.King.fewL x7.2.2.2.2.2.1 (x7.2.2.2.2.2.2.2.2.1 ++ (x7.2.2.2.2.2.2.1 :: ([] : List (List Int)))))))) ∧
                        ∃ h11 : ((Int.toNat (0 : Int)) < (List.length (Go.Abs.King.fewL x7.2.2.2.2.2.1 (x7.2.2.2.2.2.2.2.2.1 ++ (x7.2.2.2.2.2.2.1 :: ([] : List (List Int))))))),
                        (((0 : Int) ≤ (0 : Int)) ∧ ((Int.toNat (0 : Int)) < (List.length (Go.Abs.King.fewL x7.2.2.1 x7.2.2.2.1)))) ∧
                        ∃ h12 : ((Int.toNat (0 : Int)) < (List.length (Go.Abs.King.fewL x7.2.2.1 x7.2.2.2.1))),
                        br (((decide ((((List.length ((Go.Abs.King.fewL x7.2.2.2.2.2.1 (x7.2.2.2.2.2.2.2.2.1 ++ (x7.2.2.2.2.2.2.1 :: ([] : List (List Int)))))[(Int.toNat (0 : Int))]'h11)) : Nat) : Int) ≥ (((List.length ((Go.Abs.King.fewL x7.2.2.1 x7.2.2.2.1)[(Int.toNat (0 : Int))]'h12)) : Nat) : Int))) == Bool.true))
                         (br (((decide ((Go.Abs.King.looksE x7.2.2.2.2.2.1 (x7.2.2.2.2.2.2.2.2.1 ++ (x7.2.2.2.2.2.2.1 :: ([] : List (List Int)))) (List.replicate (Int.toNat x7.2.2.2.2.2.1) (-(1 : Int) : Int))) ≥ (Go.Abs.King.looksE x7.2.2.1 x7.2.2.2.1 (List.replicate (Int.toNat x7.2.2.1) (-(1 : Int) : Int))))) == Bool.true))
                          ((Go.Abs.King.v17.p ()) ∧
                          (k (Go.Abs.AVal.bool Bool.true) []))
                          ((k (Go.Abs.AVal.bool Bool.false) [])))
                         ((k (Go.Abs.AVal.bool Bool.false) [])))
                        ((Go.Abs.King.v17.p ()) ∧
                        (k (Go.Abs.AVal.bool Bool.true) [])))
                       ((k (Go.Abs.AVal.bool Bool.false) [])))
                      ((k (Go.Abs.AVal.bool Bool.false) [])))
                     ((k (Go.Abs.AVal.bool Bool.false) [])))
                    (br (((Bool.not (Go.Abs.King.isF x7.2.2.2.2.2.1 (x7.2.2.2.2.2.2.2.2.1 ++ (x7.2.2.2.2.2.2.1 :: ([] : List (List Int)))))) == Bool.false))
                     ((((0 : Int) ≤ (0 : Int)) ∧ ((Int.toNat (0 : Int)) < (List.length (Go.Abs.King.fewL x7.2.2.2.2.2.1 (x7.2.2.2.2.2.2.2.2.1 ++ (x7.2.2.2.2.2.2.1 :: ([] : List (List Int)))))))) ∧
                     ∃ h9 : ((Int.toNat (0 : Int)) < (List.length (Go.Abs.King.fewL x7.2.2.2.2.2.1 (x7.2.2.2.2.2.2.2.2.1 ++ (x7.2.2.2.2.2.2.1 :: ([] : List (List Int))))))),
                     (((0 : Int) ≤ (0 : Int)) ∧ ((Int.toNat (0 : Int)) < (List.length (Go.Abs.King.fewL x7.2.2.1 x7.2.2.2.1)))) ∧
                     ∃ h10 : ((Int.toNat (0 : Int)) < (List.length (Go.Abs.King.fewL x7.2.2.1 x7.2.2.2.1))),
                     br (((decide ((((List.length ((Go.Abs.King.fewL x7.2.2.2.2.2.1 (x7.2.2.2.2.2.2.2.2.1 ++ (x7.2.2.2.2.2.2.1 :: ([] : List (List Int)))))[(Int.toNat (0 : Int))]'h9)) : Nat) : Int) ≥ (((List.length ((Go.Abs.King.fewL x7.2.2.1 x7.2.2.2.1)[(Int.toNat (0 : Int))]'h10)) : Nat) : Int))) == Bool.true))
                      (br (((decide ((Go.Abs.King.looksE x7.2.2.2.2.2.1 (x7.2.2.2.2.2.2.2.2.1 ++ (x7.2.2.2.2.2.2.1 :: ([] : List (List Int)))) (List.replicate (Int.toNat x7.2.2.2.2.2.1) (-(1 : Int) : Int))) ≥ (Go.Abs.King.looksE x7.2.2.1 x7.2.2.2.1 (List.replicate (Int.toNat x7.2.2.1) (-(1 : Int) : Int))))) == Bool.true))
                       ((Go.Abs.King.v17.p ()) ∧
                       (k (Go.Abs.AVal.bool Bool.true) []))
                       ((k (Go.Abs.AVal.bool Bool.false) [])))
                      ((k (Go.Abs.AVal.bool Bool.false) [])))
                     ((Go.Abs.King.v17.p ()) ∧
                     (k (Go.Abs.AVal.bool Bool.true) [])))))
                  ((k (Go.Abs.AVal.bool Bool.false) [])))
                 (br (((Go.Abs.King.isF x7.2.2.2.2.2.1 (x7.2.2.2.2.2.2.2.2.1 ++ (x7.2.2.2.2.2.2.1 :: ([] : List (List Int))))) == Bool.true))
                  (br ((Bool.not (Go.Abs.King.isF x7.2.2.1 x7.2.2.2.1)))
                   ((k (Go.Abs.AVal.bool Bool.false) []))
                   (br (((Bool.not (Go.Abs.King.isF x7.2.2.1 x7.2.2.2.1)) == Bool.false))
                    ((((0 : Int) ≤ (0 : Int)) ∧ ((Int.toNat (0 : Int)) < (List.length (Go.Abs.King.fewL x7.2.2.2.2.1 x7.2.2.2.2.2.2.2.1)))) ∧
                    ∃ h9 : ((Int.toNat (0 : Int)) < (List.length (Go.Abs.King.fewL x7.2.2.2.2.1 x7.2.2.2.2.2.2.2.1))),
                    (((0 : Int) ≤ (0 : Int)) ∧ ((Int.toNat (0 : Int)) < (List.length (Go.Abs.King.fewL x7.2.2.1 x7.2.2.2.1)))) ∧
                    ∃ h10 : ((Int.toNat (0 : Int)) < (List.length (Go.Abs.King.fewL x7.2.2.1 x7.2.2.2.1))),
                    br (((decide ((((List.length ((Go.Abs.King.fewL x7.2.2.2.2.1 x7.2.2.2.2.2.2.2.1)[(Int.toNat (0 : Int))]'h9)) : Nat) : Int) ≤ (((List.length ((Go.Abs.King.fewL x7.2.2.1 x7.2.2.2.1)[(Int.toNat (0 : Int))]'h10)) : Nat) : Int))) == Bool.true))
                     (br (((decide ((Go.Abs.King.looksE x7.2.2.2.2.1 x7.2.2.2.2.2.2.2.1 (List.replicate (Int.toNat x7.2.2.2.2.1) (-(1 : Int) : Int))) ≤ (Go.Abs.King.looksE x7.2.2.1 x7.2.2.2.1 (List.replicate (Int.toNat x7.2.2.1) (-(1 : Int) : Int))))) == Bool.true))
                      (br (((decide ((Go.Abs.King.looksE x7.2.2.2.2.1 x7.2.2.2.2.2.2.2.1 (List.replicate (Int.toNat x7.2.2.2.2.1) (-(1 : Int) : Int))) ≥ (0 : Int))) == Bool.true))
                       (br (((Bool.not (Go.Abs.King.isF x7.2.2.2.2.2.1 (x7.2.2.2.2.2.2.2.2.1 ++ (x7.2.2.2.2.2.2.1 :: ([] : List (List Int)))))) == Bool.false))
                        ((((0 : Int) ≤ (0 : Int)) ∧ ((Int.toNat (0 : Int)) < (List.length (Go.Abs.King.fewL x7.2.2.2.2.2.1 (x7.2.2.2.2.2.2.2.2.1 ++ (x7.2.2.2.2.2.2.1 :: ([] : List (List Int)))))))) ∧
                        ∃ h11 : ((Int.toNat (0 : Int)) < (List.length (Go.Abs.King.fewL x7.2.2.2.2.2.1 (x7.2.2.2.2.2.2.2.2.1 ++ (x7.2.2.2.2.2.2.1 :: ([] : List (List Int))))))),
                        (((0 : Int) ≤ (0 : Int)) ∧ ((Int.toNat (0 : Int)) < (List.length (Go.Abs.King.fewL x7.2.2.1 x7.2.2.2.1)))) ∧
                        ∃ h12 : ((Int.toNat (0 : Int)) < (List.length (Go.Abs.King.fewL x7.2.2.1 x7.2.2.2.1))),
                        br (((decide ((((List.length ((Go.Abs.King.fewL x7.2.2.2.2.2.1 (x7.2.2.2.2.2.2.2.2.1 ++ (x7.2.2.2.2.2.2.1 :: ([] : List (List Int)))))[(Int.toNat (0 : Int))]'h11)) : Nat) : Int) ≥ (((List.length ((Go.Abs.King.fewL x7.2.2.1 x7.2.2.2.1)[(Int.toNat (0 : Int))]'h12)) : Nat) : Int))) == Bool.true))
                         (br (((decide ((Go.Abs.King.looksE x7.2.2.2.2.2.1 (x7.2.2.2.2.2.2.2.2.1 ++ (x7.2.2.2.2.2.2.1 :: ([] : List (List Int)))) (List.replicate (Int.toNat x7.2.2.2.2.2.1) (-(1 : Int) : Int))) ≥ (Go.Abs.King.looksE x7.2.2.1 x7.2.2.2.1 (List.replicate (Int.toNat x7.2.2.1) (-(1 : Int) : Int))))) == Bool.true))
                          ((Go.Abs.King.v17.p ()) ∧
                          (k (Go.Abs.AVal.bool Bool.true) []))
                          ((k (Go.Abs.AVal.bool Bool.false) [])))
                         ((k (Go.Abs.AVal.bool Bool.false) [])))
                        ((Go.Abs.King.v17.p ()) ∧
                        (k (Go.Abs.AVal.bool Bool.true) [])))
                       ((k (Go.Abs.AVal.bool Bool.false) [])))
                      ((k (Go.Abs.AVal.bool Bool.false) [])))
                     ((k (Go.Abs.AVal.bool Bool.false) [])))
                    (br (((Bool.not (Go.Abs.King.isF x7.2.2.2.2.2.1 (x7.2.2.2.2.2.2.2.2.1 ++ (x7.2.2.2.2.2.2.1 :: ([] : List (List Int)))))) == Bool.false))
                     ((((0 : Int) ≤ (0 : Int)) ∧ ((Int.toNat (0 : Int)) < (List.length (Go.Abs.King.fewL x7.2.2.2.2.2.1 (x7.2.2.2.2.2.2.2.2.1 ++ (x7.2.2.2.2.2.2.1 :: ([] : List (List Int)))))))) ∧
                     ∃ h9 : ((Int.toNat (0 : Int)) < (List.length (Go.Abs.King.fewL x7.2.2.2.2.2.1 (x7.2.2.2.2.2.2.2.2.1 ++ (x7.2.2.2.2.2.2.1 :: ([] : List (List Int))))))),
                     (((0 : Int) ≤ (0 : Int)) ∧ ((Int.toNat (0 : Int)) < (List.length (Go.Abs.King.fewL x7.2.2.1 x7.2.2.2.1)))) ∧
                     ∃ h10 : ((Int.toNat (0 : Int)) < (List.length (Go.Abs.King.fewL x7.2.2.1 x7.2.2.2.1))),
                     br (((decide ((((List.length ((Go.Abs.King.fewL x7.2.2.2.2.2.1 (x7.2.2.2.2.2.2.2.2.1 ++ (x7.2.2.2.2.2.2.1 :: ([] : List (List Int)))))[(Int.toNat (0 : Int))]'h9)) : Nat) : Int) ≥ (((List.length ((Go.Abs.King.fewL x7.2.2.1 x7.2.2.2.1)[(Int.toNat (0 : Int))]'h10)) : Nat) : Int))) == Bool.true))
                      (br (((decide ((Go.Abs.King.looksE x7.2.2.2.2.2.1 (x7.2.2.2.2.2.2.2.2.1 ++ (x7.2.2.2.2.2.2.1 :: ([] : List (List Int)))) (List.replicate (Int.toNat x7.2.2.2.2.2.1) (-(1 : Int) : Int))) ≥ (Go.Abs.King.looksE x7.2.2.1 x7.2.2.2.1 (List.replicate (Int.toNat x7.2.2.1) (-(1 : Int) : Int))))) == Bool.true))
                       ((Go.Abs.King.v17.p ()) ∧
                       (k (Go.Abs.AVal.bool Bool.true) []))
                       ((k (Go.Abs.AVal.bool Bool.false) [])))
                      ((k (Go.Abs.AVal.bool Bool.false) [])))
                     ((Go.Abs.King.v17.p ()) ∧
                     (k (Go.Abs.AVal.bool Bool.true) [])))))
                  (br (((Bool.not (Go.Abs.King.isF x7.2.2.1 x7.2.2.2.1)) == Bool.false))
                   ((((0 : Int) ≤ (0 : Int)) ∧ ((Int.toNat (0 : Int)) < (List.length (Go.Abs.King.fewL x7.2.2.2.2.1 x7.2.2.2.2.2.2.2.1)))) ∧
                   ∃ h9 : ((Int.toNat (0 : Int)) < (List.length (Go.Abs.King.fewL x7.2.2.2.2.1 x7.2.2.2.2.2.2.2.1))),
                   (((0 : Int) ≤ (0 : Int)) ∧ ((Int.toNat (0 : Int)) < (List.length (Go.Abs.King.fewL x7.2.2.1 x7.2.2.2.1)))) ∧
                   ∃ h10 : ((Int.toNat (0 : Int)) < (List.length (Go.Abs.King.fewL x7.2.2.1 x7.2.2.2.1))),
                   br (((decide ((((List.length ((Go.Abs.King.fewL x7.2.2.2.2.1 x7.2.2.2.2.2.2.2.1)[(Int.toNat (0 : Int))]'h9)) : Nat) : Int) ≤ (((List.length ((Go.Abs.King.fewL x7.2.2.1 x7.2.2.2.1)[(Int.toNat (0 : Int))]'h10)) : Nat) : Int))) == Bool.true))
                    (br (((decide ((Go.Abs.King.looksE x7.2.2.2.2.1 x7.2.2.2.2.2.2.2.1 (List.replicate (Int.toNat x7.2.2.2.2.1) (-(1 : Int) : Int))) ≤ (Go.Abs.King.looksE x7.2.2.1 x7.2.2.2.1 (List.replicate (Int.toNat x7.2.2.1) (-(1 : Int) : Int))))) == Bool.true))
                     (br (((decide ((Go.Abs.King.looksE x7.2.2.2.2.1 x7.2.2.2.2.2.2.2.1 (List.replicate (Int.toNat x7.2.2.2.2.1) (-(1 : Int) : Int))) ≥ (0 : Int))) == Bool.true))
                      (br (((Bool.not (Go.Abs.King.isF x7.2.2.2.2.2.1 (x7.2.2.2.2.2.2.2.2.1 ++ (x7.2.2.2.2.2.2.1 :: ([] : List (List Int)))))) == Bool.false))
                       ((((0 : Int) ≤ (0 : Int)) ∧ ((Int.toNat (0 : Int)) < (List.length (Go.Abs.King.fewL x7.2.2.2.2.2.1 (x7.2.2.2.2.2.2.2.2.1 ++ (x7.2.2.2.2.2.2.1 :: ([] : List (List Int)))))))) ∧
                       ∃ h11 : ((Int.toNat (0 : Int)) < (List.length (Go.Abs.King.fewL x7.2.2.2.2.2.1 (x7.2.2.2.2.2.2.2.2.1 ++ (x7.2.2.2.2.2.2.1 :: ([] : List (List Int))))))),
                       (((0 : Int) ≤ (0 : Int)) ∧ ((Int.toNat (0 : Int)) < (List.length (Go.Abs.King.fewL x7.2.2.1 x7.2.2.2.1)))) ∧
                       ∃ h12 : ((Int.toNat (0 : Int)) < (List.length (Go.Abs.King.fewL x7.2.2.1 x7.2.2.2.1))),
                       br (((decide ((((List.length ((Go.Abs.King.fewL x7.2.2.2.2.2.1 (x7.2.2.2.2.2.2.2.2.1 ++ (x7.2.2.2.2.2.2.1 :: ([] : List (List Int)))))[(Int.toNat (0 : Int))]'h11)) : Nat) : Int) ≥ (((List.length ((Go.Abs.King.fewL x7.2.2.1 x7.2.2.2.1)[(Int.toNat (0 : Int))]'h12)) : Nat) : Int))) == Bool.true))
                        (br (((decide ((Go.Abs.King.looksE x7.2.2.2.2.2.1 (x7.2.2.2.2.2.2.2.2.1 ++ (x7.2.2.2.2.2.2.1 :: ([] : List (List Int)))) (List.replicate (Int.toNat x7.2.2.2.2.2.1) (-(1 : Int) : Int))) ≥ (Go.Abs.King.looksE x7.2.2.1 x7.2.2.2.1 (List.replicate (Int.toNat x7.2.2.1) (-(1 : Int) : Int))))) == Bool.true))
                         ((Go.Abs.King.v17.p ()) ∧
                         (k (Go.Abs.AVal.bool Bool.true) []))
                         ((k (Go.Abs.AVal.bool Bool.false) [])))
                        ((k (Go.Abs.AVal.bool Bool.false) [])))
                       ((Go.Abs.King.v17.p ()) ∧
                       (k (Go.Abs.AVal.bool Bool.true) [])))
                      ((k (Go.Abs.AVal.bool Bool.false) [])))
                     ((k (Go.Abs.AVal.bool Bool.false) [])))
                    ((k (Go.Abs.AVal.bool Bool.false) [])))
                   (br (((Bool.not (Go.Abs.King.isF x7.2.2.2.2.2.1 (x7.2.2.2.2.2.2.2.2.1 ++ (x7.2.2.2.2.2.2.1 :: ([] : List (List Int)))))) == Bool.false))
                    ((((0 : Int) ≤ (0 : Int)) ∧ ((Int.toNat (0 : Int)) < (List.length (Go.Abs.King.fewL x7.2.2.2.2.2.1 (x7.2.2.2.2.2.2.2.2.1 ++ (x7.2.2.2.2.2.2.1 :: ([] : List (List Int)))))))) ∧
                    ∃ h9 : ((Int.toNat (0 : Int)) < (List.length (Go.Abs.King.fewL x7.2.2.2.2.2.1 (x7.2.2.2.2.2.2.2.2.1 ++ (x7.2.2.2.2.2.2.1 :: ([] : List (List Int))))))),
                    (((0 : Int) ≤ (0 : Int)) ∧ ((Int.toNat (0 : Int)) < (List.length (Go.Abs.King.fewL x7.2.2.1 x7.2.2.2.1)))) ∧
                    ∃ h10 : ((Int.toNat (0 : Int)) < (List.length (Go.Abs.King.fewL x7.2.2.1 x7.2.2.2.1))),
                    br (((decide ((((List.length ((Go.Abs.King.fewL x7.2.2.2.2.2.1 (x7.2.2.2.2.2.2.2.2.1 ++ (x7.2.2.2.2.2.2.1 :: ([] : List (List Int)))))[(Int.toNat (0 : Int))]'h9)) : Nat) : Int) ≥ (((List.length ((Go.Abs.King.fewL x7.2.2.1 x7.2.2.2.1)[(Int.toNat (0 : Int))]'h10)) : Nat) : Int))) == Bool.true))
                     (br (((decide ((Go.Abs.King.looksE x7.2.2.2.2.2.1 (x7.2.2.2.2.2.2.2.2.1 ++ (x7.2.2.2.2.2.2.1 :: ([] : List (List Int)))) (List.replicate (Int.toNat x7.2.2.2.2.2.1) (-(1 : Int) : Int))) ≥ (Go.Abs.King.looksE x7.2.2.1 x7.2.2.2.1 (List.replicate (Int.toNat x7.2.2.1) (-(1 : Int) : Int))))) == Bool.true))
                      ((Go.Abs.King.v17.p ()) ∧
                      (k (Go.Abs.AVal.bool Bool.true) []))
                      ((k (Go.Abs.AVal.bool Bool.false) [])))
                     ((k (Go.Abs.AVal.bool Bool.false) [])))
                    ((Go.Abs.King.v17.p ()) ∧
                    (k (Go.Abs.AVal.bool Bool.true) []))))))
                ((k (Go.Abs.AVal.bool Bool.false) [])))
               ((k (Go.Abs.AVal.bool Bool.false) [])))
              ((k (Go.Abs.AVal.bool Bool.false) [])))) ((x5.2.1, ((0 : Int), (x5.2.2.2.1, (x5.2.2.2.2.1, (x5.2.2.2.2.2.1, (x5.2.2.2.1, (([] : List Int), (x5.2.2.2.2.2.2.1, ((([] : List (List Int)) ++ x5.2.2.2.2.1), ())))))))))))) ((mark, (pot, ((0 : Int), (m, (pots, ((m + (1 : Int)), (([] : List (List Int)), ()))))))))))
      ((Go.Abs.King.v17.p ()) ∧
      (k (Go.Abs.AVal.bool Bool.true) [])))
     ((Go.Abs.King.v17.p ()) ∧
     (k (Go.Abs.AVal.bool Bool.true) [])))
    ((Go.Abs.King.v17.p ()) ∧
    (k (Go.Abs.AVal.bool Bool.true) [])))
   ((Go.Abs.King.v17.p ()) ∧
   (k (Go.Abs.AVal.bool Bool.true) []))
theorem eq11 (m : Int) (pots : List (List Int)) (mark pot : List Int) (k : AVal → List Cont → Prop) : awpF (envOf [(40, mkC [v40]), (17, mkC [v17]), (48, mkC [v48]), (42, mkC [v42]), (45, mkC [v45]), (30, mkC [v30])]) Try.prog kt 11 false Try.f11 (v11.S.enc Unit (m, pots, mark, pot, ())).1 [] k = vc11 m pots mark pot k := by kernel_rfl

theorem tx11 : (Try.f11.body.map Code.textsOk).getD true = true := by kernel_rfl
end Go.Abs.King
end

section
/- The king's statements: one more mark, one more pot. -/
open Go.Proofs
set_option maxRecDepth 100000
set_option linter.unusedVariables false
namespace Go.Abs.King

/-- What can be told within some looks can be told so, too, where others look like it. -/
theorem T_map {f f' : Nat → Nat → Int} {m m' : Nat} (σ : Nat → Nat) : ∀ (d : Nat) {S S' : Nat → Prop}, (∀ i, S' i → S (σ i)) → (∀ i k, S' i → S' k → σ i = σ k → i = k) → (∀ j, j < m → ∃ j', j' < m' ∧ ∀ i k, S' i → S' k → f' i j' = f' k j' → f (σ i) j = f (σ k) j) → T f m d S → T f' m' d S'
  | 0, S, S', hs, hi, hj, h => fun i k h1 h2 => hi i k h1 h2 (h _ _ (hs i h1) (hs k h2))
  | d + 1, S, S', hs, hi, hj, h => by
    rcases h with h | ⟨j, hjm, h⟩
    · exact Or.inl (fun i k h1 h2 => hi i k h1 h2 (h _ _ (hs i h1) (hs k h2)))
    · obtain ⟨j', hj', he⟩ := hj j hjm
      refine Or.inr ⟨j', hj', fun v => ?_⟩
      by_cases hex : ∃ i, S' i ∧ f' i j' = v
      · obtain ⟨i0, h0, hv⟩ := hex
        refine T_map σ d (fun i hi' => ⟨hs i hi'.1, he i i0 hi'.1 h0 (hi'.2.trans hv.symm)⟩) (fun i k h1 h2 => hi i k h1.1 h2.1) (fun x hx => ?_) (h (f (σ i0) j))
        obtain ⟨x', hx', hxe⟩ := hj x hx
        exact ⟨x', hx', fun i k h1 h2 => hxe i k h1.1 h2.1⟩
      · exact T_one (fun i k h1 _ => absurd ⟨i, h1.1, h1.2⟩ hex) d

/-- How many marks the shortest lists have. -/
def fewN (m : Int) (pots : List (List Int)) : Nat := (fewK m pots).getD 0
theorem few_first {m : Int} {pots : List (List Int)} (hf : checkShelf m pots = 0) (h : isF m pots = true) : 0 < (fewL m pots).length ∧ (∀ hh : 0 < (fewL m pots).length, (fewL m pots)[0].length = fewN m pots) ∧ ∃ l, isList l m = true ∧ hardB pots l = false ∧ l.length = fewN m pots := by
  have hE : fewE m pots = 0 := of_decide_eq_true h
  rcases isF_err hf with ⟨h1, _, _⟩ | ⟨n, _, _, h3, _, h5⟩
  · omega
  · have hn : fewN m pots = n := by unfold fewN; rw [h3]; rfl
    have hs := few_spec hf h3 _ (List.getElem_mem h5)
    rw [hn]
    exact ⟨h5, fun hh => hs.2.1, _, hs.1, hs.2.2, hs.2.1⟩
theorem few_least {m : Nat} {pots : List (List Int)} (hf : checkShelf (m : Int) pots = 0) {l : List Int} (hl : isList l (m : Int) = true) (hh : hardB pots l = false) : fewN (m : Int) pots ≤ l.length := by
  obtain ⟨n, h1, h2, _⟩ := few_min hf hl hh
  unfold fewN
  rw [h1]; exact h2
theorem hard_of {pots : List (List Int)} {marks : List Int} (h : ∀ i k, i < k → k < pots.length → ∃ y ∈ marks, mk pots i y.toNat ≠ mk pots k y.toNat) : hardB pots marks = false := by
  cases hh : hardB pots marks with
  | false => rfl
  | true =>
    obtain ⟨i, k, hik, hk, ht⟩ := hardB_iff.1 hh
    have := tells_iff.2 (h i k hik hk)
    rw [this] at ht; cases ht

theorem value_range {l : List Int} (hl : bytesL l) (i : Int) : 0 ≤ valueB l i ∧ valueB l i ≤ 4 := by
  unfold valueB
  split
  · omega
  · rename_i h
    have h1 : 0 ≤ l.getD (i % (l.length : Int)).toNat 0 := by
      rw [List.getD_eq_getElem?_getD]
      cases hh : l[(i % (l.length : Int)).toNat]? with
      | none => simp
      | some x => exact (hl x (List.mem_of_getElem? hh)).1
    have := Int.emod_nonneg (l.getD (i % (l.length : Int)).toNat 0) (by omega : (5 : Int) ≠ 0)
    have := Int.emod_lt_of_pos (l.getD (i % (l.length : Int)).toNat 0) (by omega : (0 : Int) < 5)
    omega
/-- With one more mark. -/
def moreM (pots : List (List Int)) (mark : List Int) (i : Nat) : List (List Int) := (List.range i).map (fun t : Nat => pots.getD t [] ++ [valueB mark (t : Int)])
theorem moreM_succ (pots : List (List Int)) (mark : List Int) (i : Nat) : moreM pots mark (i + 1) = moreM pots mark i ++ [pots.getD i [] ++ [valueB mark (i : Int)]] := by
  unfold moreM
  rw [List.range_succ, List.map_append]; rfl
theorem moreM_len (pots : List (List Int)) (mark : List Int) (i : Nat) : (moreM pots mark i).length = i := by simp [moreM]
def lastP (pot : List Int) (i : Nat) : List Int := (List.range i).map (fun t : Nat => valueB pot (t : Int))
theorem lastP_succ (pot : List Int) (i : Nat) : lastP pot (i + 1) = lastP pot i ++ [valueB pot (i : Int)] := by
  unfold lastP
  rw [List.range_succ, List.map_append]; rfl
theorem lastP_len (pot : List Int) (i : Nat) : (lastP pot i).length = i := by simp [lastP]
theorem moreM_fine {m : Nat} {pots : List (List Int)} {mark : List Int} (hf : checkShelf (m : Int) pots = 0) (hm : m < 6) (hb : bytesL mark) : checkShelf ((m + 1 : Nat) : Int) (moreM pots mark pots.length) = 0 := by
  obtain ⟨f1, f2, f3, f4⟩ := fine_spec hf
  refine fine_mk (by omega) (by rw [moreM_len]; omega) (fun p hp => ?_) (fun p hp x hx => ?_)
  · obtain ⟨t, ht, rfl⟩ := List.mem_map.1 hp
    have ht := List.mem_range.1 ht
    rw [List.length_append, getP ht]
    have := f3 _ (List.getElem_mem ht)
    simp only [List.length_singleton]; omega
  · obtain ⟨t, ht, rfl⟩ := List.mem_map.1 hp
    have ht := List.mem_range.1 ht
    rw [getP ht] at hx
    rcases List.mem_append.1 hx with hx | hx
    · exact f4 _ (List.getElem_mem ht) _ hx
    · rw [List.mem_singleton.1 hx]; exact value_range hb _
theorem moreM_mk {m : Nat} {pots : List (List Int)} {mark : List Int} (hf : checkShelf (m : Int) pots = 0) {i j : Nat} (hi : i < pots.length) (hj : j < m) : mk (moreM pots mark pots.length) i j = mk pots i j := by
  have hl : i < (moreM pots mark pots.length).length := by rw [moreM_len]; exact hi
  obtain ⟨hjl, _, _⟩ := mk_val hf hi hj
  have e1 : (moreM pots mark pots.length).getD i [] = pots[i] ++ [valueB mark (i : Int)] := by
    have e3 : (moreM pots mark pots.length)[i] = pots.getD i [] ++ [valueB mark (i : Int)] := by simp [moreM]
    rw [getP hl, e3, getP hi]
  have e2 : pots.getD i [] = pots[i] := getP hi
  unfold mk
  rw [e1, e2, List.getD_eq_getElem?_getD, List.getElem?_append_left hjl, ← List.getD_eq_getElem?_getD]
theorem isList_more {l : List Int} {m : Nat} (h : isList l (m : Int) = true) : isList l ((m + 1 : Nat) : Int) = true := by
  obtain ⟨h1, h2⟩ := (rises_iff (m : Int) l 0).1 h
  exact (rises_iff ((m + 1 : Nat) : Int) l 0).2 ⟨fun x hx => by have := h1 x hx; omega, h2⟩

/-- With one more mark no more is needed. -/
theorem more_marks {m : Nat} {pots : List (List Int)} {mark : List Int} (hf : checkShelf (m : Int) pots = 0) (hm : m < 6) (hb : bytesL mark) (hF : isF (m : Int) pots = true) :
    isF ((m + 1 : Nat) : Int) (moreM pots mark pots.length) = true ∧ fewN ((m + 1 : Nat) : Int) (moreM pots mark pots.length) ≤ fewN (m : Int) pots ∧ 0 ≤ looks (moreM pots mark pots.length) (m + 1) (2 ^ pots.length - 1) ∧ looks (moreM pots mark pots.length) (m + 1) (2 ^ pots.length - 1) ≤ looks pots m (2 ^ pots.length - 1) := by
  have hfX := moreM_fine hf hm hb
  have hXl := moreM_len pots mark pots.length
  have htold := (isF_told hf).1 hF
  obtain ⟨_, _, l, hl1, hl2, hl3⟩ := few_first hf hF
  have hcan : isF ((m + 1 : Nat) : Int) (moreM pots mark pots.length) = true := by
    refine (isF_told hfX).2 (fun i k hi hk hne => ?_)
    rw [hXl] at hi hk
    obtain ⟨j, hj, hd⟩ := htold i k hi hk hne
    exact ⟨j, by omega, by rw [moreM_mk hf hi hj, moreM_mk hf hk hj]; exact hd⟩
  refine ⟨hcan, ?_, ?_⟩
  · rw [← hl3]
    refine few_least hfX (isList_more hl1) (hard_of (fun i k hik hk => ?_))
    rw [hXl] at hk
    obtain ⟨y, hy, hd⟩ := hard_false hl2 (show i < pots.length by omega) hk (by omega)
    have hin := ((rises_iff (m : Int) l 0).1 hl1).1 y hy
    exact ⟨y, hy, by rw [moreM_mk hf (by omega) (by omega), moreM_mk hf hk (by omega)]; exact hd⟩
  · have h0 : 0 ≤ looks pots m (2 ^ pots.length - 1) := (told_looks hf (all_lt _)).2 (fun i k hi hk hne => htold i k (all_bits.1 hi) (all_bits.1 hk) hne)
    have hT := (looks_iff hf (all_lt pots.length) (looks pots m (2 ^ pots.length - 1)).toNat).2 ⟨h0, by omega⟩
    have hT2 : T (mk (moreM pots mark pots.length)) (m + 1) (looks pots m (2 ^ pots.length - 1)).toNat (B (2 ^ pots.length - 1)) := T_map (fun i => i) _ (fun i hi => hi) (fun i k _ _ h => h) (fun j hj => ⟨j, by omega, fun i k hi hk he => by
      have hi := all_bits.1 hi
      have hk := all_bits.1 hk
      rw [moreM_mk hf hi hj, moreM_mk hf hk hj] at he
      exact he⟩) hT
    have := (looks_iff hfX (b := 2 ^ pots.length - 1) (by rw [hXl]; exact all_lt _) _).1 hT2
    omega
/-- With one more pot no less is needed. -/
theorem more_pots {m : Nat} {pots : List (List Int)} {q : List Int} (hf : checkShelf (m : Int) pots = 0) (hfY : checkShelf (m : Int) (pots ++ [q]) = 0) (hF : isF (m : Int) (pots ++ [q]) = true) :
    isF (m : Int) pots = true ∧ fewN (m : Int) pots ≤ fewN (m : Int) (pots ++ [q]) ∧ looks pots m (2 ^ pots.length - 1) ≤ looks (pots ++ [q]) m (2 ^ (pots ++ [q]).length - 1) := by
  have hYl : (pots ++ [q]).length = pots.length + 1 := by simp
  have htold := (isF_told hfY).1 hF
  obtain ⟨_, _, l, hl1, hl2, hl3⟩ := few_first hfY hF
  have hto : Told pots m (fun i => i < pots.length) := by
    intro i k hi hk hne
    obtain ⟨j, hj, hd⟩ := htold i k (by show i < (pots ++ [q]).length; rw [hYl]; have : i < pots.length := hi; omega) (by show k < (pots ++ [q]).length; rw [hYl]; have : k < pots.length := hk; omega) hne
    rw [mk_add_old hi, mk_add_old hk] at hd
    exact ⟨j, hj, hd⟩
  refine ⟨(isF_told hf).2 hto, ?_, ?_⟩
  · rw [← hl3]
    refine few_least hf hl1 (hard_of (fun i k hik hk => ?_))
    obtain ⟨y, hy, hd⟩ := hard_false hl2 (show i < (pots ++ [q]).length by omega) (show k < (pots ++ [q]).length by omega) (by omega)
    rw [mk_add_old (by omega), mk_add_old hk] at hd
    exact ⟨y, hy, hd⟩
  · have h0 : 0 ≤ looks (pots ++ [q]) m (2 ^ (pots ++ [q]).length - 1) := (told_looks hfY (all_lt _)).2 (fun i k hi hk hne => htold i k (all_bits.1 hi) (all_bits.1 hk) hne)
    have hT := (looks_iff hfY (all_lt _) (looks (pots ++ [q]) m (2 ^ (pots ++ [q]).length - 1)).toNat).2 ⟨h0, by omega⟩
    have hT2 : T (mk pots) m (looks (pots ++ [q]) m (2 ^ (pots ++ [q]).length - 1)).toNat (B (2 ^ pots.length - 1)) := T_map (fun i => i) _ (fun i hi => all_bits.2 (by have := all_bits.1 hi; omega)) (fun i k _ _ h => h) (fun j hj => ⟨j, hj, fun i k hi hk he => by
      rw [mk_add_old (all_bits.1 hi), mk_add_old (all_bits.1 hk)]; exact he⟩) hT
    have := (looks_iff hf (all_lt pots.length) _).1 hT2
    omega

theorem k11 (hG : Good Try.prog (envOf [(40, mkC [v40]), (17, mkC [v17]), (48, mkC [v48]), (42, mkC [v42]), (45, mkC [v45]), (30, mkC [v30])])) : v11.Kept Try.prog 11 := by
  rintro ⟨m, pots, mark, pot, ⟨⟩⟩ hpre k hk
  change List (List Int) at pots
  change Int at m
  change List Int at mark pot
  refine aspec hmix hG Try.func11 tx11 (Eq.mpr (eq11 m pots mark pot k) ?_)
  replace hk : k (.bool true) [] := hk
  have hbm : bytesL mark := fun b hb => hpre.1 b hb
  have hbp : bytesL pot := fun b hb => hpre.2 b hb
  unfold vc11
  refine ⟨trivial, br_intro (fun h1 => ?_) (fun h1 => ⟨trivial, hk⟩)⟩
  obtain ⟨hf, hs⟩ := fine_of (notfine_f (eq_of_beq h1))
  obtain ⟨f1, f2, f3, f4⟩ := fine_spec hf
  obtain ⟨mm, rfl⟩ := Int.eq_ofNat_of_zero_le (show 0 ≤ m by omega)
  rw [br_false]
  refine ⟨fun h8 => ?_, fun _ => ⟨trivial, hk⟩⟩
  rw [br_false]
  refine ⟨fun h6 => ?_, fun _ => ⟨trivial, hk⟩⟩
  rw [br_false]
  refine ⟨fun hl1 => ?_, fun _ => ⟨trivial, hk⟩⟩
  rw [br_decide]
  refine ⟨fun _ => ⟨trivial, hk⟩, fun hl2 => ⟨fits64 (by omega) (by omega), ?_⟩⟩
  have hmm1 : (mm : Int) + 1 = ((mm + 1 : Nat) : Int) := by omega
  refine Loop.upto (fun i => (mark, pot, (i : Int), (mm : Int), pots, ((mm + 1 : Nat) : Int), moreM pots mark i, ())) (fun i => True) pots.length rfl trivial ?_ ?_
  · intro i K hi _ hK
    have hK := hK trivial
    rw [moreM_succ, getP hi] at hK
    dsimp only
    have hml := moreM_len pots mark i
    have hpl := f3 _ (List.getElem_mem hi)
    rw [br_decide]
    simp only [Int.toNat_natCast]
    exact ⟨fun _ => ⟨⟨by omega, hi⟩, by simp [big]; omega, ⟨by show mark.length ≤ 1152921504606846976; omega, by show (0 : Int) ≤ (i : Int); omega, by show (i : Int) ≤ 1000000; omega, hbm⟩, by simp [big]; omega, by simp [big]; omega, fits64 (by omega) (by omega), hK⟩, fun h => absurd hi (by omega)⟩
  intro K _
  dsimp only
  rw [br_decide]
  refine ⟨fun h => absurd h (by omega), fun _ => ⟨by simp [big]; omega, ?_⟩⟩
  have hfX := moreM_fine hf (by omega : mm < 6) hbm
  have hXl := moreM_len pots mark pots.length
  have hmm := fun h => more_marks (mark := mark) hf (by omega) hbm h
  generalize moreM pots mark pots.length = X at hfX hXl hmm
  refine Loop.upto (fun i => (pot, (i : Int), (mm : Int), pots, ((mm + 1 : Nat) : Int), (mm : Int), lastP pot i, X, pots, ())) (fun i => True) mm rfl trivial ?_ ?_
  · intro i K2 hi _ hK2
    have hK2 := hK2 trivial
    rw [lastP_succ] at hK2
    dsimp only
    have hll := lastP_len pot i
    rw [br_decide]
    exact ⟨fun _ => ⟨⟨by show pot.length ≤ 1152921504606846976; omega, by show (0 : Int) ≤ (i : Int); omega, by show (i : Int) ≤ 1000000; omega, hbp⟩, by simp [big]; omega, fits64 (by omega) (by omega), hK2⟩, fun h => absurd hi (by omega)⟩
  intro K2 _
  dsimp only
  rw [br_decide]
  refine ⟨fun h => absurd h (by omega), fun _ => ⟨by simp [big]; omega, ?_⟩⟩
  have hll := lastP_len pot mm
  have hfY := fine_add hf (by omega : pots.length < 8) hll (fun x hx => by
    obtain ⟨t, _, rfl⟩ := List.mem_map.1 hx
    exact value_range hbp _)
  have hmp := fun h => more_pots hf hfY h
  generalize pots ++ [lastP pot mm] = Y at hfY hmp ⊢
  have hsX : smallS X := by
    obtain ⟨_, g2, g3, _⟩ := fine_spec hfX
    exact ⟨by omega, fun q hq => by have := g3 q hq; omega⟩
  have hsY : smallS Y := by
    obtain ⟨_, g2, g3, _⟩ := fine_spec hfY
    exact ⟨by omega, fun q hq => by have := g3 q hq; omega⟩
  have hu0 := unseen_ok hf
  have huX := unseen_ok hfX
  have huY := unseen_ok hfY
  have hlk0 := looks_unseen hf
  have hlkX := looks_unseen hfX
  have hlkY := looks_unseen hfY
  rw [hXl] at hlkX
  simp only [Int.toNat_natCast]
  have hrl : ∀ n : Nat, n ≤ 7 → (List.replicate n (-1 : Int)).length ≤ 1152921504606846976 := fun n hn => by rw [List.length_replicate]; omega
  refine ⟨hf, hfX, hfY, by show (mm : Int) ≤ 100; omega, ⟨hs, hrl mm (by omega)⟩, by show ((mm + 1 : Nat) : Int) ≤ 100; omega, ⟨hsX, hrl (mm + 1) (by omega)⟩, by show (mm : Int) ≤ 100; omega, ⟨hsY, hrl mm (by omega)⟩, ?_⟩
  rw [hu0, huX, huY, n00, ff1, br_t, br_t, br_t]
  simp only [hlk0, hlkX, hlkY]
  have hff0 := fun h => few_first hf h
  have hffX := fun h => few_first hfX h
  have hffY := fun h => few_first hfY h
  have h0 : (Int.toNat (0 : Int)) = 0 := rfl
  generalize isF (mm : Int) pots = i0 at *
  generalize isF ((mm + 1 : Nat) : Int) X = iX at *
  generalize isF (mm : Int) Y = iY at *
  have htr : v17.p () ∧ k (.bool true) [] := ⟨trivial, hk⟩
  cases i0 with
  | false =>
    have hY : iY = false := by
      cases iY with
      | false => rfl
      | true => exact absurd (hmp rfl).1 (by simp)
    rw [hY]
    simp only [ft1, tf1, Bool.not_false, br_t, br_f]
    exact htr
  | true =>
    obtain ⟨x1, x2, x3, x4⟩ := hmm rfl
    subst x1
    obtain ⟨a1, a2, _⟩ := hff0 rfl
    obtain ⟨b1, b2, _⟩ := hffX rfl
    have d1 : decide (((fewN ((mm + 1 : Nat) : Int) X : Nat) : Int) ≤ ((fewN (mm : Int) pots : Nat) : Int)) = true := decide_eq_true (by omega)
    have d2 : decide (looks X (mm + 1) (2 ^ pots.length - 1) ≤ looks pots mm (2 ^ pots.length - 1)) = true := decide_eq_true x4
    have d3 : decide (looks X (mm + 1) (2 ^ pots.length - 1) ≥ 0) = true := decide_eq_true x3
    cases iY with
    | false =>
      simp only [ft1, ff1, tf1, tt1, Bool.not_false, Bool.not_true, br_t, br_f, h0, a2, b2, d1, d2, d3]
      exact ⟨⟨by omega, b1⟩, b1, ⟨by omega, a1⟩, a1, htr⟩
    | true =>
      obtain ⟨_, y2, y3⟩ := hmp rfl
      obtain ⟨c1, c2, _⟩ := hffY rfl
      have d4 : decide (((fewN (mm : Int) Y : Nat) : Int) ≥ ((fewN (mm : Int) pots : Nat) : Int)) = true := decide_eq_true (by omega)
      have d5 : decide (looks Y mm (2 ^ Y.length - 1) ≥ looks pots mm (2 ^ pots.length - 1)) = true := decide_eq_true y3
      simp only [ff1, tt1, Bool.not_true, br_t, br_f, h0, a2, b2, c2, d1, d2, d3, d4, d5]
      exact ⟨⟨by omega, b1⟩, b1, ⟨by omega, a1⟩, a1, ⟨by omega, c1⟩, c1, ⟨by omega, a1⟩, a1, htr⟩
end Go.Abs.King
end

section
/- The king's statements: trees. -/
open Go.Proofs
set_option maxRecDepth 100000
set_option linter.unusedVariables false
namespace Go.Abs.King

theorem right_err {m : Int} {pots : List (List Int)} {t : List Look} (h : RightT m pots t) : treeErr m pots t = 0 := by
  unfold treeErr
  have h1 : ¬ pots.length < t.length := by have := h.len; omega
  have h2 : ¬ t.any (strayL m) = true := by
    intro hh
    obtain ⟨x, hx, hs⟩ := List.any_eq_true.1 hh
    obtain ⟨i, hi, rfl⟩ := List.getElem_of_mem hx
    have hs := of_decide_eq_true hs
    have := h.mark i hi
    rw [lookAt_eq hi] at this
    omega
  have h3 : ¬ t.any notFive = true := by
    intro hh
    obtain ⟨x, hx, hs⟩ := List.any_eq_true.1 hh
    obtain ⟨i, hi, rfl⟩ := List.getElem_of_mem hx
    have hs := of_decide_eq_true hs
    have := (h.ok i hi).1
    rw [lookAt_eq hi] at this
    omega
  have h4 : ¬ badNext t pots.length = true := by
    intro hh
    obtain ⟨i, hi, hs⟩ := List.any_eq_true.1 hh
    have hi := List.mem_range.1 hi
    obtain ⟨y, hy, hb⟩ := List.any_eq_true.1 hs
    have hb := of_decide_eq_true hb
    have h5 := (h.ok i hi).2 y hy
    have h6 := h.low i hi y hy
    omega
  have h5 : ¬ badCount t = true := by
    intro hh
    obtain ⟨i, hi, hs⟩ := List.any_eq_true.1 hh
    have hi := List.mem_range.1 hi
    rw [Bool.and_eq_true, decide_eq_true_eq, decide_eq_true_eq] at hs
    exact hs.2 (h.count i hs.1 hi)
  rw [if_neg h1, if_neg h2, if_neg h3, if_neg h4, if_neg h5]
theorem treeE_zero {m : Nat} {pots : List (List Int)} {t : List Look} (hf : checkShelf (m : Int) pots = 0) : treeE (m : Int) pots t = 0 ↔ RightT (m : Int) pots t ∧ (t.length = 0 → pots.length = 1) ∧ (0 < t.length → ∀ i, i < pots.length → endsAt t (pots.getD i []) = -2 - (i : Int)) := by
  have hE : treeE (m : Int) pots t = if treeErr (m : Int) pots t ≠ 0 then treeErr (m : Int) pots t else if t.length = 0 then (if pots.length = 1 then 0 else 27) else if noTells pots t then 27 else 0 := by
    rw [treeE, if_neg (not_not_intro hf)]
  rw [hE]
  constructor
  · intro h
    split at h
    · rename_i hc; exact absurd h hc
    · rename_i hc
      have hr := treeErr_ok (Classical.byContradiction hc)
      split at h
      · rename_i h0
        split at h
        · exact ⟨hr, fun _ => by assumption, fun h1 => by omega⟩
        · omega
      · rename_i h0
        split at h
        · omega
        · rename_i hn
          refine ⟨hr, fun h1 => absurd h1 h0, fun _ i hi => ?_⟩
          by_cases e : endsAt t (pots.getD i []) = -2 - (i : Int)
          · exact e
          · exact absurd (any_range_true hi (decide_eq_true e)) hn
  · rintro ⟨hr, h1, h2⟩
    rw [if_neg (not_not_intro (right_err hr))]
    split
    · rename_i h0
      rw [if_pos (h1 h0)]
    · rename_i h0
      rw [if_neg]
      intro hn
      obtain ⟨i, hi, hs⟩ := List.any_eq_true.1 hn
      exact (of_decide_eq_true hs) (h2 (by omega) i (List.mem_range.1 hi))
theorem nodup_le {α : Type} [DecidableEq α] : ∀ (l l' : List α), l.Nodup → (∀ x ∈ l, x ∈ l') → l.length ≤ l'.length
  | [], _, _, _ => by simp
  | x :: l, l', hn, hs => by
    rw [List.nodup_cons] at hn
    have hx := hs x (by simp)
    have := nodup_le l (l'.erase x) hn.2 (fun y hy => (List.mem_erase_of_ne (fun (e : y = x) => hn.1 (by rw [← e]; exact hy))).2 (hs y (List.mem_cons_of_mem _ hy)))
    rw [List.length_erase_of_mem hx] at this
    have := List.length_pos_of_mem hx
    simp only [List.length_cons]
    omega
theorem next_len {t : List Look} (h : ∀ l ∈ t, l.2.length = 5) : (allNext t).length = 5 * t.length := by
  induction t with
  | nil => rfl
  | cons a t ih =>
    unfold allNext at ih ⊢
    rw [List.flatMap_cons, List.length_append, h a (by simp), ih (fun l hl => h l (List.mem_cons_of_mem _ hl)), List.length_cons]
    omega
theorem walk_in {m : Nat} {pots : List (List Int)} {t : List Look} (hr : RightT (m : Int) pots t) {p : List Int} (hp : (p.length : Int) = (m : Int)) (hv : ∀ x ∈ p, 0 ≤ x ∧ x ≤ 4) (h0 : 0 < t.length) : ∀ c, walkT t p c 0 < 0 → walkT t p c 0 ∈ allNext t
  | 0, h => by have : (0 : Int) < 0 := h; omega
  | c + 1, h => by
    rw [walkT_snoc] at h ⊢
    by_cases hn : walkT t p c 0 < 0
    · rw [if_pos hn]; exact walk_in hr hp hv h0 c hn
    · rw [if_neg hn]
      obtain ⟨i1, _, _⟩ := walk_room hr hp hv h0 c
      have hi : (walkT t p c 0).toNat < t.length := by omega
      obtain ⟨s1, s2, s3, s4, s5, _⟩ := step_mem hr hp hv hi
      rw [s5]
      exact List.mem_flatMap.2 ⟨_, List.getElem_mem hi, List.getElem_mem s2⟩
/-- A right tree has as many ends as there are pots. -/
theorem leaves {m : Nat} {pots : List (List Int)} {t : List Look} (hf : checkShelf (m : Int) pots = 0) (hr : RightT (m : Int) pots t) (h0 : 0 < t.length) (he : ∀ i, i < pots.length → endsAt t (pots.getD i []) = -2 - (i : Int)) : pots.length ≤ 4 * t.length + 1 := by
  obtain ⟨f1, f2, f3, f4⟩ := fine_spec hf
  have hlen := next_len (t := t) (fun l hl => by
    obtain ⟨i, hi, rfl⟩ := List.getElem_of_mem hl
    have := (hr.ok i hi).1
    rwa [lookAt_eq hi] at this)
  have := nodup_le ((List.range (t.length - 1)).map (fun i => ((i + 1 : Nat) : Int)) ++ (List.range pots.length).map (fun i => -2 - ((i : Nat) : Int))) (allNext t) ?_ ?_
  · rw [List.length_append, List.length_map, List.length_map, List.length_range, List.length_range] at this
    omega
  · rw [List.nodup_append]
    refine ⟨?_, ?_, ?_⟩
    · unfold List.Nodup
      rw [List.pairwise_map]
      exact List.Pairwise.imp (R := (· < ·)) (fun {a b} h e => by omega) List.pairwise_lt_range
    · unfold List.Nodup
      rw [List.pairwise_map]
      exact List.Pairwise.imp (R := (· < ·)) (fun {a b} h e => by omega) List.pairwise_lt_range
    · intro a ha b hb e
      obtain ⟨i, _, rfl⟩ := List.mem_map.1 ha
      obtain ⟨k, _, rfl⟩ := List.mem_map.1 hb
      omega
  · intro x hx
    rcases List.mem_append.1 hx with hx | hx
    · obtain ⟨i, hi, rfl⟩ := List.mem_map.1 hx
      have hi := List.mem_range.1 hi
      have := hr.count (i + 1) (by omega) (by omega)
      exact List.count_pos_iff.1 (by omega)
    · obtain ⟨i, hi, rfl⟩ := List.mem_map.1 hx
      have hi := List.mem_range.1 hi
      have h := he i hi
      rw [← h]
      rw [getP hi] at h ⊢
      exact walk_in hr (f3 _ (List.getElem_mem hi)) (f4 _ (List.getElem_mem hi)) h0 t.length (by unfold endsAt at h; omega)
/-- No right tree takes fewer looks than are needed. -/
theorem right_looks {m : Nat} {pots : List (List Int)} {t : List Look} (hf : checkShelf (m : Int) pots = 0) (h : treeE (m : Int) pots t = 0) : 0 ≤ looks pots m (2 ^ pots.length - 1) ∧ looks pots m (2 ^ pots.length - 1) ≤ treeN (m : Int) pots t ∧ pots.length ≤ 4 * t.length + 1 := by
  obtain ⟨f1, f2, f3, f4⟩ := fine_spec hf
  obtain ⟨hr, h1, h2⟩ := (treeE_zero hf).1 h
  rw [treeN_eq]
  rcases Nat.eq_zero_or_pos t.length with h0 | h0
  · have hone := h1 h0
    have hc : cnt (2 ^ pots.length - 1) pots.length < 2 := by have := cnt_le (2 ^ pots.length - 1) pots.length; omega
    have hl : looks pots m (2 ^ pots.length - 1) = 0 := by rw [looks_eq, if_pos hc]
    unfold treeN2
    rw [if_pos (Or.inr h0), hl]
    omega
  · have he := h2 h0
    have hT := tree_T hf hr (t.length + 1) 0 (B (2 ^ pots.length - 1)) (by omega) h0 (fun i hi => by
      have hi := all_bits.1 hi
      exact ⟨hi, t.length, he i hi⟩)
    have hL := (looks_iff hf (all_lt pots.length) _).1 hT
    have hp := deep_pos hr.ok h0
    have e : deepI t ((0 : Nat) : Int) = deepI t 0 := rfl
    rw [e] at hL hp
    unfold treeN2
    rw [if_neg (by omega)]
    exact ⟨hL.1, by omega, leaves hf hr h0 he⟩
/-- The tree that is made is right, and takes as many looks as are needed. -/
theorem made_right {m : Nat} {pots : List (List Int)} (hf : checkShelf (m : Int) pots = 0) (h : 0 ≤ looks pots m (2 ^ pots.length - 1)) : madeE (m : Int) pots = 0 ∧ treeE (m : Int) pots (madeT (m : Int) pots) = 0 ∧ treeN2 (m : Int) pots (madeT (m : Int) pots) = looks pots m (2 ^ pots.length - 1) ∧ smallT (madeT (m : Int) pots) := by
  obtain ⟨f1, f2, f3, f4⟩ := fine_spec hf
  have hE : madeE (m : Int) pots = 0 := by
    have : canTree (m : Int) pots = true := decide_eq_true h
    rw [madeE, if_neg (not_not_intro hf), this]; rfl
  have hM : madeT (m : Int) pots = segF pots m (2 ^ pots.length - 1) 0 (2 ^ pots.length - 1) := by
    rw [madeT, hE, if_neg (by omega)]
    have := growF_seg pots m (2 ^ pots.length - 1) [] (2 ^ pots.length - 1)
    rw [List.nil_append] at this
    exact this
  refine ⟨hE, ?_⟩
  rw [hM]
  have hlt := all_lt pots.length
  by_cases hl : 1 ≤ looks pots m (2 ^ pots.length - 1)
  · have hs := seg_all hf _ 0 _ (Nat.lt_succ_self _) hlt hl
    have hgl := (growF_len (m := m) (by omega : pots.length ≤ 8) _ _ [] (Nat.lt_succ_self _) hlt hl).1
    rw [growF_seg, List.nil_append, List.length_nil] at hgl
    have hcl := cnt_le (2 ^ pots.length - 1) pots.length
    generalize segF pots m (2 ^ pots.length - 1) 0 (2 ^ pots.length - 1) = t at hs hgl
    have hpos := hs.pos
    have hr : RightT (m : Int) pots t := by
      refine ⟨by omega, fun i hi => ?_, fun i hi => ⟨?_, fun y hy => ?_⟩, fun i hi y hy => ?_, fun x hx hxl => ?_⟩
      · rw [lookAt_eq hi]
        have := hs.mark _ (List.getElem_mem hi)
        exact ⟨this.1, this.2.1⟩
      · rw [lookAt_eq hi]
        exact (hs.mark _ (List.getElem_mem hi)).2.2
      · rw [lookAt_eq hi] at hy
        rcases hs.num i hi y hy with e | ⟨_, _, e⟩ | ⟨e1, e2⟩ <;> omega
      · rw [lookAt_eq hi] at hy
        rcases hs.num i hi y hy with e | ⟨_, _, e⟩ | ⟨e1, e2⟩ <;> omega
      · exact hs.count x hx (by omega)
    obtain ⟨l1, l2⟩ := hs.leads t hr.ok (by omega) (fun i hi => by rw [Nat.zero_add]; exact lookAt_eq hi)
    have he : ∀ i, i < pots.length → endsAt t (pots.getD i []) = -2 - (i : Int) := by
      intro i hi
      obtain ⟨c, hc⟩ := l1 i (all_bits.2 hi)
      have hc : walkT t (pots.getD i []) c 0 = -2 - (i : Int) := hc
      rcases Nat.lt_or_ge t.length c with h' | h'
      · have hg := getP hi
        have hen := (ends_neg hr (hg ▸ f3 _ (List.getElem_mem hi)) (hg ▸ f4 _ (List.getElem_mem hi)) hpos).1
        have := walkT_stay t (pots.getD i []) t.length 0 hen (c - t.length)
        have e : t.length + (c - t.length) = c := by omega
        rw [e, hc] at this
        exact this.symm
      · rw [ends_at h' (by omega), hc]
    have hE2 : treeE (m : Int) pots t = 0 := (treeE_zero hf).2 ⟨hr, fun h => by omega, fun _ => he⟩
    refine ⟨hE2, ?_, by omega, fun l hl => ?_⟩
    · unfold treeN2
      rw [if_neg (by omega)]
      exact l2
    · have := (hs.mark l hl).2.2; omega
  · have hz : looks pots m (2 ^ pots.length - 1) = 0 := by omega
    have hnil : segF pots m (2 ^ pots.length - 1) 0 (2 ^ pots.length - 1) = [] := by
      generalize 2 ^ pots.length - 1 = b at hz
      cases b with
      | zero => rfl
      | succ f => unfold segF; rw [if_pos (by omega)]
    rw [hnil, hz]
    have hone : pots.length = 1 := by
      have ht := (looks_iff hf hlt 0).2 (by omega)
      by_cases h1 : 1 < pots.length
      · have := ht 0 1 (all_bits.2 (by omega)) (all_bits.2 h1)
        omega
      · omega
    have hr : RightT (m : Int) pots [] := ⟨by simp, fun i hi => by simp at hi, fun i hi => by simp at hi, fun i hi => by simp at hi, fun x _ hx => by simp at hx⟩
    exact ⟨(treeE_zero hf).2 ⟨hr, fun _ => hone, fun h => by simp at h⟩, by unfold treeN2; rw [if_pos (Or.inr List.length_nil)], by simp, by simp⟩
theorem wide_small {t : List Look} (h : wide t = false) : smallT t := by
  unfold wide at h
  have h1 : decide (14 < t.length) = false := by
    cases hd : decide (14 < t.length) with
    | true => rw [hd] at h; cases h
    | false => rfl
  rw [h1, Bool.false_or] at h
  refine ⟨by have := of_decide_eq_false h1; omega, fun p hp => ?_⟩
  have := List.any_eq_false.1 h p hp
  have h2 : ¬ 12 < p.2.length := fun hh => this (decide_eq_true hh)
  omega
theorem small_wide {t : List Look} (h : smallT t) : wide t = false := by
  unfold wide
  rw [decide_eq_false (by have := h.1; omega), Bool.false_or, List.any_eq_false]
  intro p hp hh
  have := h.2 p hp
  have := of_decide_eq_true hh
  omega

theorem k6 (hG : Good Try.prog (envOf [(15, mkC [v15]), (34, mkC [v34]), (17, mkC [v17]), (35, mkC [v35]), (36, mkC [v36]), (37, mkC [v37]), (38, mkC [v38]), (39, mkC [v39])])) : v6.Kept Try.prog 6 := by
  rintro ⟨m, pots, t, ⟨⟩⟩ hpre k hk
  change List (List Int) at pots
  change List (Int × List Int) at t
  change Int at m
  refine aspec hmix hG Try.func6 tx6 (Eq.mpr (eq6 m pots t k) ?_)
  replace hk : k (.bool true) [] := hk
  unfold vc6
  refine ⟨trivial, br_intro (fun h1 => ⟨trivial, br_intro (fun h2 => ⟨trivial, hk⟩) (fun h2 => ?_)⟩) (fun h1 => ⟨trivial, hk⟩)⟩
  have g := great_small (eq_of_beq h1)
  have ht := wide_small h2
  refine ⟨⟨g, ht⟩, ⟨g, ht⟩, g, g, ?_⟩
  have hme : madeE m pots = treeErrE m pots := by
    unfold madeE treeErrE
    by_cases hc : checkShelf m pots = 0
    · rw [if_neg (not_not_intro hc), if_neg (not_not_intro hc)]
      obtain ⟨f1, _⟩ := fine_spec hc
      obtain ⟨mm, rfl⟩ := Int.eq_ofNat_of_zero_le (show 0 ≤ m by omega)
      rw [can_told hc]
    · rw [if_pos hc, if_pos hc]
  rw [treeN_eq, hme]
  simp only [bne_self_eq_false, ff1, br_t]
  by_cases hz : treeErrE m pots = 0
  · have hc : checkShelf m pots = 0 := by
      unfold treeErrE at hz
      split at hz
      · rename_i h; exact absurd hz h
      · rename_i h; exact Classical.byContradiction h
    obtain ⟨f1, f2, f3, f4⟩ := fine_spec hc
    obtain ⟨mm, rfl⟩ := Int.eq_ofNat_of_zero_le (show 0 ≤ m by omega)
    have hlk : 0 ≤ looks pots mm (2 ^ pots.length - 1) := by
      have h3 : madeE (mm : Int) pots = 0 := hme.trans hz
      unfold madeE at h3
      rw [if_neg (not_not_intro hc)] at h3
      split at h3
      · rename_i h; exact of_decide_eq_true h
      · omega
    obtain ⟨r1, r2, r3, r4⟩ := made_right hc hlk
    have hp8 : 2 ^ pots.length ≤ 2 ^ 8 := Nat.pow_le_pow_right (by omega) (by omega)
    have h256 : (2 : Nat) ^ 8 = 256 := by decide
    have hp1 : 1 ≤ 2 ^ pots.length := Nat.one_le_two_pow
    have hsh : shlA .i64 1 ((pots.length : Nat) : Int) = ((2 ^ pots.length : Nat) : Int) := one_shl _ (by omega)
    have hsub : ((2 ^ pots.length : Nat) : Int) - 1 = ((2 ^ pots.length - 1 : Nat) : Int) := by omega
    have hlen := looksAll_len (mm : Int) pots
    rw [small_wide r4, br_f, hz, n00, br_f, r2, e00, tt1, br_t, hsh, hsub]
    refine ⟨trivial, ⟨g, r4⟩, hc, by omega, fits64 (by omega) (by omega), ⟨by omega, by omega⟩, by omega, ?_⟩
    have hget := looksAll_get (mm : Int) pots (2 ^ pots.length - 1) (by omega)
    simp only [Int.toNat_natCast] at hget ⊢
    simp only [hget, r3, beq_self_eq_true, br_t]
    exact ⟨trivial, hk⟩
  · have hnil : madeT m pots = [] := by
      unfold madeT
      rw [if_pos (by rw [hme]; exact hz)]
    rw [hnil]
    have hw : wide ([] : List Look) = false := rfl
    rw [hw, br_f, br_bne]
    exact ⟨trivial, fun _ => ⟨trivial, hk⟩, fun h => absurd h hz⟩

theorem k8 (hG : Good Try.prog (envOf [(40, mkC [v40]), (34, mkC [v34]), (17, mkC [v17]), (45, mkC [v45]), (30, mkC [v30]), (35, mkC [v35]), (37, mkC [v37]), (42, mkC [v42]), (36, mkC [v36])])) : v8.Kept Try.prog 8 := by
  rintro ⟨m, pots, t, ⟨⟩⟩ hpre k hk
  change List (List Int) at pots
  change List (Int × List Int) at t
  change Int at m
  refine aspec hmix hG Try.func8 tx8 (Eq.mpr (eq8 m pots t k) ?_)
  replace hk : k (.bool true) [] := hk
  unfold vc8
  refine ⟨trivial, br_intro (fun h1 => ⟨trivial, br_intro (fun h2 => ⟨trivial, hk⟩) (fun h2 => ?_)⟩) (fun h1 => ⟨trivial, hk⟩)⟩
  obtain ⟨hf, g⟩ := fine_of (notfine_f (eq_of_beq h1))
  have ht := wide_small h2
  obtain ⟨f1, f2, f3, f4⟩ := fine_spec hf
  obtain ⟨mm, rfl⟩ := Int.eq_ofNat_of_zero_le (show 0 ≤ m by omega)
  refine ⟨by show (mm : Int) ≤ 100; omega, ⟨g, by show (List.replicate mm (-1 : Int)).length ≤ 1152921504606846976; rw [List.length_replicate]; omega⟩, ⟨g, ht⟩, g, hf, ?_⟩
  have hlk := looks_unseen hf
  have hus := unseen_ok hf
  have htr : v17.p () ∧ k (.bool true) [] := ⟨trivial, hk⟩
  simp only [Int.toNat_natCast, hlk, hus]
  have hiff : isF (mm : Int) pots = decide (looks pots mm (2 ^ pots.length - 1) ≥ 0) := by
    rw [Bool.eq_iff_iff, decide_eq_true_eq, isF_told hf]
    have := told_looks hf (all_lt pots.length)
    unfold Told at this
    simp only [all_bits] at this
    exact this.symm
  have hright := fun h => right_looks (t := t) hf h
  by_cases hl : 0 ≤ looks pots mm (2 ^ pots.length - 1)
  · have hF : isF (mm : Int) pots = true := by rw [hiff]; exact decide_eq_true hl
    obtain ⟨r1, r2, r3, r4⟩ := made_right hf hl
    obtain ⟨_, _, w3⟩ := right_looks hf r2
    obtain ⟨b1, b2, l, q1, q2, q3⟩ := few_first hf hF
    have hle : looks pots mm (2 ^ pots.length - 1) ≤ ((fewN (mm : Int) pots : Nat) : Int) := by
      have hbnd := ((rises_iff (mm : Int) l 0).1 q1).1
      have := (looks_le_marks hf (all_lt pots.length) (L := l.map Int.toNat) (fun j hj => by
        obtain ⟨y, hy, rfl⟩ := List.mem_map.1 hj
        have := hbnd y hy
        omega) (fun i t hi ht hne => by
        obtain ⟨y, hy, hd⟩ := hard_false q2 (all_bits.1 hi) (all_bits.1 ht) hne
        exact ⟨y.toNat, List.mem_map.2 ⟨y, hy, rfl⟩, hd⟩)).2
      rw [List.length_map, q3] at this
      exact this
    have hml := r4.1
    have htl := ht.1
    have hr3 : treeN (mm : Int) pots (madeT (mm : Int) pots) = looks pots mm (2 ^ pots.length - 1) := by rw [treeN_eq]; exact r3
    have h0 : (Int.toNat (0 : Int)) = 0 := rfl
    have d0 : decide (looks pots mm (2 ^ pots.length - 1) ≥ 0) = true := decide_eq_true hl
    have d1 : decide (looks pots mm (2 ^ pots.length - 1) ≤ ((fewN (mm : Int) pots : Nat) : Int)) = true := decide_eq_true hle
    have d2 : decide ((4 : Int) * ((madeT (mm : Int) pots).length : Int) + 1 ≥ (pots.length : Int)) = true := decide_eq_true (by omega)
    have hsw := small_wide r4
    simp only [hF, d0, r1, r2, hr3, hsw, h0, b2, d1, d2, n00, ft1, Bool.not_true, beq_self_eq_true, br_t, br_f]
    by_cases hE : treeE (mm : Int) pots t = 0
    · obtain ⟨_, z2, z3⟩ := hright hE
      have d3 : decide (treeN (mm : Int) pots t ≥ looks pots mm (2 ^ pots.length - 1)) = true := decide_eq_true z2
      have d4 : decide ((4 : Int) * (t.length : Int) + 1 ≥ (pots.length : Int)) = true := decide_eq_true (by omega)
      simp only [hE, n00, ff1, br_t, d3, d4, tt1]
      exact ⟨trivial, ⟨g, r4⟩, ⟨g, r4⟩, fits64 (by omega) (by omega), fits64 (by omega) (by omega), ⟨by omega, b1⟩, b1, fits64 (by omega) (by omega), fits64 (by omega) (by omega), htr⟩
    · have hb : (treeE (mm : Int) pots t != 0) = true := bne_iff_ne.2 hE
      simp only [hb, tf1, br_f]
      exact ⟨trivial, ⟨g, r4⟩, ⟨g, r4⟩, ⟨by omega, b1⟩, b1, fits64 (by omega) (by omega), fits64 (by omega) (by omega), htr⟩
  · have hF : isF (mm : Int) pots = false := by rw [hiff]; exact decide_eq_false hl
    have d0 : decide (looks pots mm (2 ^ pots.length - 1) ≥ 0) = false := decide_eq_false hl
    have hE : madeE (mm : Int) pots = 27 := by
      have : canTree (mm : Int) pots = false := decide_eq_false hl
      rw [madeE, if_neg (not_not_intro hf), this]; rfl
    have hnil : madeT (mm : Int) pots = [] := by
      unfold madeT
      rw [hE, if_pos (by omega)]
    have hb : (treeE (mm : Int) pots t != 0) = true := bne_iff_ne.2 (fun h => hl (hright h).1)
    have hw : wide ([] : List Look) = false := rfl
    have e27 : ((27 : Int) == 0) = false := rfl
    have hl0 : ((([] : List (Int × List Int)).length : Int) == 0) = true := rfl
    simp only [hF, d0, hE, hnil, hb, hw, e27, hl0, bne_self_eq_false, beq_self_eq_true, tf1, Bool.not_true, Bool.not_false, br_t, br_f]
    exact ⟨trivial, htr⟩
end Go.Abs.King
end

section
/- What comes in: arguments that can be read are plain data, of which all cells are known. -/
namespace Go.Abs
open Go.ChangeShapes Go.WideShapes Go.RowKit

/-- All that lies in a world is known, for good. -/
def knowAll (w : World) : Know where
  cells := fun b => match w.heap[b]? with
    | some (.cells cs _ _) => some cs
    | _ => none
  inv := fun _ => none
  y := none

theorem knowAll_cells {w : World} {b : Nat} {cs : Array Value} (h : (knowAll w).cells b = some cs) : ∃ e fz, w.heap[b]? = some (.cells cs e fz) := by
  simp only [knowAll] at h
  split at h
  · rename_i cs' e fz hb
    cases h
    exact ⟨e, fz, hb⟩
  · cases h

theorem wok_all (w : World) : WOk (fun b => b < w.heap.size) (knowAll w) w where
  knows := ⟨fun b cs h => knowAll_cells h, fun b p h => by cases h⟩
  lt := fun b h => h
  inv := fun b p h => by cases h
  apart := fun b p h => by cases h

theorem below_of_kept {w w' : World} (h : Kept (fun b => b < w.heap.size) w w') : Below w.heap.size w w' := ⟨h.os, h.tape, h.output, h.size, fun k hk => h.block k hk⟩

theorem cells_slab {w : World} {base : Nat} {a : Addr} {n : Nat} {cs : List Value} (h : w.cells? base a n = some cs) (hn : 0 < n) :
    a.spot = none ∧ ∃ arr, (knowAll w).cells a.block = some arr ∧ cs = slab arr a.off n := by
  obtain ⟨_, hl, hc⟩ := World.cells?_some h
  have h0 := hc 0 hn
  have e0 : a.add 0 = a := by simp [Addr.add]
  rw [e0, List.getElem?_eq_getElem (by omega)] at h0
  have hs := World.cell?_spot h0
  refine ⟨hs, ?_⟩
  have hb : ∃ arr e fz, w.heap[a.block]? = some (.cells arr e fz) := by
    unfold World.cell? at h0
    split at h0
    · exact ⟨_, _, _, ‹_›⟩
    · cases h0
  obtain ⟨arr, e, fz, hb⟩ := hb
  refine ⟨arr, by simp only [knowAll, hb], ?_⟩
  have hcell : ∀ i, i < n → arr[a.off + i]? = cs[i]? := by
    intro i hi
    rw [← hc i hi]
    have e1 : (a.add i).block = a.block := by unfold Addr.add; split <;> rfl
    have e2 : (a.add i).off = a.off + i := by unfold Addr.add; split <;> simp_all
    have e3 : (a.add i).spot = none := by unfold Addr.add; split <;> simp_all
    unfold World.cell?
    rw [e1, hb]
    simp only [e3, e2, Option.isSome_none, Bool.false_eq_true, if_false]
  apply List.ext_getElem?
  intro i
  unfold slab
  rw [List.getElem?_take, List.getElem?_drop]
  by_cases hi : i < n
  · rw [if_pos hi, ← hcell i hi, Array.getElem?_toList]
  · rw [if_neg hi, List.getElem?_eq_none (by omega)]

/-- All numbers fit their kinds. -/
def Ty.wf : (t : Ty) → t.den → Prop
  | .int k, n => (Lit.int k n).wf = true
  | .bool, _ => True
  | .slice e, l => ∀ x ∈ (show List e.den from l), e.wf x
  | .pair a b, x => a.wf x.1 ∧ b.wf x.2

variable {H : Type} {enc : TypeId × Value → H} {P : Program} {w : World} {base : Nat} {spare : Nat → Bool} {held : Bool}

theorem trod_bool {t : TypeId} {fuel : Nat} {cs : List Value} {x : DataW H × List MemPlace} (ht : P.underlying t = some .bool) (h : DataW.trod enc P w base spare held fuel t cs = some x) : ∃ b, cs = [.bool b] := by
  cases fuel with
  | zero => simp [DataW.trod] at h
  | succ n =>
    unfold DataW.trod at h
    rw [ht] at h
    split at h <;> simp_all

theorem den_fields {f : TypeId → Option Ty} {K : Know} {n : Nat} {cs : List Value} (hsz : ∀ t ty, f t = some ty → P.cellsOf t = ty.size)
    (hf : ∀ t ty, f t = some ty → ∀ cs x, DataW.trod enc P w base spare held n t cs = some x → ∃ y : ty.den, DenRep K ty y cs ∧ ty.wf y) :
    ∀ (fs : List Field) (o : Nat) (ty : Ty), tyFields f fs o = some ty → cs.length = o + ty.size → (∀ a ∈ fs, ∃ x, DataW.trod enc P w base spare held n a.type ((cs.drop a.offset).take (P.cellsOf a.type)) = some x) → ∃ y : ty.den, DenRep K ty y (cs.drop o) ∧ ty.wf y
  | [], _, _, h, _, _ => by simp [tyFields] at h
  | [a], o, ty, h, hl, hx => by
    replace h : (if a.offset = o then f a.type else none) = some ty := h
    split at h
    · rename_i ho
      obtain ⟨x, hx⟩ := hx a (by simp)
      rw [hsz _ _ h, ho, List.take_of_length_le (by rw [List.length_drop]; omega)] at hx
      exact hf _ _ h _ _ hx
    · cases h
  | a :: b :: r, o, ty, h, hl, hx => by
    replace h : (if a.offset = o then (match f a.type with
      | some x => match tyFields f (b :: r) (o + x.size) with
        | some y => some (.pair x y)
        | none => none
      | none => none) else none) = some ty := h
    split at h
    · rename_i ho
      split at h
      · rename_i x1 h1
        split at h
        · rename_i x2 h2
          cases h
          simp only [Ty.size] at hl
          obtain ⟨z, hz⟩ := hx a (by simp)
          rw [hsz _ _ h1, ho] at hz
          obtain ⟨y1, d1, w1⟩ := hf _ _ h1 _ _ hz
          obtain ⟨y2, d2, w2⟩ := den_fields hsz hf (b :: r) (o + x1.size) x2 h2 (by omega) (fun c hc => hx c (List.mem_cons_of_mem _ hc))
          refine ⟨(y1, y2), ⟨_, _, ?_, d1, d2⟩, ⟨w1, w2⟩⟩
          rw [← List.drop_drop]
          exact (List.take_append_drop _ _).symm
        · cases h
      · cases h
    · cases h

theorem den_of_trod : ∀ (d : Nat) (t : TypeId) (ty : Ty), tyOf P d t = some ty → ∀ (fuel : Nat) (cs : List Value) (x : DataW H × List MemPlace), DataW.trod enc P w base spare held fuel t cs = some x → ∃ y : ty.den, DenRep (knowAll w) ty y cs ∧ ty.wf y := by
  intro d
  induction d with
  | zero => intro t ty h; simp [tyOf] at h
  | succ d ih =>
    intro t ty h fuel cs x hx
    unfold tyOf at h
    split at h
    · rename_i i k hi hu
      split at h
      · cases h
        obtain ⟨n, rfl, _, hw⟩ := DataW.trod_int hu hx
        exact ⟨n, rfl, hw⟩
      · cases h
    · rename_i i hi hu
      split at h
      · cases h
        obtain ⟨b, rfl⟩ := trod_bool hu hx
        exact ⟨b, rfl, trivial⟩
      · cases h
    · rename_i i e hi hu
      split at h
      · split at h
        · rename_i a ha
          cases h
          obtain ⟨_, _, hi2, hi3, _, _⟩ := tyOf_info d e a ha
          have hco : P.cellsOf e = a.size := by simp only [Program.cellsOf, hi2, Option.map_some, Option.getD_some, hi3]
          rcases Deep.open_slice hu hx with ⟨rfl, _⟩ | ⟨ad, len, cap, m, n, D, Pl, rfl, _, hlc, _, hm, _, hel⟩
          · exact ⟨([] : List a.den), ⟨none, 0, rfl, Nat.le_refl _, Or.inl rfl⟩, fun x hx => by cases hx⟩
          · have hlm : len ≤ m := by rw [hm]; split <;> omega
            have hall : ∀ i, i < len → ∃ y : a.den, a.wf y ∧ ad.spot = none ∧ ∃ arr, (knowAll w).cells ad.block = some arr ∧ DenRep (knowAll w) a y (slab arr (ad.off + i * a.size) a.size) := by
              intro i hi
              obtain ⟨cs', hc1, hc2⟩ := hel i (by omega)
              rw [hco] at hc1
              obtain ⟨s1, arr, s2, s3⟩ := cells_slab hc1 a.size_pos
              obtain ⟨y, y1, y2⟩ := ih e a ha n cs' _ hc2
              have e1 : (ad.add (i * a.size)).block = ad.block := by unfold Addr.add; split <;> rfl
              have e2 : (ad.add (i * a.size)).off = ad.off + i * a.size := by unfold Addr.add; split <;> simp_all
              have e3 : ad.spot = none := by
                obtain ⟨cs0, hc0, _⟩ := hel 0 (by omega)
                rw [hco, Nat.zero_mul] at hc0
                have e0 : ad.add 0 = ad := by simp [Addr.add]
                rw [e0] at hc0
                exact (cells_slab hc0 a.size_pos).1
              rw [e1] at s2
              rw [e2] at s3
              rw [s3] at y1
              exact ⟨y, y2, e3, arr, s2, y1⟩
            let g : Nat → a.den := fun i => if h : i < len then Classical.choose (hall i h) else a.zero
            have hg : ∀ i (h : i < len), g i = Classical.choose (hall i h) := fun i h => by simp only [g, dif_pos h]
            refine ⟨((List.range len).map g : List a.den), ⟨some ad, cap, ?_, ?_, ?_⟩, ?_⟩
            · rw [List.length_map, List.length_range]
            · rw [List.length_map, List.length_range]; exact hlc
            · rcases Nat.eq_zero_or_pos len with h0 | h0
              · subst h0; exact Or.inl rfl
              · have h1 := Classical.choose_spec (hall 0 h0)
                obtain ⟨_, s1, arr, s2, _⟩ := h1
                refine Or.inr ⟨ad.block, ad.off, arr, ?_, s2, ?_⟩
                · rw [← s1]
                · intro i hi
                  rw [List.length_map, List.length_range] at hi
                  have h2 := Classical.choose_spec (hall i hi)
                  obtain ⟨_, _, arr', s3, s4⟩ := h2
                  rw [s2] at s3
                  cases s3
                  rw [List.getElem_map, List.getElem_range, hg i hi]
                  exact s4
            · intro x hx
              obtain ⟨i, hi, rfl⟩ := List.mem_map.1 hx
              have hi := List.mem_range.1 hi
              rw [hg i hi]
              exact (Classical.choose_spec (hall i hi)).1
        · cases h
      · cases h
    · rename_i i fs hi hu
      split at h
      · rename_i a ha
        split at h
        · rename_i hs
          cases h
          obtain ⟨xs, n, rfl, _, hl, hxl, hx⟩ := DataW.trod_struct hu hx
          have hco : P.cellsOf t = ty.size := by simp only [Program.cellsOf, hi, Option.map_some, Option.getD_some, hs]
          have := den_fields (K := knowAll w) (cs := cs) (n := n) (enc := enc) (P := P) (w := w) (base := base) (spare := spare) (held := held) (f := tyOf P d) (fun t ty h => by
              obtain ⟨_, _, hi2, hi3, _, _⟩ := tyOf_info d t ty h
              simp only [Program.cellsOf, hi2, Option.map_some, Option.getD_some, hi3]) (fun t ty h cs x hx => ih t ty h n cs x hx) fs.toList 0 ty ha (by omega) (fun f hf => by
              obtain ⟨i, hi, rfl⟩ := List.getElem_of_mem hf
              have hi' : i < fs.size := by simpa using hi
              have := hx i fs[i] (by simp [hi'])
              rw [List.getElem?_eq_getElem (by omega)] at this
              exact ⟨_, by simpa using this⟩)
          simpa using this
        · cases h
      · cases h
    · cases h

def isStructT (P : Program) (t : TypeId) : Bool := match P.underlying t with
  | some (.struct _) => true
  | _ => false
def isSliceT (P : Program) (t : TypeId) : Bool := match P.underlying t with
  | some (.slice _) => true
  | _ => false
theorem isStructT_spec {t : TypeId} (h : isStructT P t = true) : ∃ fs, P.underlying t = some (.struct fs) := by
  unfold isStructT at h
  split at h
  · exact ⟨_, ‹_›⟩
  · cases h
theorem isSliceT_spec {t : TypeId} (h : isSliceT P t = true) : ∃ e, P.underlying t = some (.slice e) := by
  unfold isSliceT at h
  split at h
  · exact ⟨_, ‹_›⟩
  · cases h

/-- An argument that is a struct. -/
theorem arg_struct {r : Reach} {b0 d : Nat} {t : TypeId} (ty : Ty) {v : Value} {dd : DataW H} {ps : List MemPlace} (hs : isStructT P t = true) (ht : tyOf P d t = some ty)
    (hv : Value.okWide P w r b0 t v) (h : DataW.Trod enc P w base spare held t v dd ps) (Hs : Nat → Option Hd) : ∃ y : ty.den, Rep (knowAll w) Hs (.agg (ty.cells y)) v ∧ ty.wf y := by
  obtain ⟨fs, hu⟩ := isStructT_spec hs
  obtain ⟨cs, rfl, _⟩ := okWide_struct hu hv
  obtain ⟨fuel, hf⟩ := h
  obtain ⟨y, h1, h2⟩ := den_of_trod d t ty ht fuel _ _ hf
  refine ⟨y, ?_, h2⟩
  simp only [Rep]
  exact ⟨cs, rfl, repL_cells ty y _ h1⟩

/-- An argument that is a slice. -/
theorem arg_slice {r : Reach} {b0 d : Nat} {t : TypeId} (ty : Ty) {v : Value} {dd : DataW H} {ps : List MemPlace} (hs : isSliceT P t = true) (ht : tyOf P d t = some (.slice ty))
    (hv : Value.okWide P w r b0 t v) (h : DataW.Trod enc P w base spare held t v dd ps) (Hs : Nat → Option Hd) : ∃ l : List ty.den, Rep (knowAll w) Hs (.imm ty l false) v ∧ ∀ x ∈ l, ty.wf x := by
  obtain ⟨e, hu⟩ := isSliceT_spec hs
  obtain ⟨a, len, cap, rfl⟩ := okWide_slice hu hv
  obtain ⟨fuel, hf⟩ := h
  obtain ⟨y, h1, h2⟩ := den_of_trod d t (.slice ty) ht fuel _ _ hf
  refine ⟨(show List ty.den from y), ?_, h2⟩
  obtain ⟨ba, ca, e1, e2, e3⟩ := h1
  simp only [Rep]
  refine ⟨ba, ca, ?_, e2, ⟨fun h => absurd h (by simp), e3⟩⟩
  simpa [Value.cells] using e1

/-- An argument that is a number. -/
theorem arg_int {r : Reach} {b0 : Nat} {t : TypeId} (k : IntKind) {v : Value} {dd : DataW H} {ps : List MemPlace} (hu : P.underlying t = some (.int k))
    (hv : Value.okWide P w r b0 t v) (h : DataW.Trod enc P w base spare held t v dd ps) (Hs : Nat → Option Hd) : ∃ n, Rep (knowAll w) Hs (.int k n) v ∧ (Lit.int k n).wf = true := by
  obtain ⟨n, rfl, _, _, h2⟩ := open_int hu hv h
  exact ⟨n, by simp [Rep], h2⟩

/-- A function that returns true, at arguments that can be read, does so, and leaves all as it was. -/
theorem law_calls {P : Program} {f : FuncId} {gs : List AVal} {W : World} {vs : List Value} (h : ASpec P f gs [] (fun v _ => v = .bool true)) (hr : RepL (knowAll W) (fun _ => none) gs vs) :
    Calls P f vs.toArray W fun e w' => e = .returned (.bool true) ∧ Below W.heap.size W w' := by
  refine (h (fun b => b < W.heap.size) (knowAll W) (fun _ => none) W vs (wok_all W) hr ⟨fun r c f hd h => (by cases h), fun r c hd b h => (by cases h), fun r c hd b h => (by cases h), fun r r' c c' hd hd' b h => (by cases h)⟩ (fun _ _ => rfl)).mono ?_
  rintro e w' ⟨v, r, RM, K', H', rfl, rfl, _, hrep, _, _, _, hk, _⟩
  simp only [Rep] at hrep
  subst hrep
  exact ⟨rfl, below_of_kept hk⟩
theorem byte_wf {n : Int} (h : (Lit.int .u8 n).wf = true) : 0 ≤ n ∧ n ≤ 255 := by
  unfold Lit.wf at h
  rw [Bool.and_eq_true, decide_eq_true_eq, decide_eq_true_eq] at h
  have e1 : IntKind.min .u8 = 0 := by decide
  have e2 : IntKind.max .u8 = 255 := by decide
  omega
end Go.Abs
end

section
/- Functions that keep contracts, put together. -/
namespace Go.Abs

/-- A function keeps its contract at each of these shapes of arguments. -/
structure Keeps (P : Program) (f : FuncId) (vs : List Var) : Prop where
  code : ∃ fn c, P.funcs[f]? = some fn ∧ fn.body = some c ∧ (fn.name == "runtime.NumGoroutine") = false
  kept : ∀ v ∈ vs, v.Kept P f

theorem Keeps.add {P : Program} {f : FuncId} {vs : List Var} {l : List (FuncId × Contract)} (h : Keeps P f vs) (hG : Good P (envOf l)) : Good P (envOf ((f, mkC vs) :: l)) := by
  obtain ⟨fn, c, h1, h2, h3⟩ := h.code
  exact good_cons hG h1 h2 h3 (spec_vars vs h.kept)

/-- A function's code is there. -/
structure HasCode (P : Program) (f : FuncId) : Prop where
  code : ∃ fn c, P.funcs[f]? = some fn ∧ fn.body = some c ∧ (fn.name == "runtime.NumGoroutine") = false
theorem hasCode {P : Program} {f : FuncId} {fn : Func} (hf : P.funcs[f]? = some fn) (hb : fn.body.isSome = true) (hn : (fn.name == "runtime.NumGoroutine") = false) : HasCode P f := by
  obtain ⟨c, hc⟩ := Option.isSome_iff_exists.1 hb
  exact ⟨fn, c, hf, hc, hn⟩

theorem keeps1 {P : Program} {f : FuncId} {v : Var} (h : HasCode P f) (hv : v.Kept P f) : Keeps P f [v] := ⟨h.code, fun v' hm => by simp at hm; subst hm; exact hv⟩
theorem keeps2 {P : Program} {f : FuncId} {v v2 : Var} (h : HasCode P f) (hv : v.Kept P f) (hv2 : v2.Kept P f) : Keeps P f [v, v2] := ⟨h.code, fun v' hm => by simp at hm; rcases hm with rfl | rfl; exact hv; exact hv2⟩
theorem Keeps.one {P : Program} {f : FuncId} {v : Var} (h : Keeps P f [v]) : v.Kept P f := h.kept v (by simp)

theorem kept_zero {P : Program} {f : FuncId} {v : Var} (μ : v.S.den Unit → Nat) : (v.below μ 0).Kept P f := fun x hx => absurd hx.2 (Nat.not_lt_zero _)
theorem kept_all {P : Program} {f : FuncId} {v : Var} (μ : v.S.den Unit → Nat) (h : ∀ n, (v.below μ n).Kept P f) : v.Kept P f := fun x hx k hk => h (μ x + 1) x ⟨hx, Nat.lt_succ_self _⟩ k hk
theorem keeps_rec {P : Program} {f : FuncId} {v : Var} (μ : v.S.den Unit → Nat) (hc : HasCode P f) (step : ∀ n, Keeps P f [v.below μ n] → (v.below μ (n + 1)).Kept P f) : Keeps P f [v] := by
  have key : ∀ n, (v.below μ n).Kept P f := by
    intro n
    induction n with
    | zero => exact kept_zero μ
    | succ n ih => exact step n (keeps1 hc ih)
  exact keeps1 hc (kept_all μ key)

theorem aspec_mono {P : Program} {f : FuncId} {gs : List AVal} {cs : List Cont} {k k' : AVal → List Cont → Prop} (h : ASpec P f gs cs k) (hk : ∀ v c, k v c → k' v c) : ASpec P f gs cs k' := by
  intro F K H w vs h1 h2 h3 h4
  refine (h F K H w vs h1 h2 h3 h4).mono ?_
  rintro e w' ⟨v, r, RM, K', H', g1, g2, g3⟩
  exact ⟨v, r, RM, K', H', g1, hk _ _ g2, g3⟩
end Go.Abs
end

section
/- The contracts put together (printed by a program). -/
open Go.Proofs
set_option maxRecDepth 100000
namespace Go.Abs.King
theorem hc15 : HasCode Try.prog 15 := hasCode Try.func15 (by kernel_rfl) (by kernel_rfl)
theorem g15 : Keeps Try.prog 15 [v15] := keeps1 hc15 (k15 good_nil)
theorem hc16 : HasCode Try.prog 16 := hasCode Try.func16 (by kernel_rfl) (by kernel_rfl)
theorem g16 : Keeps Try.prog 16 [v16] := keeps1 hc16 (k16 good_nil)
theorem hc47 : HasCode Try.prog 47 := hasCode Try.func47 (by kernel_rfl) (by kernel_rfl)
theorem g47 : Keeps Try.prog 47 [v47] := keeps1 hc47 (k47 good_nil)
theorem hc52 : HasCode Try.prog 52 := hasCode Try.func52 (by kernel_rfl) (by kernel_rfl)
theorem g52 : Keeps Try.prog 52 [v52] := keeps1 hc52 (k52 good_nil)
theorem hc50 : HasCode Try.prog 50 := hasCode Try.func50 (by kernel_rfl) (by kernel_rfl)
theorem g50 : Keeps Try.prog 50 [v50] := keeps1 hc50 (k50 (g47.add (g52.add good_nil)))
theorem hc51 : HasCode Try.prog 51 := hasCode Try.func51 (by kernel_rfl) (by kernel_rfl)
theorem g51 : Keeps Try.prog 51 [v51] := keeps1 hc51 (k51 (g47.add (g52.add good_nil)))
theorem hc54 : HasCode Try.prog 54 := hasCode Try.func54 (by kernel_rfl) (by kernel_rfl)
theorem g54 : Keeps Try.prog 54 [v54] := keeps1 hc54 (k54 good_nil)
theorem hc78 : HasCode Try.prog 78 := hasCode Try.func78 (by kernel_rfl) (by kernel_rfl)
theorem g78 : Keeps Try.prog 78 [v78] := keeps1 hc78 (k78 good_nil)
theorem hc53 : HasCode Try.prog 53 := hasCode Try.func53 (by kernel_rfl) (by kernel_rfl)
theorem g53 : Keeps Try.prog 53 [v53] := keeps1 hc53 (k53 (g78.add good_nil))
theorem hc81 : HasCode Try.prog 81 := hasCode Try.func81 (by kernel_rfl) (by kernel_rfl)
theorem g81 : Keeps Try.prog 81 [v81] := keeps1 hc81 (k81 good_nil)
theorem hc96 : HasCode Try.prog 96 := hasCode Try.func96 (by kernel_rfl) (by kernel_rfl)
theorem g96 : Keeps Try.prog 96 [v96] := keeps1 hc96 (k96 good_nil)
theorem hc83 : HasCode Try.prog 83 := hasCode Try.func83 (by kernel_rfl) (by kernel_rfl)
theorem g83 : Keeps Try.prog 83 [v83] := keeps1 hc83 (k83 (g96.add good_nil))
theorem hc82 : HasCode Try.prog 82 := hasCode Try.func82 (by kernel_rfl) (by kernel_rfl)
theorem g82 : Keeps Try.prog 82 [v82] := keeps1 hc82 (k82 (g83.add good_nil))
theorem hc95 : HasCode Try.prog 95 := hasCode Try.func95 (by kernel_rfl) (by kernel_rfl)
theorem g95 : Keeps Try.prog 95 [v95a, v95b] := keeps2 hc95 (k95a (g81.add (g82.add good_nil))) (k95b (g81.add (g82.add good_nil)))
theorem hc80 : HasCode Try.prog 80 := hasCode Try.func80 (by kernel_rfl) (by kernel_rfl)
theorem g80 : Keeps Try.prog 80 [v80a, v80b] := keeps2 hc80 (k80a (g95.add good_nil)) (k80b (g95.add good_nil))
theorem hc56 : HasCode Try.prog 56 := hasCode Try.func56 (by kernel_rfl) (by kernel_rfl)
theorem g56 : Keeps Try.prog 56 [v56] := keeps1 hc56 (k56 (g80.add good_nil))
theorem hc64 : HasCode Try.prog 64 := hasCode Try.func64 (by kernel_rfl) (by kernel_rfl)
theorem g64 : Keeps Try.prog 64 [v64] := keeps1 hc64 (k64 good_nil)
theorem hc65 : HasCode Try.prog 65 := hasCode Try.func65 (by kernel_rfl) (by kernel_rfl)
theorem g65 : Keeps Try.prog 65 [v65] := keeps1 hc65 (k65 (g56.add good_nil))
theorem hc85 : HasCode Try.prog 85 := hasCode Try.func85 (by kernel_rfl) (by kernel_rfl)
theorem g85 : Keeps Try.prog 85 [v85a, v85b] := keeps2 hc85 (k85a (g64.add (g65.add good_nil))) (k85b (g64.add (g65.add good_nil)))
theorem hc63 : HasCode Try.prog 63 := hasCode Try.func63 (by kernel_rfl) (by kernel_rfl)
theorem g63 : Keeps Try.prog 63 [v63a, v63b] := keeps2 hc63 (k63a (g85.add good_nil)) (k63b (g85.add good_nil))
theorem hc22 : HasCode Try.prog 22 := hasCode Try.func22 (by kernel_rfl) (by kernel_rfl)
theorem g22 : Keeps Try.prog 22 [v22] := keeps1 hc22 (k22 (g56.add (g63.add good_nil)))
theorem hc79 : HasCode Try.prog 79 := hasCode Try.func79 (by kernel_rfl) (by kernel_rfl)
theorem g79 : Keeps Try.prog 79 [v79] := keeps1 hc79 (k79 good_nil)
theorem hc55 : HasCode Try.prog 55 := hasCode Try.func55 (by kernel_rfl) (by kernel_rfl)
theorem g55 : Keeps Try.prog 55 [v55] := keeps1 hc55 (k55 (g22.add (g79.add good_nil)))
theorem hc68 : HasCode Try.prog 68 := hasCode Try.func68 (by kernel_rfl) (by kernel_rfl)
theorem g68 : Keeps Try.prog 68 [v68] := keeps1 hc68 (k68 good_nil)
theorem hc57 : HasCode Try.prog 57 := hasCode Try.func57 (by kernel_rfl) (by kernel_rfl)
theorem g57 : Keeps Try.prog 57 [v57] := keeps1 hc57 (k57 (g68.add (g80.add good_nil)))
theorem hc18 : HasCode Try.prog 18 := hasCode Try.func18 (by kernel_rfl) (by kernel_rfl)
theorem g18 : Keeps Try.prog 18 [v18] := keeps1 hc18 (k18 (g55.add (g56.add (g57.add good_nil))))
theorem hc66 : HasCode Try.prog 66 := hasCode Try.func66 (by kernel_rfl) (by kernel_rfl)
theorem g66 : Keeps Try.prog 66 [v66] := keeps_rec m66 hc66 (fun n h => k66 n (g57.add (h.add good_nil)))
theorem hc25 : HasCode Try.prog 25 := hasCode Try.func25 (by kernel_rfl) (by kernel_rfl)
theorem g25 : Keeps Try.prog 25 [v25] := keeps1 hc25 (k25 (g55.add (g66.add good_nil)))
theorem hc27 : HasCode Try.prog 27 := hasCode Try.func27 (by kernel_rfl) (by kernel_rfl)
theorem g27 : Keeps Try.prog 27 [v27] := keeps1 hc27 (k27 (g55.add (g68.add good_nil)))
theorem hc76 : HasCode Try.prog 76 := hasCode Try.func76 (by kernel_rfl) (by kernel_rfl)
theorem g76 : Keeps Try.prog 76 [v76] := keeps1 hc76 (k76 good_nil)
theorem hc60 : HasCode Try.prog 60 := hasCode Try.func60 (by kernel_rfl) (by kernel_rfl)
theorem g60 : Keeps Try.prog 60 [v60] := keeps1 hc60 (k60 good_nil)
theorem hc84 : HasCode Try.prog 84 := hasCode Try.func84 (by kernel_rfl) (by kernel_rfl)
theorem g84 : Keeps Try.prog 84 [v84] := keeps1 hc84 (k84 (g60.add good_nil))
theorem hc59 : HasCode Try.prog 59 := hasCode Try.func59 (by kernel_rfl) (by kernel_rfl)
theorem g59 : Keeps Try.prog 59 [v59] := keeps1 hc59 (k59 (g55.add (g56.add (g76.add (g84.add good_nil)))))
theorem hc20 : HasCode Try.prog 20 := hasCode Try.func20 (by kernel_rfl) (by kernel_rfl)
theorem g20 : Keeps Try.prog 20 [v20] := keeps1 hc20 (k20 (g59.add (g60.add good_nil)))
theorem hc98 : HasCode Try.prog 98 := hasCode Try.func98 (by kernel_rfl) (by kernel_rfl)
theorem g98 : Keeps Try.prog 98 [v98] := keeps1 hc98 (k98 good_nil)
theorem hc86 : HasCode Try.prog 86 := hasCode Try.func86 (by kernel_rfl) (by kernel_rfl)
theorem g86 : Keeps Try.prog 86 [v86] := keeps1 hc86 (k86 (g98.add good_nil))
theorem hc89 : HasCode Try.prog 89 := hasCode Try.func89 (by kernel_rfl) (by kernel_rfl)
theorem g89 : Keeps Try.prog 89 [v89] := keeps1 hc89 (k89 good_nil)
theorem hc88 : HasCode Try.prog 88 := hasCode Try.func88 (by kernel_rfl) (by kernel_rfl)
theorem g88 : Keeps Try.prog 88 [v88] := keeps1 hc88 (k88 (g89.add good_nil))
theorem hc99 : HasCode Try.prog 99 := hasCode Try.func99 (by kernel_rfl) (by kernel_rfl)
theorem g99 : Keeps Try.prog 99 [v99] := keeps1 hc99 (k99 (g60.add (g86.add (g83.add good_nil))))
theorem hc94 : HasCode Try.prog 94 := hasCode Try.func94 (by kernel_rfl) (by kernel_rfl)
theorem g94 : Keeps Try.prog 94 [v94] := keeps1 hc94 (k94 good_nil)
theorem hc69 : HasCode Try.prog 69 := hasCode Try.func69 (by kernel_rfl) (by kernel_rfl)
theorem hc87 : HasCode Try.prog 87 := hasCode Try.func87 (by kernel_rfl) (by kernel_rfl)
theorem both69 : ∀ n, (v69n n).Kept Try.prog 69 ∧ (v87n n).Kept Try.prog 87 := by
  intro n
  induction n with
  | zero => exact ⟨kept_zero m69, kept_zero m87⟩
  | succ n ih =>
    have h87 : (v87n (n + 1)).Kept Try.prog 87 := k87 n (g99.add (g94.add (g84.add ((keeps1 hc69 ih.1).add good_nil))))
    exact ⟨k69 (n + 1) (g86.add ((keeps1 hc87 h87).add (g88.add good_nil))), h87⟩
theorem g69 : Keeps Try.prog 69 [v69] := keeps1 hc69 (kept_all m69 (fun n => (both69 n).1))
theorem g87 : Keeps Try.prog 87 [v87] := keeps1 hc87 (kept_all m87 (fun n => (both69 n).2))
theorem hc30 : HasCode Try.prog 30 := hasCode Try.func30 (by kernel_rfl) (by kernel_rfl)
theorem g30 : Keeps Try.prog 30 [v30] := keeps1 hc30 (k30 (g59.add (g69.add good_nil)))
theorem hc70 : HasCode Try.prog 70 := hasCode Try.func70 (by kernel_rfl) (by kernel_rfl)
theorem g70 : Keeps Try.prog 70 [v70] := keeps1 hc70 (k70 (g69.add (g87.add good_nil)))
theorem hc32 : HasCode Try.prog 32 := hasCode Try.func32 (by kernel_rfl) (by kernel_rfl)
theorem g32 : Keeps Try.prog 32 [v32] := keeps1 hc32 (k32 (g59.add (g69.add (g70.add good_nil))))
theorem hc91 : HasCode Try.prog 91 := hasCode Try.func91 (by kernel_rfl) (by kernel_rfl)
theorem g91 : Keeps Try.prog 91 [v91] := keeps1 hc91 (k91 (g56.add good_nil))
theorem hc93 : HasCode Try.prog 93 := hasCode Try.func93 (by kernel_rfl) (by kernel_rfl)
theorem g93 : Keeps Try.prog 93 [v93] := keeps1 hc93 (k93 good_nil)
theorem hc100 : HasCode Try.prog 100 := hasCode Try.func100 (by kernel_rfl) (by kernel_rfl)
theorem g100 : Keeps Try.prog 100 [v100a, v100b] := keeps2 hc100 (k100a (g91.add (g93.add good_nil))) (k100b (g91.add (g93.add good_nil)))
theorem hc92 : HasCode Try.prog 92 := hasCode Try.func92 (by kernel_rfl) (by kernel_rfl)
theorem g92 : Keeps Try.prog 92 [v92a, v92b] := keeps2 hc92 (k92a (g100.add good_nil)) (k92b (g100.add good_nil))
theorem hc72 : HasCode Try.prog 72 := hasCode Try.func72 (by kernel_rfl) (by kernel_rfl)
theorem g72 : Keeps Try.prog 72 [v72] := keeps1 hc72 (k72 (g92.add (g56.add good_nil)))
theorem hc35 : HasCode Try.prog 35 := hasCode Try.func35 (by kernel_rfl) (by kernel_rfl)
theorem g35 : Keeps Try.prog 35 [v35] := keeps1 hc35 (k35 (g55.add (g72.add good_nil)))
theorem hc77 : HasCode Try.prog 77 := hasCode Try.func77 (by kernel_rfl) (by kernel_rfl)
theorem r77 {n : Nat} (h : (v77.below m77 (n + 1)).Kept Try.prog 77) : (v77r.below m77 (n + 1)).Kept Try.prog 77 := by
  rintro x ⟨⟨h1, h2, h3, h4, h5⟩, h6⟩ k hk
  refine h x ⟨⟨h1, h2, h3, h4, Int.le_trans (by decide) h5⟩, h6⟩ k ?_
  have e : lowLooks x.1 x.2.1 x.2.2.2.2.1 = false := decide_eq_false (by omega)
  show br (lowLooks x.1 x.2.1 x.2.2.2.2.1) _ _
  rw [e]
  exact hk
theorem g77r : Keeps Try.prog 77 [v77r] := keeps_rec m77 hc77 (fun n h => r77 (k77 n (g69.add (g70.add (g94.add (g84.add (g60.add (h.add good_nil))))))))
theorem g77 : Keeps Try.prog 77 [v77] := keeps1 hc77 (fun x hx k hk => k77 (m77 x) (g69.add (g70.add (g94.add (g84.add (g60.add ((keeps1 (v := v77n (m77 x)) hc77 (fun y (hy : v77r.pre y ∧ m77 y < m77 x) => g77r.one y hy.1)).add good_nil)))))) x ⟨hx, Nat.lt_succ_self _⟩ k hk)
theorem hc37 : HasCode Try.prog 37 := hasCode Try.func37 (by kernel_rfl) (by kernel_rfl)
theorem g37 : Keeps Try.prog 37 [v37] := keeps1 hc37 (k37 (g55.add (g76.add (g69.add (g77.add good_nil)))))
theorem hc23 : HasCode Try.prog 23 := hasCode Try.func23 (by kernel_rfl) (by kernel_rfl)
theorem g23 : Keeps Try.prog 23 [v23] := keeps1 hc23 (k23 good_nil)
theorem hc73 : HasCode Try.prog 73 := hasCode Try.func73 (by kernel_rfl) (by kernel_rfl)
theorem g73 : Keeps Try.prog 73 [v73] := keeps1 hc73 (k73 good_nil)
theorem hc74 : HasCode Try.prog 74 := hasCode Try.func74 (by kernel_rfl) (by kernel_rfl)
theorem g74 : Keeps Try.prog 74 [v74] := keeps1 hc74 (k74 good_nil)
theorem hc75 : HasCode Try.prog 75 := hasCode Try.func75 (by kernel_rfl) (by kernel_rfl)
theorem g75 : Keeps Try.prog 75 [v75] := keeps_rec m75 hc75 (fun n h => k75 n (h.add good_nil))
theorem hc36 : HasCode Try.prog 36 := hasCode Try.func36 (by kernel_rfl) (by kernel_rfl)
theorem g36 : Keeps Try.prog 36 [v36] := keeps1 hc36 (k36 (g23.add (g73.add (g74.add (g75.add good_nil)))))
theorem hc24 : HasCode Try.prog 24 := hasCode Try.func24 (by kernel_rfl) (by kernel_rfl)
theorem g24 : Keeps Try.prog 24 [v24] := keeps1 hc24 (k24 good_nil)
theorem hc29 : HasCode Try.prog 29 := hasCode Try.func29 (by kernel_rfl) (by kernel_rfl)
theorem g29 : Keeps Try.prog 29 [v29] := keeps1 hc29 (k29 (g24.add good_nil))
theorem hc17 : HasCode Try.prog 17 := hasCode Try.func17 (by kernel_rfl) (by kernel_rfl)
theorem g17 : Keeps Try.prog 17 [v17] := keeps1 hc17 (k17 (g50.add (g51.add (g47.add (g54.add (g53.add (g18.add (g25.add (g27.add (g20.add (g30.add (g32.add (g35.add (g37.add (g36.add (g29.add (g24.add good_nil)))))))))))))))))
theorem hc43 : HasCode Try.prog 43 := hasCode Try.func43 (by kernel_rfl) (by kernel_rfl)
theorem g43 : Keeps Try.prog 43 [v43] := keeps1 hc43 (k43 good_nil)
theorem hc44 : HasCode Try.prog 44 := hasCode Try.func44 (by kernel_rfl) (by kernel_rfl)
theorem g44 : Keeps Try.prog 44 [v44] := keeps1 hc44 (k44 good_nil)
theorem hc58 : HasCode Try.prog 58 := hasCode Try.func58 (by kernel_rfl) (by kernel_rfl)
theorem g58 : Keeps Try.prog 58 [v58] := keeps1 hc58 (k58 (g44.add good_nil))
theorem hc19 : HasCode Try.prog 19 := hasCode Try.func19 (by kernel_rfl) (by kernel_rfl)
theorem g19 : Keeps Try.prog 19 [v19] := keeps1 hc19 (k19 (g23.add (g43.add (g58.add good_nil))))
theorem hc61 : HasCode Try.prog 61 := hasCode Try.func61 (by kernel_rfl) (by kernel_rfl)
theorem g61 : Keeps Try.prog 61 [v61] := keeps1 hc61 (k61 (g23.add good_nil))
theorem hc62 : HasCode Try.prog 62 := hasCode Try.func62 (by kernel_rfl) (by kernel_rfl)
theorem g62 : Keeps Try.prog 62 [v62] := keeps1 hc62 (k62 good_nil)
theorem hc41 : HasCode Try.prog 41 := hasCode Try.func41 (by kernel_rfl) (by kernel_rfl)
theorem g41 : Keeps Try.prog 41 [v41] := keeps1 hc41 (k41 good_nil)
theorem hc21 : HasCode Try.prog 21 := hasCode Try.func21 (by kernel_rfl) (by kernel_rfl)
theorem g21 : Keeps Try.prog 21 [v21] := keeps1 hc21 (k21 (g61.add (g62.add (g41.add good_nil))))
theorem hc3 : HasCode Try.prog 3 := hasCode Try.func3 (by kernel_rfl) (by kernel_rfl)
theorem g3 : Keeps Try.prog 3 [v3] := keeps1 hc3 (k3 (g15.add (g16.add (g17.add (g18.add (g19.add (g20.add (g21.add (g22.add (g23.add (g24.add good_nil)))))))))))
end Go.Abs.King
end

section
/- The contracts put together (printed by a program). -/
open Go.Proofs
set_option maxRecDepth 100000
namespace Go.Abs.King
theorem hc40 : HasCode Try.prog 40 := hasCode Try.func40 (by kernel_rfl) (by kernel_rfl)
theorem g40 : Keeps Try.prog 40 [v40] := keeps1 hc40 (k40 (g15.add (g23.add good_nil)))
theorem hc34 : HasCode Try.prog 34 := hasCode Try.func34 (by kernel_rfl) (by kernel_rfl)
theorem g34 : Keeps Try.prog 34 [v34] := keeps1 hc34 (k34 good_nil)
theorem hc45 : HasCode Try.prog 45 := hasCode Try.func45 (by kernel_rfl) (by kernel_rfl)
theorem g45 : Keeps Try.prog 45 [v45] := keeps1 hc45 (k45 good_nil)
theorem hc42 : HasCode Try.prog 42 := hasCode Try.func42 (by kernel_rfl) (by kernel_rfl)
theorem g42 : Keeps Try.prog 42 [v42] := keeps1 hc42 (k42 (g25.add (g43.add (g18.add good_nil))))
theorem hc8 : HasCode Try.prog 8 := hasCode Try.func8 (by kernel_rfl) (by kernel_rfl)
theorem g8 : Keeps Try.prog 8 [v8] := keeps1 hc8 (k8 (g40.add (g34.add (g17.add (g45.add (g30.add (g35.add (g37.add (g42.add (g36.add good_nil))))))))))
end Go.Abs.King
end

