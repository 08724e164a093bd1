/- Part 7 of the road to this seat's statements: lemmas about a small interpreter over the model's code, and about the functions that it is used on. No condition of its own. -/
import Derived.Test.YtondgnghncpbeaaProg
import Derived.Shelf.Spec.SlicesGrow
import Derived.Test.YtondgnghncpbeaaW6

section
/- The label's functions keep their contracts: steps. -/
open Go.Proofs
set_option maxRecDepth 100000
set_option linter.unusedVariables false
namespace Go.Abs.Label

theorem rule_at {rs : List (List Int × Int)} {i : Int} (h0 : 0 ≤ i) (h : i.toNat < rs.length) : ruleAt rs i = rs[i.toNat] := by
  unfold ruleAt
  rw [List.getD_eq_getElem?_getD, List.getElem?_eq_getElem h]; rfl
theorem or_lt2 {a b : Nat} (ha : a < 1024) (hb : b < 1024) : a ||| b < 1024 := Nat.or_lt_two_pow (n := 10) ha hb
def backN (rs : List (List Int × Int)) (b need : Nat) (out : List Int) (j : Nat) : Nat × List Int := (out.reverse.take j).foldl (backS rs b) (need, [])
theorem backN_succ {rs : List (List Int × Int)} {b need : Nat} {out : List Int} {j : Nat} (hj : j < out.length) : backN rs b need out (j + 1) = backS rs b (backN rs b need out j) (out[out.length - 1 - j]'(by omega)) := by
  unfold backN
  rw [List.take_succ_eq_append_getElem (by simpa using hj), List.foldl_append, List.getElem_reverse]; rfl
theorem has_one' {c : Nat} {t : Int} (c0 : Int) (hc : c0 = (c : Int)) : hasI c0 (andI 0 t) = c.testBit t.toNat := by
  subst hc
  unfold hasI andI
  rw [Int.toNat_natCast, Int.toNat_natCast]
  exact has_one
theorem bits_zero : isB 0 := ⟨by omega, by omega⟩

theorem back_loop {k : AVal → List Cont → Prop} {w : Int} {rs : List (List Int × Int)} {b : Nat} {x : Int} {out : List Int} {need : Nat} (hg : Gd w rs) (hb : b < 1024) (hout : ∀ i ∈ out, 0 ≤ i ∧ i.toNat < rs.length) (hol : out.length ≤ 11) (hneed : need < 1024)
    (hk : k (.tup [.imm (.int .i64) (lessL w rs (b : Int) x (backOf rs b need out)) false, .bool true]) []) :
    Go.Abs.Loop (σ := ((List Int) × (Int × (Int × ((List Int) × (Int × ((List ((List Int) × Int)) × (Int × (Int × ((List Int) × Unit)))))))))) (fun K9 x9 =>
           br ((decide (x9.2.1 ≥ (0 : Int))))
            (∃ h11 : (((0 : Int) ≤ x9.2.1) ∧ ((Int.toNat x9.2.1) < (List.length x9.1))),
            ∃ h12 : (((0 : Int) ≤ (x9.1[(Int.toNat x9.2.1)]'h11.2)) ∧ ((Int.toNat (x9.1[(Int.toNat x9.2.1)]'h11.2)) < (List.length x9.2.2.2.2.2.1))),
            br (((decide ((x9.2.2.2.2.2.1[(Int.toNat (x9.1[(Int.toNat x9.2.1)]'h11.2))]'h12.2).2 < (0 : Int))) == Bool.false))
             ((Go.Abs.Label.v57.p ((0 : Int), ((x9.2.2.2.2.2.1[(Int.toNat (x9.1[(Int.toNat x9.2.1)]'h11.2))]'h12.2).2, ()))) ∧
             (Go.Abs.Label.v59.p (x9.2.2.2.2.2.2.2.1, ((Go.Abs.Label.andI (0 : Int) (x9.2.2.2.2.2.1[(Int.toNat (x9.1[(Int.toNat x9.2.1)]'h11.2))]'h12.2).2), ()))) ∧
             br ((Go.Abs.Label.hasI x9.2.2.2.2.2.2.2.1 (Go.Abs.Label.andI (0 : Int) (x9.2.2.2.2.2.1[(Int.toNat (x9.1[(Int.toNat x9.2.1)]'h11.2))]'h12.2).2)))
              ((((List.length x9.2.2.2.2.2.2.2.2.1) + (List.length ((x9.1[(Int.toNat x9.2.1)]'h11.2) :: ([] : List Int)))) ≤ Go.Abs.big) ∧
              (Go.Abs.Label.v73.p ((x9.2.2.2.2.2.1[(Int.toNat (x9.1[(Int.toNat x9.2.1)]'h11.2))]'h12.2).1, ())) ∧
              (Go.Abs.fitsK Go.IntKind.i64 (x9.2.1 - (1 : Int))) ∧
              (K9 (x9.1, ((x9.2.1 - (1 : Int)), (x9.2.2.1, (x9.2.2.2.1, (x9.2.2.2.2.1, (x9.2.2.2.2.2.1, (x9.2.2.2.2.2.2.1, ((Go.Abs.bitsA Go.BinOp.andNot Go.IntKind.i64 (Go.Abs.bitsA Go.BinOp.or Go.IntKind.i64 x9.2.2.2.2.2.2.2.1 (Go.Abs.Label.bitsI (x9.2.2.2.2.2.1[(Int.toNat (x9.1[(Int.toNat x9.2.1)]'h11.2))]'h12.2).1)) x9.2.2.2.2.2.2.1), ((x9.2.2.2.2.2.2.2.2.1 ++ ((x9.1[(Int.toNat x9.2.1)]'h11.2) :: ([] : List Int))), ())))))))))))
              ((Go.Abs.fitsK Go.IntKind.i64 (x9.2.1 - (1 : Int))) ∧
              (K9 (x9.1, ((x9.2.1 - (1 : Int)), (x9.2.2.1, (x9.2.2.2.1, (x9.2.2.2.2.1, (x9.2.2.2.2.2.1, (x9.2.2.2.2.2.2.1, (x9.2.2.2.2.2.2.2.1, (x9.2.2.2.2.2.2.2.2.1, ()))))))))))))
             ((((List.length x9.2.2.2.2.2.2.2.2.1) + (List.length ((x9.1[(Int.toNat x9.2.1)]'h11.2) :: ([] : List Int)))) ≤ Go.Abs.big) ∧
             (Go.Abs.Label.v73.p ((x9.2.2.2.2.2.1[(Int.toNat (x9.1[(Int.toNat x9.2.1)]'h11.2))]'h12.2).1, ())) ∧
             (Go.Abs.fitsK Go.IntKind.i64 (x9.2.1 - (1 : Int))) ∧
             (K9 (x9.1, ((x9.2.1 - (1 : Int)), (x9.2.2.1, (x9.2.2.2.1, (x9.2.2.2.2.1, (x9.2.2.2.2.2.1, (x9.2.2.2.2.2.2.1, ((Go.Abs.bitsA Go.BinOp.andNot Go.IntKind.i64 (Go.Abs.bitsA Go.BinOp.or Go.IntKind.i64 x9.2.2.2.2.2.2.2.1 (Go.Abs.Label.bitsI (x9.2.2.2.2.2.1[(Int.toNat (x9.1[(Int.toNat x9.2.1)]'h11.2))]'h12.2).1)) x9.2.2.2.2.2.2.1), ((x9.2.2.2.2.2.2.2.2.1 ++ ((x9.1[(Int.toNat x9.2.1)]'h11.2) :: ([] : List Int))), ()))))))))))))
            ((Go.Abs.Label.v93.p (x9.2.2.2.2.2.2.2.2.1, ())) ∧
            (Go.Abs.Label.v94.p (x9.2.2.2.2.1, (x9.2.2.2.2.2.1, (x9.2.2.2.2.2.2.1, (x9.2.2.1, ((List.reverse x9.2.2.2.2.2.2.2.2.1), ())))))) ∧
            (k (Go.Abs.AVal.tup ((Go.Abs.AVal.imm (Go.Abs.Ty.int Go.IntKind.i64) (Go.Abs.Label.lessL x9.2.2.2.2.1 x9.2.2.2.2.2.1 x9.2.2.2.2.2.2.1 x9.2.2.1 (List.reverse x9.2.2.2.2.2.2.2.2.1)) Bool.false) :: ((Go.Abs.AVal.bool Bool.true) :: []))) []))) (out, (((out.length : Nat) : Int) - (1 : Int)), x, out, w, rs, (b : Int), (need : Int), ([] : List Int), ()) := by
  refine Loop.upto (fun j => (out, ((out.length : Nat) : Int) - 1 - (j : Int), x, out, w, rs, (b : Int), ((backN rs b need out j).1 : Int), (backN rs b need out j).2, ())) (fun j => (backN rs b need out j).1 < 1024 ∧ (backN rs b need out j).2.length ≤ j) out.length (by simp [backN]) ⟨hneed, Nat.zero_le _⟩ ?_ ?_
  · intro j K_j hj hp_j hK_j
    dsimp only
    rw [br_decide]
    refine ⟨fun _ => ?_, fun h => absurd hj (by omega)⟩
    try simp only [Int.toNat_natCast]
    obtain ⟨hp1, hp2⟩ := hp_j
    have et : Int.toNat (((out.length : Nat) : Int) - 1 - (j : Int)) = out.length - 1 - j := by omega
    have hi : out.length - 1 - j < out.length := by omega
    have hoi := hout _ (List.getElem_mem hi)
    have hN := backN_succ (rs := rs) (b := b) (need := need) hj
    simp only [et]
    refine ⟨⟨by omega, hi⟩, ?_⟩
    obtain ⟨e, hei⟩ : ∃ e, out[out.length - 1 - j]'hi = e := ⟨_, rfl⟩
    simp only [hei] at hoi hN ⊢
    refine ⟨hoi, ?_⟩
    have hr := List.getElem_mem hoi.2
    have hth := gd_then hg _ hr
    have hif := gd_if hg hr
    have hra := rule_at hoi.1 hoi.2
    unfold backS at hN
    rw [hra] at hN
    obtain ⟨r, hrr⟩ : ∃ r, rs[e.toNat]'hoi.2 = r := ⟨_, rfl⟩
    simp only [hrr] at hr hth hif hN ⊢
    have hs : (((out.length : Nat) : Int) - 1 - (j : Int)) - 1 = ((out.length : Nat) : Int) - 1 - ((j + 1 : Nat) : Int) := by omega
    obtain ⟨c, hc⟩ : ∃ c, backN rs b need out j = c := ⟨_, rfl⟩
    simp only [hc] at hp1 hp2 hN hK_j ⊢
    have hor : bitsA .andNot .i64 (bitsA .or .i64 ((c.1 : Nat) : Int) (bitsI r.1)) (b : Int) = ((andNot (c.1 ||| bitsL r.1) b : Nat) : Int) := by
      have hl := bitsL_lt hif.2
      unfold bitsI
      rw [lor_nat c.1 (bitsL r.1) (by omega) (by omega), notI_nat (or_lt2 hp1 hl) hb]
    have yes : (r.2 < 0 ∨ c.1.testBit r.2.toNat = true) → backN rs b need out (j + 1) = (andNot (c.1 ||| bitsL r.1) b, c.2 ++ [e]) := fun h => by rw [hN, if_pos h]
    have no : ¬ (r.2 < 0 ∨ c.1.testBit r.2.toNat = true) → backN rs b need out (j + 1) = c := fun h => by rw [hN, if_neg h]
    have hbig : c.2.length + [e].length ≤ big := by
      show c.2.length + 1 ≤ 1099511627776
      omega
    have h73 : v73.p (r.1, ()) := ⟨(show r.1.length ≤ 1000 by have := hif.1; omega), hif.2⟩
    have hf : fitsK .i64 ((((out.length : Nat) : Int) - 1 - (j : Int)) - 1) := fits64 (by omega) (by omega)
    have fin : ∀ h : (r.2 < 0 ∨ c.1.testBit r.2.toNat = true), K_j (out, (((out.length : Nat) : Int) - 1 - (j : Int)) - 1, x, out, w, rs, (b : Int), bitsA .andNot .i64 (bitsA .or .i64 ((c.1 : Nat) : Int) (bitsI r.1)) (b : Int), c.2 ++ [e], ()) := fun h => by
      have := hK_j (by rw [yes h]; exact ⟨notI_lt (or_lt2 hp1 (bitsL_lt hif.2)), by simp; omega⟩)
      rw [yes h] at this
      rw [hs, hor]
      exact this
    rw [br_false]
    refine ⟨fun h => ?_, fun h => ⟨hbig, h73, hf, fin (.inl h)⟩⟩
    have h0 : 0 ≤ r.2 := by omega
    have hcB : isB ((c.1 : Nat) : Int) := ⟨by omega, by omega⟩
    refine ⟨⟨bits_zero, h0, hth⟩, ⟨hcB, andI_isB bits_zero h0 hth⟩, ?_⟩
    rw [has_one' _ rfl]
    refine br_intro (fun h2 => ⟨hbig, h73, hf, fin (.inr h2)⟩) (fun h2 => ⟨hf, ?_⟩)
    have hn : ¬ (r.2 < 0 ∨ c.1.testBit r.2.toNat = true) := fun h => h.elim (fun h => by omega) (fun h => by rw [h2] at h; cases h)
    have := hK_j (by rw [no hn]; exact ⟨hp1, by omega⟩)
    rw [no hn] at this
    rw [hs]
    exact this
  · intro K_j hp_j
    dsimp only
    rw [br_decide]
    refine ⟨fun h => absurd h (by omega), fun _ => ?_⟩
    obtain ⟨hp1, hp2⟩ := hp_j
    have e : (backN rs b need out out.length).2.reverse = backOf rs b need out := by
      unfold backN backOf
      rw [List.take_of_length_le (by simp)]
    rw [e]
    have hl : (backOf rs b need out).length ≤ 11 := by rw [← e, List.length_reverse]; omega
    exact ⟨(show (backN rs b need out out.length).2.length ≤ 1000 by omega), ⟨hg, ⟨(show (0 : Int) ≤ (b : Int) by omega), (show (b : Int) < 1024 by omega)⟩, (show ((backN rs b need out out.length).2.reverse).length ≤ 1000 by rw [e]; omega)⟩, hk⟩

theorem runS_stop {rs : List (List Int × Int)} {n c : Nat} {out : List Int} (h : ∀ r ∈ rs, grantR c r = false) : runS rs n (c, out) = (c, out) := by
  cases n with
  | zero => rfl
  | succ n =>
    unfold runS
    rw [indexOf_none _ _ h, if_pos (by omega)]
theorem runS_go {rs : List (List Int × Int)} {n c i : Nat} {out : List Int} (hi : i < rs.length) (h : ∀ r ∈ rs.take i, grantR c r = false) (h0 : grantR c rs[i] = true) :
    runS rs (n + 1) (c, out) = runS rs n (c ||| 2 ^ (rs[i]).2.toNat, out ++ [(i : Int)]) := by
  conv => lhs; unfold runS
  rw [indexOf_some _ _ i hi h h0, if_neg (by omega), rule_at (by omega) (by simpa using hi)]
  simp only [Int.toNat_natCast]
theorem indexOf_range {α : Type} (p : α → Bool) (l : List α) (h : ¬ indexOf p l < 0) : 0 ≤ indexOf p l ∧ (indexOf p l).toNat < l.length := by
  refine ⟨by omega, ?_⟩
  have : ∀ l : List α, indexOf p l < l.length := by
    intro l
    induction l with
    | nil => simp [indexOf]
    | cons x l ih =>
      unfold indexOf
      simp only [List.length_cons]
      split
      · omega
      · split <;> omega
  have := this l
  omega

theorem k75 (hG : Good Try.prog (envOf [(76, mkC [v78]), (50, mkC [v57]), (48, mkC [v59]), (83, mkC [v79]), (77, mkC [v83e]), (49, mkC [v73]), (79, mkC [v92]), (80, mkC [v93]), (81, mkC [v94])])) : v75.Kept Try.prog 44 := by
  rintro ⟨w, rs, b, x, ⟨⟩⟩ hpre k hk
  change Int at w
  change List (List Int × Int) at rs
  change Int at b
  change Int at x
  refine aspec hmix hG Try.func44 tx75 (Eq.mpr (eq75 w rs b x k) ?_)
  replace hk : k (.tup [.imm (.int .i64) (stepL w rs b x) false, .bool (hasSteps rs b x)]) [] := hk
  unfold vc75
  obtain ⟨hg, hb, hx0, hx1⟩ := hpre
  have hg : Gd w rs := hg
  have hb : isB b := hb
  have hx0 : -1 ≤ x := hx0
  have hx1 : x < w := hx1
  have h1 : 0 ≤ b := hb.1
  have h2 : b < 1024 := hb.2
  obtain ⟨hw1, hw2, hrl, _⟩ := guild_spec hg
  have hok := gd_then hg
  obtain ⟨b, rfl⟩ := Int.eq_ofNat_of_zero_le h1
  refine Loop.intro (fun y => ∃ (c : Nat) (out : List Int), y = (x, w, rs, (b : Int), (c : Int), out, ()) ∧ c < 1024 ∧ runS rs (11 - out.length) (c, out) = runOf rs b ∧ out.length ≤ (listed c 10).length ∧ ∀ i ∈ out, 0 ≤ i ∧ i.toNat < rs.length) (fun y => 10 - (listed y.2.2.2.2.1.toNat 10).length) ?_ ⟨b, [], rfl, by omega, rfl, Nat.zero_le _, fun i hi => absurd hi (by simp)⟩
  rintro _ K ⟨c, out, rfl, hc, hrun, hol, hout⟩ hK
  dsimp only
  have hl10 := listed_len c 10
  have hcB : isB (c : Int) := ⟨by omega, by omega⟩
  refine ⟨trivial, ⟨hg, hcB⟩, ?_⟩
  have hwl : (wants rs (c : Int)).length = 12 := wants_len hrl _
  refine Loop.upto (fun i => (w, rs, (c : Int), wants rs (c : Int), (i : Int), x, w, rs, (c : Int), w, rs, (b : Int), (c : Int), out, ())) (fun i => ∀ r ∈ rs.take i, grantR c r = false) 12 rfl (by simp) ?_ ?_
  · intro i K_i hi hp_i hK_i
    dsimp only
    rw [br_decide]
    refine ⟨fun _ => ?_, fun h => absurd hi (by omega)⟩
    try simp only [Int.toNat_natCast]
    have nx : (∀ (hj : i < rs.length), grantR c rs[i] = false) → ∀ r ∈ rs.take (i + 1), grantR c r = false := by
      intro h r hr
      rcases Nat.lt_or_ge i rs.length with hj | hj
      · rw [List.take_succ_eq_append_getElem hj] at hr
        rcases List.mem_append.1 hr with hr | hr
        · exact hp_i r hr
        · rw [List.mem_singleton.1 hr]; exact h hj
      · rw [List.take_of_length_le (by omega)] at hr
        exact hp_i r (by rw [List.take_of_length_le (by omega)]; exact hr)
    refine ⟨⟨by omega, by omega⟩, by omega, hwl, ?_⟩
    rw [br_true]
    refine ⟨fun g1 => ?_, fun g1 => ⟨fits64 (by omega) (by omega), hK_i (nx fun hj => by omega)⟩⟩
    have hir : i < rs.length := by omega
    have hif := gd_if hg (List.getElem_mem hir)
    have hth := hok _ (List.getElem_mem hir)
    have hlz := lack_zero (b := c) (bitsL_lt hif.2)
    rw [br_bt]
    refine ⟨fun g2 => ?_, fun g2 => ⟨fits64 (by omega) (by omega), hK_i (nx fun hj => ?_)⟩⟩
    · have hs : subB (bitsL rs[i].1) c = true := by
        rw [wants_at hir, beq_iff_eq, Int.toNat_natCast] at g2
        exact hlz.1 (by omega)
      refine ⟨⟨by omega, by omega⟩, ?_⟩
      rw [br_true]
      refine ⟨fun g3 => ?_, fun g3 => ⟨fits64 (by omega) (by omega), hK_i (nx fun hj => ?_)⟩⟩
      · have g3 : 0 ≤ rs[i].2 := g3
        refine ⟨⟨by omega, by omega⟩, ⟨bits_zero, g3, hth⟩, ⟨hcB, andI_isB bits_zero g3 hth⟩, ?_⟩
        rw [has_one' _ rfl, br_bt]
        refine ⟨fun g4 => ?_, fun g4 => ⟨fits64 (by omega) (by omega), hK_i (nx fun hj => ?_)⟩⟩
        · have g4 : c.testBit rs[i].2.toNat = false := by simpa using g4
          have h0 : grantR c rs[i] = true := by
            unfold grantR
            rw [hs, g4, decide_eq_true g3]; rfl
          have h5 := listed_strict (sub_or c (2 ^ rs[i].2.toNat)) g4 (or_test.2 (.inr rfl)) 10 (by omega)
          have h6 := listed_len (c ||| 2 ^ rs[i].2.toNat) 10
          have hT : List.take out.length (List.drop 0 out) ++ [(i : Int)] = out ++ [(i : Int)] := by
            rw [List.drop_zero, List.take_length]
          refine ⟨⟨by omega, by omega⟩, ⟨hcB, g3, hth⟩, ⟨by omega, by omega, trivial⟩, (by show out.length + 1 ≤ 1099511627776; omega), by simp, ?_⟩
          rw [hT]
          have ea : andI (c : Int) rs[i].2 = ((c ||| 2 ^ rs[i].2.toNat : Nat) : Int) := by unfold andI; rw [Int.toNat_natCast]
          rw [ea]
          refine hK _ ⟨c ||| 2 ^ rs[i].2.toNat, out ++ [(i : Int)], rfl, or_lt hc (by omega), ?_, by simp; omega, ?_⟩ ?_
          · rw [← hrun, show 11 - out.length = (11 - (out ++ [(i : Int)]).length) + 1 by simp; omega, runS_go hir hp_i h0]
          · intro j hj
            rcases List.mem_append.1 hj with hj | hj
            · exact hout j hj
            · rw [List.mem_singleton.1 hj]; exact ⟨by omega, by simpa using hir⟩
          · dsimp only
            rw [Int.toNat_natCast, Int.toNat_natCast]
            omega
        · have g4 : c.testBit rs[i].2.toNat = true := by simpa using g4
          unfold grantR
          rw [g4]; simp
      · unfold grantR
        rw [decide_eq_false g3]; rfl
    · rw [wants_at hir, beq_eq_false_iff_ne, Int.toNat_natCast] at g2
      unfold grantR
      have : subB (bitsL rs[i].1) c = false := by
        cases h : subB (bitsL rs[i].1) c with
        | false => rfl
        | true => exact absurd (hlz.2 h) (by omega)
      rw [this]; simp
  · intro K_i hp_i
    dsimp only
    rw [br_decide]
    refine ⟨fun h => absurd h (by omega), fun _ => ?_⟩
    have hall : ∀ r ∈ rs, grantR c r = false := fun r hr => hp_i r (by rw [List.take_of_length_le hrl]; exact hr)
    have hro : runOf rs b = (c, out) := by rw [← hrun]; exact runS_stop hall
    have h11 : out.length ≤ 10 := by omega
    have hgo := gd_goodIfs hg
    rw [br_decide]
    refine ⟨fun hx => ?_, fun hx => ?_⟩
    · have hx9 : x ≤ 9 := by omega
      have e1 : hasSteps rs (b : Int) x = c.testBit x.toNat := by
        unfold hasSteps
        rw [if_pos hx, Int.toNat_natCast, hro]
      refine ⟨⟨bits_zero, hx, hx9⟩, ⟨hcB, andI_isB bits_zero hx hx9⟩, ?_⟩
      rw [has_one' _ rfl, br_not]
      refine ⟨fun h => ?_, fun h => ⟨trivial, fits64 (by omega) (by omega), ?_⟩⟩
      · have e2 : stepL w rs (b : Int) x = [] := by unfold stepL; rw [e1, h]; rfl
        rw [e1, e2, h] at hk
        exact hk
      · have e2 : stepL w rs (b : Int) x = lessL w rs (b : Int) x (backOf rs b (2 ^ x.toNat) out) := by
          unfold stepL rawS
          rw [e1, h, if_pos rfl, if_pos hx, Int.toNat_natCast, hro]
        have ea : andI 0 x = ((2 ^ x.toNat : Nat) : Int) := by unfold andI; simp
        rw [ea]
        refine back_loop hg (by omega) hout (by omega) ?_ ?_
        · exact Nat.pow_lt_pow_right (n := 10) (by omega) (by omega)
        · rw [e1, e2, h] at hk
          exact hk
    · refine ⟨⟨(show rs.length ≤ 1000 by omega), hgo, hcB⟩, ?_⟩
      have e1 : hasSteps rs (b : Int) x = !decide (indexOf (ban3 (c : Int)) rs < 0) := by
        unfold hasSteps
        rw [if_neg (by omega), Int.toNat_natCast, hro]
      rw [br_decide]
      refine ⟨fun h => ?_, fun h => ?_⟩
      · have e3 : hasSteps rs (b : Int) x = false := by rw [e1, decide_eq_true h]; rfl
        have e2 : stepL w rs (b : Int) x = [] := by unfold stepL; rw [e3]; rfl
        rw [e3, e2] at hk
        exact hk
      · have e3 : hasSteps rs (b : Int) x = true := by rw [e1, decide_eq_false h]; rfl
        have hir := indexOf_range _ _ h
        have hif := gd_if hg (List.getElem_mem hir.2)
        have hra := rule_at hir.1 hir.2
        have e2 : stepL w rs (b : Int) x = lessL w rs (b : Int) x (backOf rs b (bitsL (rs[(indexOf (ban3 (c : Int)) rs).toNat]'hir.2).1) (out ++ [indexOf (ban3 (c : Int)) rs])) := by
          unfold stepL rawS
          rw [e3, if_pos rfl, if_neg (by omega), Int.toNat_natCast, hro, hra]
        refine ⟨hir, ⟨(show (rs[(indexOf (ban3 (c : Int)) rs).toNat]'hir.2).1.length ≤ 1000 by have := hif.1; omega), hif.2⟩, ?_, trivial, ?_, ?_⟩
        · show out.length + 1 ≤ 1099511627776
          omega
        · exact fits64 (by simp <;> omega) (by simp <;> omega)
        · refine back_loop hg (by omega) ?_ (by simp; omega) (bitsL_lt hif.2) ?_
          · intro j hj
            rcases List.mem_append.1 hj with hj | hj
            · exact hout j hj
            · rw [List.mem_singleton.1 hj]; exact hir
          · rw [e3, e2] at hk
            exact hk
end Go.Abs.Label
end

section
/- The label's functions keep their contracts: steps that lead to a word. -/
open Go.Proofs
set_option maxRecDepth 100000
set_option linter.unusedVariables false
namespace Go.Abs.Label

theorem runS_len (rs : List (List Int × Int)) : ∀ (n : Nat) (s : Nat × List Int), (runS rs n s).2.length ≤ s.2.length + n
  | 0, s => by unfold runS; omega
  | n + 1, s => by
    unfold runS
    split
    · omega
    · have := runS_len rs n (s.1 ||| 2 ^ (ruleAt rs (indexOf (grantR s.1) rs)).2.toNat, s.2 ++ [indexOf (grantR s.1) rs])
      simp only [List.length_append, List.length_cons, List.length_nil] at this
      omega
theorem backS_len (rs : List (List Int × Int)) (b : Nat) : ∀ (l : List Int) (s : Nat × List Int), (l.foldl (backS rs b) s).2.length ≤ s.2.length + l.length
  | [], s => by simp
  | i :: l, s => by
    have := backS_len rs b l (backS rs b s i)
    have h : (backS rs b s i).2.length ≤ s.2.length + 1 := by
      unfold backS
      split <;> simp
    simp only [List.foldl_cons, List.length_cons]
    omega
theorem backOf_len (rs : List (List Int × Int)) (b need : Nat) (out : List Int) : (backOf rs b need out).length ≤ out.length := by
  have := backS_len rs b out.reverse (need, [])
  unfold backOf
  rw [List.length_reverse]
  simpa using this
theorem lessS_len (w : Int) (rs : List (List Int × Int)) (b word : Int) : ∀ (n : Nat) (s : List Int), (lessS w rs b word n s).length ≤ s.length
  | 0, s => Nat.le_refl _
  | n + 1, s => by
    unfold lessS
    split
    · exact Nat.le_refl _
    · refine Nat.le_trans (lessS_len w rs b word n _) ?_
      exact (List.eraseIdx_sublist _ _).length_le
theorem stepL_len (w : Int) (rs : List (List Int × Int)) (b word : Int) : (stepL w rs b word).length ≤ 12 := by
  have hr : (rawS rs b word).length ≤ 12 := by
    have h1 := runS_len rs 11 (b.toNat, [])
    have h1 : (runOf rs b.toNat).2.length ≤ 11 := by simpa [runOf] using h1
    unfold rawS
    split
    · exact Nat.le_trans (backOf_len _ _ _ _) (by omega)
    · exact Nat.le_trans (backOf_len _ _ _ _) (by simp; omega)
  unfold stepL
  split
  · exact Nat.le_trans (lessS_len _ _ _ _ _ _) hr
  · simp

theorem k32 (hG : Good Try.prog (envOf [(42, mkC [v42]), (43, mkC [v50]), (44, mkC [v75])])) : v32.Kept Try.prog 14 := by
  rintro ⟨w, rs, l, x, ⟨⟩⟩ hpre k hk
  change Int at w
  change List (List Int × Int) at rs
  change List Int at l
  change Int at x
  refine aspec hmix hG Try.func14 tx32 (Eq.mpr (eq32 w rs l x k) ?_)
  replace hk : k (.tup [.reg 0 false, rI (stepErr w rs l x)]) [.sl (.int .i64) (stepsL w rs l x)] := hk
  unfold vc32
  obtain ⟨hs, h2⟩ := hpre
  have hs : smallG rs := hs
  have h2 : l.length ≤ 1000 := h2
  refine ⟨⟨hs, h2⟩, ?_⟩
  have bad : labelErr w rs l ≠ 0 → stepErr w rs l x = labelErr w rs l ∧ stepsL w rs l x = [] := fun h => by
    have e : stepErr w rs l x = labelErr w rs l := by unfold stepErr; rw [if_pos h]
    exact ⟨e, by unfold stepsL; rw [e, if_neg h]⟩
  refine br_intro (fun h => ?_) (fun h6 => br_intro (fun h => ?_) (fun h2' => br_intro (fun h => ?_) (fun h3 => ?_)))
  · have e := of_decide_eq_true h
    have := bad (by omega)
    rw [this.1, this.2, e] at hk
    exact hk
  · have e := of_decide_eq_true h
    have := bad (by omega)
    rw [this.1, this.2, e] at hk
    exact hk
  · have e := of_decide_eq_true h
    have := bad (by omega)
    rw [this.1, this.2, e] at hk
    exact hk
  have h0 := labelErr_cases w rs l h6 h2' h3
  obtain ⟨hg, hl9, hbB⟩ := label_isB h0
  obtain ⟨hw1, hw2, hrl, _⟩ := guild_spec hg
  have eo : anyOut (-1) (w - 1) [x] = outOf (-1) (w - 1) x := by simp [anyOut]
  refine ⟨fits64 (by omega) (by omega), (show 1 ≤ 1152921504606846976 by omega), ?_⟩
  rw [eo, Bool.not_not]
  have e0 : stepErr w rs l x = if outOf (-1) (w - 1) x then 3 else if hasSteps rs (bitsI l) x then 0 else 5 := by
    unfold stepErr
    rw [if_neg (by omega)]
  refine br_intro (fun h => ?_) (fun h => ?_)
  · rw [h, if_pos rfl] at e0
    have e1 : stepsL w rs l x = [] := by unfold stepsL; rw [e0]; rfl
    rw [e0, e1] at hk
    exact hk
  · rw [h, if_neg (by simp)] at e0
    have hx : -1 ≤ x ∧ x < w := by
      unfold outOf at h
      have := of_decide_eq_false h
      omega
    refine ⟨⟨hg, hbB, hx.1, hx.2⟩, ?_⟩
    rw [br_not]
    refine ⟨fun h2 => ?_, fun h2 => ?_⟩
    · rw [h2, if_neg (by simp)] at e0
      have e1 : stepsL w rs l x = [] := by unfold stepsL; rw [e0]; rfl
      rw [e0, e1] at hk
      exact hk
    · rw [h2, if_pos rfl] at e0
      have e1 : stepsL w rs l x = stepL w rs (bitsI l) x := by unfold stepsL; rw [e0, if_pos rfl]
      have hn := stepL_len w rs (bitsI l) x
      rw [e0, e1] at hk
      refine ⟨⟨by omega, rfl, (show (((stepL w rs (bitsI l) x).length : Nat) : Int) ≤ ((1099511627776 : Nat) : Int) by omega)⟩, ?_⟩
      · generalize stepL w rs (bitsI l) x = s at hk ⊢
        have e : (List.take (List.length (List.replicate (Int.toNat ((s.length : Nat) : Int)) (Int.ofNat 0))) s ++ List.drop s.length (List.replicate (Int.toNat ((s.length : Nat) : Int)) (Int.ofNat 0))) = s := by
          rw [Int.toNat_natCast, List.length_replicate, List.take_length, List.drop_of_length_le (by simp), List.append_nil]
        rw [e]
        exact hk
end Go.Abs.Label
end

section
/- Conditions and their equations, printed by a program. -/
open Go.Proofs
set_option maxRecDepth 100000
set_option linter.unusedVariables false
namespace Go.Abs.Label
def vc72 (l : List (List (List Int × Int))) (k : AVal → List Cont → Prop) : Prop :=
  Go.Abs.Loop (σ := ((List (List ((List Int) × Int))) × (Int × ((List (List ((List Int) × Int))) × (Int × (Int × Unit)))))) (fun K2 x2 =>
    br ((decide (x2.2.2.2.2.1 < x2.2.2.2.1)))
     (∃ h4 : (((0 : Int) ≤ x2.2.2.2.2.1) ∧ ((Int.toNat x2.2.2.2.2.1) < (List.length x2.2.2.1))),
     (Go.Abs.fitsK Go.IntKind.i64 (x2.2.1 + (((List.length (x2.2.2.1[(Int.toNat x2.2.2.2.2.1)]'h4.2)) : Nat) : Int))) ∧
     br ((decide ((x2.2.1 + (((List.length (x2.2.2.1[(Int.toNat x2.2.2.2.2.1)]'h4.2)) : Nat) : Int)) < (0 : Int))))
      (False)
      ((Go.Abs.fitsK Go.IntKind.i64 (x2.2.2.2.2.1 + (1 : Int))) ∧
      (K2 (x2.1, ((x2.2.1 + (((List.length (x2.2.2.1[(Int.toNat x2.2.2.2.2.1)]'h4.2)) : Nat) : Int)), (x2.2.2.1, (x2.2.2.2.1, ((x2.2.2.2.2.1 + (1 : Int)), ()))))))))
     ((((0 : Int) ≤ x2.2.1) ∧ (x2.2.1 ≤ (1000000 : Int))) ∧
     Go.Abs.Loop (σ := ((List (List ((List Int) × Int))) × (Int × (Int × ((List ((List Int) × Int)) × Unit))))) (fun K4 x4 =>
       br ((decide (x4.2.2.1 < x4.2.1)))
        (∃ h6 : (((0 : Int) ≤ x4.2.2.1) ∧ ((Int.toNat x4.2.2.1) < (List.length x4.1))),
        (((List.length x4.2.2.2.1) + (List.length (x4.1[(Int.toNat x4.2.2.1)]'h6.2))) ≤ Go.Abs.big) ∧
        (Go.Abs.fitsK Go.IntKind.i64 (x4.2.2.1 + (1 : Int))) ∧
        (K4 (x4.1, (x4.2.1, ((x4.2.2.1 + (1 : Int)), ((x4.2.2.2.1 ++ (x4.1[(Int.toNat x4.2.2.1)]'h6.2)), ()))))))
        ((k (Go.Abs.AVal.imm (Go.Abs.Ty.pair (Go.Abs.Ty.slice (Go.Abs.Ty.int Go.IntKind.i64)) (Go.Abs.Ty.int Go.IntKind.i64)) x4.2.2.2.1 Bool.false) []))) ((x2.1, ((((List.length x2.1) : Nat) : Int), ((0 : Int), (([] : List ((List Int) × Int)), ()))))))) ((l, ((0 : Int), (l, ((((List.length l) : Nat) : Int), ((0 : Int), ()))))))
theorem eq72 (l : List (List (List Int × Int))) (k : AVal → List Cont → Prop) : awpF (envOf [(90, cGrow)]) Try.prog kt 66 true Try.f66 (v72.args (l, ())) (v72.conts (l, ())) k = vc72 l k := by kernel_rfl
theorem tx72 : (Try.f66.body.map Code.textsOk).getD true = true := by kernel_rfl

end Go.Abs.Label
end

section
/- The label's functions keep their contracts: rules of several lists, one after the other (slices.Grow, slices.Concat). -/
open Go.Proofs
set_option maxRecDepth 100000
set_option linter.unusedVariables false
namespace Go.Abs.Label
open Go.Shelf
abbrev tRu : Ty := .pair (.slice (.int .i64)) (.int .i64)

theorem grow_spec {n : Int} (h1 : 0 ≤ n) (h2 : n ≤ 1000000) {k : AVal → List Cont → Prop} (hk : k (.reg 0 false) [.sl tRu []]) : ASpec Try.prog 90 [.nils tRu, .int .i64 n] [] k := by
  intro F K H w vs hok hargs hm hfr
  obtain ⟨v0, vs', rfl, hr0, hargs'⟩ := hargs.inv
  obtain ⟨v1, vs'', rfl, hr1, hargs''⟩ := hargs'.inv
  obtain rfl : vs'' = [] := RepL.nil_iff.1 hargs''
  clear hargs hargs' hargs''
  simp only [Rep] at hr0 hr1
  subst hr1; subst hr0
  have en : n = ((n.toNat : Nat) : Int) := by omega
  rcases Nat.eq_zero_or_pos n.toNat with h0 | hpos
  · have := Any8.slices_Grow_room Try.layGrow none 0 0 0 w (Nat.le_refl _) (by omega) (by omega) (by omega)
    rw [en, h0]
    refine Calls.mono this ?_
    rintro e w' ⟨rfl, rfl⟩
    obtain ⟨H', q1, q2, q3, q4⟩ := nil_region (M := []) (n := 0) (ty := tRu) hm (fun r _ => hfr r (Nat.zero_le _))
    have q5 : MRel F K H' w' (newM (fun _ => none) 0 [Cont.sl tRu []]) := by
      have e : newM (fun _ => none) 0 [Cont.sl tRu []] = mget [(0, Cont.sl tRu [], Flag.own)] := by
        funext r
        show upd (fun _ => none) 0 _ r = _
        unfold upd mget
        split <;> split <;> first | rfl | omega
      rw [e]
      exact q2
    exact ⟨_, .reg 0 false, [.sl tRu []], K, H', rfl, hk, .refl K, q4, q5, fun r hr => q3 r hr, hok, .refl _ _, .refl _ _, Nat.zero_le _, fun r hr => absurd hr (Nat.not_lt_zero _)⟩
  obtain ⟨i0, hi0, hz0, hs0, hb0, hzc⟩ : ∃ i, Try.prog.info? (Try.layGrow_ren.t 25) = some i ∧ i.zero = some (.agg #[.slice none 0 0, .int .i64 0]) ∧ i.size = 2 ∧ i.bytes = 32 ∧ True := ⟨Try.t37, by kernel_rfl, by kernel_rfl, by kernel_rfl, by kernel_rfl, trivial⟩
  have := Any8.slices_Grow_grow Try.layGrow i0 _ hi0 hz0 (by omega) none 0 0 n.toNat [] w (Nat.le_refl _) (by omega) (by rw [hb0]; omega) (by omega) (by simp) (fun _ => rfl) (fun a _ j v hj => by simp at hj)
  rw [← en] at this
  refine Calls.mono this ?_
  rintro e w' ⟨rfl, rfl⟩
  have hG := grownCap_ge w (0 + n.toNat) 0 (Try.layGrow_ren.t 25)
  have hM := grownCap_le_maxLen w (0 + n.toNat) 0 (Try.layGrow_ren.t 25) (by unfold maxLen; omega)
  unfold maxLen at hM
  generalize grownCap w (0 + n.toNat) 0 (Try.layGrow_ren.t 25) = G at hG hM ⊢
  have hokd : WOk F K w.drew := ⟨hok.knows, hok.lt, hok.inv, hok.apart⟩
  have hmd : MRel F K H w.drew (fun _ => none) := mrel_nil
  have hA := after_alloc hokd hmd (nx := 0) (hfr 0 (Nat.le_refl _)) (([] : List Value).toArray ++ Builtin.zeroCells (Value.agg #[.slice none 0 0, .int .i64 0]).cells (0 + n.toNat - 0) ++ Builtin.zeroCells (Value.agg #[.slice none 0 0, .int .i64 0]).cells (G - (0 + n.toNat))) (Try.layGrow_ren.t 25)
    (.sl tRu []) ⟨some w.heap.size, 2, 0, G⟩ rfl (by
      refine ⟨rfl, rfl, ⟨Nat.zero_le _, by show G ≤ _; omega⟩, .inr ⟨w.heap.size, _, _, (0, 0), rfl, alloc_new w.drew _, ?_, fun i hi => by simp at hi⟩⟩
      show G * 2 ≤ _
      simp only [Array.size_append, size_zeroCells, Value.cells]
      simp; omega)
    (.reg 0 false) (.slice (some ⟨w.heap.size, 0, none⟩) 0 G) (by simp only [Rep]; exact ⟨_, upd_same _ _ _, rfl, by simp⟩) []
  obtain ⟨a1, a2, a3, a4, a5, a6, a7, a8⟩ := hA
  refine ⟨_, .reg 0 false, [.sl tRu []], K, _, rfl, hk, .refl K, a4, a5, fun r hr => ?_, a6, ?_, .refl _ _, Nat.zero_le _, fun r hr => absurd hr (Nat.not_lt_zero _)⟩
  · have hr : 1 ≤ r := hr
    rw [upd_ne _ _ _ _ (by omega)]
    exact hfr r (Nat.zero_le _)
  · exact Kept.trans (b := w.drew) ⟨rfl, rfl, rfl, Nat.le_refl _, fun _ _ => rfl, Nat.le_succ _⟩ a7

theorem grow_kept : ∀ us cs k, cGrow.run us cs k → ASpec Try.prog 90 us cs k := by
  rintro us cs k ⟨h1, h2⟩
  have h1 : growPre us cs := h1
  unfold growPre at h1
  split at h1
  · exact grow_spec h1.1 h1.2 h2
  · exact h1.elim
theorem g90 {l : List (FuncId × Contract)} (hG : Good Try.prog (envOf l)) : Good Try.prog (envOf ((90, cGrow) :: l)) := by
  obtain ⟨c, hc⟩ := Option.isSome_iff_exists.1 (show Try.f90.body.isSome = true by kernel_rfl)
  exact good_cons hG Try.func90 hc (by kernel_rfl) grow_kept

def sumLen (l : List (List (List Int × Int))) : Nat := l.foldl (fun n x => n + x.length) 0
theorem sumLen_take {l : List (List (List Int × Int))} {i : Nat} (h : i < l.length) : sumLen (l.take (i + 1)) = sumLen (l.take i) + l[i].length := by
  unfold sumLen
  rw [List.take_succ_eq_append_getElem h, List.foldl_append]; rfl
theorem sumLen_le {l : List (List (List Int × Int))} (h : ∀ y ∈ l, y.length ≤ 1000) : ∀ i, i ≤ l.length → sumLen (l.take i) ≤ i * 1000
  | 0, _ => by simp [sumLen]
  | i + 1, hi => by
    have := sumLen_le h i (by omega)
    have h2 := h _ (List.getElem_mem (show i < l.length by omega))
    rw [sumLen_take (by omega)]; omega
theorem flatten_take {l : List (List (List Int × Int))} {i : Nat} (h : i < l.length) : (l.take (i + 1)).flatten = (l.take i).flatten ++ l[i] := by
  rw [List.take_succ_eq_append_getElem h, List.flatten_append]; simp
theorem flatten_len : ∀ (l : List (List (List Int × Int))) (i : Nat), i ≤ l.length → ((l.take i).flatten).length = sumLen (l.take i)
  | l, 0, _ => by simp [sumLen]
  | l, i + 1, h => by rw [flatten_take (by omega), sumLen_take (by omega), List.length_append, flatten_len l i (by omega)]

theorem k72 (hG : Good Try.prog (envOf [(90, cGrow)])) : v72.Kept Try.prog 66 := by
  rintro ⟨l, ⟨⟩⟩ hpre k hk
  change List (List (List Int × Int)) at l
  refine aspec hmix hG Try.func66 tx72 (Eq.mpr (eq72 l k) ?_)
  replace hk : k (.imm tRu (List.flatten l) false) [] := hk
  unfold vc72
  obtain ⟨h1, h2⟩ := hpre
  have h1 : l.length ≤ 100 := h1
  have h2 : ∀ y ∈ l, y.length ≤ 1000 := h2
  refine Loop.upto (fun i => (l, ((sumLen (l.take i) : Nat) : Int), l, ((l.length : Nat) : Int), (i : Int), ())) (fun i => True) l.length rfl trivial ?_ ?_
  · intro i K hi hp hK
    dsimp only
    rw [br_decide]
    refine ⟨fun _ => ?_, fun h => absurd hi (by omega)⟩
    try simp only [Int.toNat_natCast]
    have hK := hK trivial
    have hs := sumLen_take hi
    have hle := sumLen_le h2 (i + 1) (by omega)
    rw [hs] at hK hle
    refine ⟨⟨by omega, by omega⟩, fits64 (by omega) (by omega), ?_⟩
    rw [br_decide]
    exact ⟨fun h => absurd h (by omega), fun _ => ⟨fits64 (by omega) (by omega), hK⟩⟩
  · intro K hp
    dsimp only
    rw [br_decide]
    refine ⟨fun h => absurd h (by omega), fun _ => ?_⟩
    rw [List.take_length]
    have hle := sumLen_le h2 l.length (Nat.le_refl _)
    rw [List.take_length] at hle
    refine ⟨⟨by omega, by omega⟩, ?_⟩
    refine Loop.upto (fun i => (l, ((l.length : Nat) : Int), (i : Int), (l.take i).flatten, ())) (fun i => True) l.length rfl trivial ?_ ?_
    · intro j K_j hj hp_j hK_j
      dsimp only
      rw [br_decide]
      refine ⟨fun _ => ?_, fun h => absurd hj (by omega)⟩
      try simp only [Int.toNat_natCast]
      have hK := hK_j trivial
      have hfl := flatten_len l j (by omega)
      have hs := sumLen_take hj
      have hle := sumLen_le h2 (j + 1) (by omega)
      rw [hs] at hle
      rw [flatten_take hj] at hK
      exact ⟨⟨by omega, by omega⟩, by rw [hfl]; simp only [big]; omega, fits64 (by omega) (by omega), hK⟩
    · intro K_j hp_j
      dsimp only
      rw [br_decide]
      refine ⟨fun h => absurd h (by omega), fun _ => ?_⟩
      rw [List.take_length]
      exact hk
end Go.Abs.Label
end

section
/- Conditions and their equations, printed by a program. -/
open Go.Proofs
set_option maxRecDepth 100000
set_option linter.unusedVariables false
namespace Go.Abs.Label
def vc76t (w : Int) (rs : List (List Int × Int)) (k : AVal → List Cont → Prop) : Prop :=
  (k (Go.Abs.AVal.agg ((Go.Abs.AVal.int Go.IntKind.i64 w) :: ((Go.Abs.AVal.imm (Go.Abs.Ty.pair (Go.Abs.Ty.slice (Go.Abs.Ty.int Go.IntKind.i64)) (Go.Abs.Ty.int Go.IntKind.i64)) rs Bool.true) :: []))) [])
theorem eq76t (w : Int) (rs : List (List Int × Int)) (k : AVal → List Cont → Prop) : awpF (envOf []) Try.prog kt 67 false Try.f67 (v76t.args (w, rs, ())) (v76t.conts (w, rs, ())) k = vc76t w rs k := by kernel_rfl

def vc37  (k : AVal → List Cont → Prop) : Prop :=
  (Go.Abs.Label.v77.p ((2 : Int), (((0 : Int) :: ((1 : Int) :: ([] : List Int))), ()))) ∧
  (Go.Abs.Label.v77.p ((3 : Int), (((2 : Int) :: ([] : List Int)), ()))) ∧
  (Go.Abs.Label.v77.p ((-(1 : Int) : Int), (((3 : Int) :: ((4 : Int) :: ([] : List Int))), ()))) ∧
  (Go.Abs.Label.v77.p ((4 : Int), (((0 : Int) :: ([] : List Int)), ()))) ∧
  (Go.Abs.Label.v77.p ((1 : Int), (((5 : Int) :: ([] : List Int)), ()))) ∧
  True ∧
  (k (Go.Abs.AVal.agg ((Go.Abs.AVal.int Go.IntKind.i64 (6 : Int)) :: ((Go.Abs.AVal.imm (Go.Abs.Ty.pair (Go.Abs.Ty.slice (Go.Abs.Ty.int Go.IntKind.i64)) (Go.Abs.Ty.int Go.IntKind.i64)) ((((0 : Int) :: ((1 : Int) :: ([] : List Int))), (2 : Int)) :: ((((2 : Int) :: ([] : List Int)), (3 : Int)) :: ((((3 : Int) :: ((4 : Int) :: ([] : List Int))), (-(1 : Int) : Int)) :: ((((0 : Int) :: ([] : List Int)), (4 : Int)) :: ((((5 : Int) :: ([] : List Int)), (1 : Int)) :: ([] : List ((List Int) × Int))))))) Bool.true) :: []))) [])
theorem eq37  (k : AVal → List Cont → Prop) : awpF (envOf [(68, mkC [v77]), (67, cGuild)]) Try.prog kt 34 false Try.f34 (v37.args ()) (v37.conts ()) k = vc37  k := by kernel_rfl
theorem tx37 : (Try.f34.body.map Code.textsOk).getD true = true := by kernel_rfl

def vc38  (k : AVal → List Cont → Prop) : Prop :=
  (Go.Abs.Label.v37.p ()) ∧
  (Go.Abs.Label.v77.p ((3 : Int), (((0 : Int) :: ((5 : Int) :: ([] : List Int))), ()))) ∧
  (((List.length Go.Abs.Label.fiveR) + (List.length ((((0 : Int) :: ((5 : Int) :: ([] : List Int))), (3 : Int)) :: ([] : List ((List Int) × Int))))) ≤ Go.Abs.big) ∧
  ((0 : Nat) < (List.length ((((0 : Int) :: ((5 : Int) :: ([] : List Int))), (3 : Int)) :: ([] : List ((List Int) × Int))))) ∧
  True ∧
  (k (Go.Abs.AVal.agg ((Go.Abs.AVal.int Go.IntKind.i64 (6 : Int)) :: ((Go.Abs.AVal.imm (Go.Abs.Ty.pair (Go.Abs.Ty.slice (Go.Abs.Ty.int Go.IntKind.i64)) (Go.Abs.Ty.int Go.IntKind.i64)) (Go.Abs.Label.fiveR ++ ((((0 : Int) :: ((5 : Int) :: ([] : List Int))), (3 : Int)) :: ([] : List ((List Int) × Int)))) Bool.false) :: []))) [])
theorem eq38  (k : AVal → List Cont → Prop) : awpF (envOf [(34, mkC [v37]), (68, mkC [v77]), (67, cGuild)]) Try.prog kt 41 false Try.f41 (v38.args ()) (v38.conts ()) k = vc38  k := by kernel_rfl
theorem tx38 : (Try.f41.body.map Code.textsOk).getD true = true := by kernel_rfl

def vc31 (w : Int) (rs : List (List Int × Int)) (l : List Int) (k : AVal → List Cont → Prop) : Prop :=
  (Go.Abs.Label.v11.p (w, (rs, (l, ())))) ∧
  (Go.Abs.Label.v13.p (w, (rs, (l, ())))) ∧
  br ((((Go.Abs.Label.labelErr w rs l) != (0 : Int)) == Bool.false))
   (br ((((Go.Abs.Label.labelErr w rs l) != (0 : Int)) == Bool.false))
    ((Go.Abs.Label.v56.p ((Go.Abs.Label.folL w rs l), (w, ()))) ∧
    br ((Bool.not (Go.Abs.Label.isList (Go.Abs.Label.folL w rs l) w)))
     ((k (Go.Abs.AVal.tup ((Go.Abs.AVal.int Go.IntKind.i64 (0 : Int)) :: ((Go.Abs.AVal.bool Bool.false) :: ((Go.Abs.AVal.bool Bool.false) :: [])))) []))
     ((Go.Abs.Label.v47.p ((Go.Abs.Label.folL w rs l), ())) ∧
     (Go.Abs.Label.v47.p (l, ())) ∧
     (k (Go.Abs.AVal.tup ((Go.Abs.AVal.int Go.IntKind.i64 (Go.Abs.Label.bitsI (Go.Abs.Label.folL w rs l))) :: ((Go.Abs.AVal.bool (Go.Abs.Label.banL w rs l)) :: ((Go.Abs.AVal.bool ((Go.Abs.bitsA Go.BinOp.and Go.IntKind.i64 (Go.Abs.Label.bitsI (Go.Abs.Label.folL w rs l)) (Go.Abs.Label.bitsI l)) == (Go.Abs.Label.bitsI l))) :: [])))) [])))
    ((k (Go.Abs.AVal.tup ((Go.Abs.AVal.int Go.IntKind.i64 (0 : Int)) :: ((Go.Abs.AVal.bool Bool.false) :: ((Go.Abs.AVal.bool Bool.false) :: [])))) [])))
   ((k (Go.Abs.AVal.tup ((Go.Abs.AVal.int Go.IntKind.i64 (0 : Int)) :: ((Go.Abs.AVal.bool Bool.false) :: ((Go.Abs.AVal.bool Bool.false) :: [])))) []))
theorem eq31 (w : Int) (rs : List (List Int × Int)) (l : List Int) (k : AVal → List Cont → Prop) : awpF (envOf [(35, mkC [v11]), (37, mkC [v13]), (26, mkC [v56]), (25, mkC [v47])]) Try.prog kt 20 false Try.f20 (v31.args (w, rs, l, ())) (v31.conts (w, rs, l, ())) k = vc31 w rs l k := by kernel_rfl
theorem tx31 : (Try.f20.body.map Code.textsOk).getD true = true := by kernel_rfl

def vc10  (k : AVal → List Cont → Prop) : Prop :=
  (Go.Abs.Label.v37.p ()) ∧
  (Go.Abs.Label.v38.p ()) ∧
  (Go.Abs.Label.v39.p (((0 : Int) :: ((5 : Int) :: ([] : List Int))), ())) ∧
  (Go.Abs.Label.v11.p ((6 : Int), (Go.Abs.Label.fiveR, (((0 : Int) :: ((5 : Int) :: ([] : List Int))), ())))) ∧
  (Go.Abs.Label.v39.p (((1 : Int) :: ((0 : Int) :: ([] : List Int))), ())) ∧
  (Go.Abs.Label.v11.p ((6 : Int), (Go.Abs.Label.fiveR, (((1 : Int) :: ((0 : Int) :: ([] : List Int))), ())))) ∧
  (Go.Abs.Label.v39.p (((0 : Int) :: ((1 : Int) :: ([] : List Int))), ())) ∧
  (Go.Abs.Label.v13.p ((6 : Int), (Go.Abs.Label.fiveR, (((0 : Int) :: ((1 : Int) :: ([] : List Int))), ())))) ∧
  (Go.Abs.Label.v39.p (((0 : Int) :: ([] : List Int)), ())) ∧
  (Go.Abs.Label.v13.p ((6 : Int), (Go.Abs.Label.fiveR, (((0 : Int) :: ([] : List Int)), ())))) ∧
  (Go.Abs.Label.v39.p (((0 : Int) :: ((5 : Int) :: ([] : List Int))), ())) ∧
  (Go.Abs.Label.v39.p (((4 : Int) :: ((0 : Int) :: ((1 : Int) :: ([] : List Int)))), ())) ∧
  (Go.Abs.Label.v33.p ((6 : Int), (Go.Abs.Label.fiveR, (((0 : Int) :: ((5 : Int) :: ([] : List Int))), ((3 : Int), (((4 : Int) :: ((0 : Int) :: ((1 : Int) :: ([] : List Int)))), ())))))) ∧
  (Go.Abs.Label.v39.p (((0 : Int) :: ((5 : Int) :: ([] : List Int))), ())) ∧
  (Go.Abs.Label.v39.p (((0 : Int) :: ((1 : Int) :: ([] : List Int))), ())) ∧
  (Go.Abs.Label.v33.p ((6 : Int), (Go.Abs.Label.fiveR, (((0 : Int) :: ((5 : Int) :: ([] : List Int))), ((3 : Int), (((0 : Int) :: ((1 : Int) :: ([] : List Int))), ())))))) ∧
  (Go.Abs.Label.v39.p (((0 : Int) :: ((5 : Int) :: ([] : List Int))), ())) ∧
  (Go.Abs.Label.v39.p (((4 : Int) :: ((0 : Int) :: ([] : List Int))), ())) ∧
  (Go.Abs.Label.v33.p ((6 : Int), (Go.Abs.Label.fiveR, (((0 : Int) :: ((5 : Int) :: ([] : List Int))), ((3 : Int), (((4 : Int) :: ((0 : Int) :: ([] : List Int))), ())))))) ∧
  (Go.Abs.Label.v39.p (((0 : Int) :: ((5 : Int) :: ([] : List Int))), ())) ∧
  (Go.Abs.Label.v39.p (((4 : Int) :: ((0 : Int) :: ((1 : Int) :: ((3 : Int) :: ((2 : Int) :: ([] : List Int)))))), ())) ∧
  (Go.Abs.Label.v33.p ((6 : Int), (Go.Abs.Label.fiveR, (((0 : Int) :: ((5 : Int) :: ([] : List Int))), ((-(1 : Int) : Int), (((4 : Int) :: ((0 : Int) :: ((1 : Int) :: ((3 : Int) :: ((2 : Int) :: ([] : List Int)))))), ())))))) ∧
  (Go.Abs.Label.v39.p (((0 : Int) :: ([] : List Int)), ())) ∧
  (Go.Abs.Label.v33.p ((6 : Int), (Go.Abs.Label.fiveR, (((0 : Int) :: ([] : List Int)), ((6 : Int), (([] : List Int), ())))))) ∧
  (Go.Abs.Label.v39.p (((0 : Int) :: ((5 : Int) :: ([] : List Int))), ())) ∧
  (Go.Abs.Label.v32.p ((6 : Int), (Go.Abs.Label.fiveR, (((0 : Int) :: ((5 : Int) :: ([] : List Int))), ((3 : Int), ()))))) ∧
  (Go.Abs.Label.v39.p (((0 : Int) :: ([] : List Int)), ())) ∧
  (Go.Abs.Label.v32.p ((6 : Int), (Go.Abs.Label.fiveR, (((0 : Int) :: ([] : List Int)), ((-(1 : Int) : Int), ()))))) ∧
  (Go.Abs.Label.v39.p (((0 : Int) :: ((1 : Int) :: ((2 : Int) :: ((3 : Int) :: ((4 : Int) :: ((5 : Int) :: ([] : List Int))))))), ())) ∧
  (Go.Abs.Label.v18.p ((6 : Int), (Go.Abs.Label.fiveR, (((0 : Int) :: ((1 : Int) :: ((2 : Int) :: ((3 : Int) :: ((4 : Int) :: ((5 : Int) :: ([] : List Int))))))), ((3 : Int), ()))))) ∧
  (Go.Abs.Label.v39.p (((0 : Int) :: ((1 : Int) :: ((2 : Int) :: ((3 : Int) :: ((4 : Int) :: ((5 : Int) :: ([] : List Int))))))), ())) ∧
  (Go.Abs.Label.v20.p ((6 : Int), (Go.Abs.Label.fiveR, (((0 : Int) :: ((1 : Int) :: ((2 : Int) :: ((3 : Int) :: ((4 : Int) :: ((5 : Int) :: ([] : List Int))))))), ())))) ∧
  (Go.Abs.Label.v39.p (((2 : Int) :: ((3 : Int) :: ((4 : Int) :: ([] : List Int)))), ())) ∧
  (Go.Abs.Label.v23.p ((6 : Int), (Go.Abs.Label.fiveR, (((2 : Int) :: ((3 : Int) :: ((4 : Int) :: ([] : List Int)))), ())))) ∧
  (Go.Abs.Label.v25.p ((6 : Int), (Go.Abs.Label.fiveR, ()))) ∧
  (Go.Abs.Label.v27.p ((6 : Int), (Go.Abs.Label.sixR, ((5 : Int), ())))) ∧
  (Go.Abs.Label.v27.p ((6 : Int), (Go.Abs.Label.fiveR, ((0 : Int), ())))) ∧
  (Go.Abs.Label.v27.p ((6 : Int), (Go.Abs.Label.fiveR, ((9 : Int), ())))) ∧
  (Go.Abs.Label.v39.p (((0 : Int) :: ((1 : Int) :: ((2 : Int) :: ((3 : Int) :: ((4 : Int) :: ((5 : Int) :: ([] : List Int))))))), ())) ∧
  (Go.Abs.Label.v17.p ((Go.Abs.Label.folL (6 : Int) Go.Abs.Label.fiveR ((0 : Int) :: ((5 : Int) :: ([] : List Int)))), (((0 : Int) :: ((1 : Int) :: ((2 : Int) :: ((3 : Int) :: ((4 : Int) :: ((5 : Int) :: ([] : List Int))))))), ()))) ∧
  (Go.Abs.Label.v39.p (((0 : Int) :: ((5 : Int) :: ([] : List Int))), ())) ∧
  (Go.Abs.Label.v40.p ((6 : Int), (Go.Abs.Label.fiveR, (((0 : Int) :: ((5 : Int) :: ([] : List Int))), ((3 : Int), ((Go.Abs.Label.stepsL (6 : Int) Go.Abs.Label.fiveR ((0 : Int) :: ((5 : Int) :: ([] : List Int))) (3 : Int)), ())))))) ∧
  (Go.Abs.Label.v39.p (((0 : Int) :: ((1 : Int) :: ([] : List Int))), ())) ∧
  (Go.Abs.Label.v39.p (((0 : Int) :: ((5 : Int) :: ([] : List Int))), ())) ∧
  (Go.Abs.Label.v39.p (((2 : Int) :: ([] : List Int)), ())) ∧
  (Go.Abs.Label.v39.p (((3 : Int) :: ([] : List Int)), ())) ∧
  (Go.Abs.Label.v41.p ((((0 : Int) :: ((1 : Int) :: ([] : List Int))) :: (((0 : Int) :: ((5 : Int) :: ([] : List Int))) :: (((2 : Int) :: ([] : List Int)) :: (((3 : Int) :: ([] : List Int)) :: ([] : List (List Int)))))), ())) ∧
  (Go.Abs.Label.v22.p ((Go.Abs.Label.reaL (6 : Int) Go.Abs.Label.fiveR ((0 : Int) :: ((1 : Int) :: ((2 : Int) :: ((3 : Int) :: ((4 : Int) :: ((5 : Int) :: ([] : List Int))))))) (3 : Int)), ((((0 : Int) :: ((1 : Int) :: ([] : List Int))) :: (((0 : Int) :: ((5 : Int) :: ([] : List Int))) :: (((2 : Int) :: ([] : List Int)) :: (((3 : Int) :: ([] : List Int)) :: ([] : List (List Int)))))), ()))) ∧
  br (((Go.Abs.Label.eqLL (Go.Abs.Label.reaL (6 : Int) Go.Abs.Label.fiveR ((0 : Int) :: ((1 : Int) :: ((2 : Int) :: ((3 : Int) :: ((4 : Int) :: ((5 : Int) :: ([] : List Int))))))) (3 : Int)) (((0 : Int) :: ((1 : Int) :: ([] : List Int))) :: (((0 : Int) :: ((5 : Int) :: ([] : List Int))) :: (((2 : Int) :: ([] : List Int)) :: (((3 : Int) :: ([] : List Int)) :: ([] : List (List Int))))))) == Bool.true))
   ((Go.Abs.Label.v39.p (((0 : Int) :: ((5 : Int) :: ([] : List Int))), ())) ∧
   (Go.Abs.Label.v41.p ((((0 : Int) :: ((5 : Int) :: ([] : List Int))) :: ([] : List (List Int))), ())) ∧
   (Go.Abs.Label.v22.p ((Go.Abs.Label.keyL (6 : Int) Go.Abs.Label.fiveR ((0 : Int) :: ((1 : Int) :: ((2 : Int) :: ((3 : Int) :: ((4 : Int) :: ((5 : Int) :: ([] : List Int)))))))), ((((0 : Int) :: ((5 : Int) :: ([] : List Int))) :: ([] : List (List Int))), ()))) ∧
   (Go.Abs.Label.v39.p (((4 : Int) :: ([] : List Int)), ())) ∧
   (Go.Abs.Label.v17.p ((Go.Abs.Label.takeL (6 : Int) Go.Abs.Label.fiveR ((2 : Int) :: ((3 : Int) :: ((4 : Int) :: ([] : List Int))))), (((4 : Int) :: ([] : List Int)), ()))) ∧
   (k (Go.Abs.AVal.bool (Bool.not (Go.Abs.Label.idleB (6 : Int) Go.Abs.Label.fiveR (0 : Int)))) []))
   ((k (Go.Abs.AVal.bool Bool.false) []))
theorem eq10  (k : AVal → List Cont → Prop) : awpF (envOf [(34, mkC [v37]), (41, mkC [v38]), (36, mkC [v39]), (35, mkC [v11]), (37, mkC [v13]), (16, mkC [v33]), (14, mkC [v32]), (24, mkC [v18]), (28, mkC [v20]), (30, mkC [v23]), (23, mkC [v25]), (32, mkC [v27]), (29, mkC [v17]), (17, mkC [v40]), (39, mkC [v41]), (38, mkC [v22])]) Try.prog kt 13 false Try.f13 (v10.args ()) (v10.conts ()) k = vc10  k := by kernel_rfl
theorem tx10 : (Try.f13.body.map Code.textsOk).getD true = true := by kernel_rfl

end Go.Abs.Label
end

section
/- The label's functions keep their contracts: the examples; what follows, as the statements ask it. -/
open Go.Proofs
set_option maxRecDepth 100000
set_option linter.unusedVariables false
namespace Go.Abs.Label

theorem k76t (hG : Good Try.prog (envOf [])) : v76t.Kept Try.prog 67 := by
  rintro ⟨w, rs, ⟨⟩⟩ hpre k hk
  change Int at w
  change List (List Int × Int) at rs
  refine aspec hmix hG Try.func67 tx76 (Eq.mpr (eq76t w rs k) ?_)
  replace hk : k (.agg [rI w, .imm tRu rs true]) [] := hk
  unfold vc76t
  exact hk

theorem guild_kept : ∀ us cs k, cGuild.run us cs k → ASpec Try.prog 67 us cs k := by
  rintro us cs k ⟨h1, h2⟩
  have h1 : guildPre us cs := h1
  unfold guildPre at h1
  split at h1
  · rename_i n l f _
    cases f with
    | false => exact k76 good_nil (n, l, ()) trivial k h2
    | true => exact k76t good_nil (n, l, ()) trivial k h2
  · exact h1.elim
theorem g76 {l : List (FuncId × Contract)} (hG : Good Try.prog (envOf l)) : Good Try.prog (envOf ((67, cGuild) :: l)) := by
  obtain ⟨c, hc⟩ := Option.isSome_iff_exists.1 (show Try.f67.body.isSome = true by kernel_rfl)
  exact good_cons hG Try.func67 hc (by kernel_rfl) guild_kept

theorem k37 (hG : Good Try.prog (envOf [(68, mkC [v77]), (67, cGuild)])) : v37.Kept Try.prog 34 := by
  rintro ⟨⟩ hpre k hk
  refine aspec hmix hG Try.func34 tx37 (Eq.mpr (eq37  k) ?_)
  replace hk : k (.agg [rI 6, .imm tRu fiveR true]) [] := hk
  unfold vc37
  exact ⟨trivial, trivial, trivial, trivial, trivial, trivial, hk⟩

theorem k38 (hG : Good Try.prog (envOf [(34, mkC [v37]), (68, mkC [v77]), (67, cGuild)])) : v38.Kept Try.prog 41 := by
  rintro ⟨⟩ hpre k hk
  refine aspec hmix hG Try.func41 tx38 (Eq.mpr (eq38  k) ?_)
  replace hk : k (.agg [rI 6, .imm tRu sixR false]) [] := hk
  unfold vc38
  exact ⟨trivial, trivial, by decide, by decide, trivial, hk⟩

/-! ### lists of words, and sets -/
theorem bits_listed {b n : Nat} (h : b < 2 ^ n) : bitsL (listed b n) = b := by
  apply Nat.eq_of_testBit_eq
  intro i
  rw [Bool.eq_iff_iff, bitsL_test]
  constructor
  · rintro ⟨x, hx, rfl⟩
    obtain ⟨j, rfl, _, hj⟩ := listed_mem.1 hx
    exact hj
  · intro hi
    have : i < n := by
      rcases Nat.lt_or_ge i n with h' | h'
      · exact h'
      · rw [Nat.testBit_lt_two_pow (Nat.lt_of_lt_of_le h (Nat.pow_le_pow_right (by omega) h'))] at hi
        cases hi
    exact ⟨(i : Int), listed_mem.2 ⟨i, rfl, this, hi⟩, rfl⟩
theorem lt_of_tests {b n : Nat} (h : ∀ i, b.testBit i = true → i < n) : b < 2 ^ n := by
  refine Nat.lt_pow_two_of_testBit b (fun i hi => ?_)
  cases hb : b.testBit i with
  | false => rfl
  | true => have := h i hb; omega
theorem bits_ltw {l : List Int} {w : Int} (h : isList l w = true) : bitsL l < 2 ^ w.toNat := by
  refine lt_of_tests (fun i hi => ?_)
  obtain ⟨x, hx, rfl⟩ := (bitsL_test l i).1 hi
  have := (isList_spec.1 h).1 x hx
  omega
theorem listed_bits {l : List Int} {w : Int} (h : isList l w = true) : listed (bitsL l) w.toNat = l := by
  refine sorted_ext (· < ·) (fun a => Int.lt_irrefl a) (fun a b c h1 h2 => Int.lt_trans h1 h2) _ _ (listed_sorted _ _) (isList_spec.1 h).2 (fun x => ?_)
  rw [listed_mem]
  constructor
  · rintro ⟨i, rfl, h1, h2⟩
    obtain ⟨y, hy, e⟩ := (bitsL_test l i).1 h2
    have := (isList_spec.1 h).1 y hy
    have : y = (i : Int) := by omega
    rw [← this]; exact hy
  · intro hx
    have := (isList_spec.1 h).1 x hx
    exact ⟨x.toNat, by omega, by omega, (bitsL_test l _).2 ⟨x, hx, rfl⟩⟩
theorem isList_len {l : List Int} {w : Int} (h : isList l w = true) : l.length ≤ w.toNat := by
  rw [← listed_bits h]; exact listed_len _ _
theorem isList_listed (b : Nat) {w : Int} (h : 0 ≤ w) : isList (listed b w.toNat) w = true := by
  have := listed_isList b w.toNat
  rwa [Int.toNat_of_nonneg h] at this
theorem clo_ltw {w : Int} {rs : List (List Int × Int)} (hg : Gd w rs) {b : Nat} (hb : b < 2 ^ w.toNat) : clo w rs b < 2 ^ w.toNat := by
  refine lt_of_tests (fun i hi => ?_)
  have hr : thensIn w.toNat rs := fun r hr => by have := gd_w hg r hr; have := guild_spec hg; omega
  rcases iter_new hr (w.toNat + 1) b hi with h | h
  · rcases Nat.lt_or_ge i w.toNat with h' | h'
    · exact h'
    · rw [Nat.testBit_lt_two_pow (Nat.lt_of_lt_of_le hb (Nat.pow_le_pow_right (by omega) h'))] at h
      cases h
  · exact h
theorem fol_bits {w : Int} {rs : List (List Int × Int)} {l : List Int} (hg : Gd w rs) (hl : isList l w = true) : folL w rs l = listed (clo w rs (bitsL l)) w.toNat := by
  unfold folL
  have h0 : labelErr w rs l = 0 := by
    unfold labelErr
    rw [if_neg (by simpa using hg), if_pos hl]
  rw [if_pos h0]
  unfold listedI fromI bitsI
  rw [Int.toNat_natCast, Int.toNat_natCast]

theorem k31 (hG : Good Try.prog (envOf [(35, mkC [v11]), (37, mkC [v13]), (26, mkC [v56]), (25, mkC [v47])])) : v31.Kept Try.prog 20 := by
  rintro ⟨w, rs, l, ⟨⟩⟩ hpre k hk
  change Int at w
  change List (List Int × Int) at rs
  change List Int at l
  refine aspec hmix hG Try.func20 tx31 (Eq.mpr (eq31 w rs l k) ?_)
  replace hk : k (.tup [rI (fromI w rs (bitsI l)), rBo (banI w rs (bitsI l)), rBo true]) [] := hk
  unfold vc31
  obtain ⟨hg, hl⟩ := hpre
  have hg : Gd w rs := hg
  have hl : isList l w = true := hl
  obtain ⟨hw1, hw2, hrl, _⟩ := guild_spec hg
  have h0 : labelErr w rs l = 0 := by
    unfold labelErr
    rw [if_neg (by simpa using hg), if_pos hl]
  obtain ⟨_, hl9, hbB⟩ := label_isB h0
  have hlen := isList_len hl
  have hls : isList (folL w rs l) w = true := by rw [fol_bits hg hl]; exact isList_listed _ (by omega)
  have hfl := isList_len hls
  have hbw := bits_ltw hl
  have hcw := clo_ltw hg hbw
  have ef : bitsI (folL w rs l) = fromI w rs (bitsI l) := by
    rw [fol_bits hg hl]
    unfold bitsI fromI
    rw [bits_listed hcw, Int.toNat_natCast]
  have eb : banL w rs l = banI w rs (bitsI l) := by unfold banL; rw [h0]; rfl
  have efB := gd_isB hg hbB
  refine ⟨⟨gd_small hg, (show l.length ≤ 1000 by omega)⟩, ⟨gd_small hg, (show l.length ≤ 1000 by omega)⟩, ?_⟩
  rw [h0, br_bf]
  refine ⟨fun _ => ?_, fun h => by cases h⟩
  rw [br_bf]
  refine ⟨fun _ => ⟨⟨(show (folL w rs l).length ≤ 1152921504606846976 by omega), (show (0 : Int) ≤ w by omega), (show w ≤ 1000 by omega)⟩, ?_⟩, fun h => by cases h⟩
  rw [hls, br_not]

  refine ⟨fun h => (by cases h), fun _ => ⟨⟨(show (folL w rs l).length ≤ 1000 by omega), list_inL (by omega) hls⟩, ⟨(show l.length ≤ 1000 by omega), hl9⟩, ?_⟩⟩
  have e3 : (bitsA .and .i64 (fromI w rs (bitsI l)) (bitsI l) == bitsI l) = true := by
    rw [and_has efB hbB]
    unfold hasI fromI bitsI
    rw [Int.toNat_natCast, Int.toNat_natCast]
    exact clo_sub _ _ _
  rw [ef, eb, e3]
  exact hk

def shortB (x : List Int) : Bool := decide (x.length ≤ 1000)
theorem k10 (hG : Good Try.prog (envOf [(34, mkC [v37]), (41, mkC [v38]), (36, mkC [v39]), (35, mkC [v11]), (37, mkC [v13]), (16, mkC [v33]), (14, mkC [v32]), (24, mkC [v18]), (28, mkC [v20]), (30, mkC [v23]), (23, mkC [v25]), (32, mkC [v27]), (29, mkC [v17]), (17, mkC [v40]), (39, mkC [v41]), (38, mkC [v22])])) : v10.Kept Try.prog 13 := by
  rintro ⟨⟩ hpre k hk
  refine aspec hmix hG Try.func13 tx10 (Eq.mpr (eq10  k) ?_)
  replace hk : k (rBo true) [] := hk
  unfold vc10
  have l5 : fiveR.length = 5 := rfl
  have s5 : smallG fiveR := by decide
  have s6 : smallG sixR := by decide
  have hr : reaL 6 fiveR [0, 1, 2, 3, 4, 5] 3 = [[0, 1], [0, 5], [2], [3]] := by
    have e1 : wordErr 6 fiveR [0, 1, 2, 3, 4, 5] 3 = 0 := by decide
    have e2 : (minE (goodsR 6 fiveR (andI 0 3) (bitsI [0, 1, 2, 3, 4, 5]))).map (fun e => listI e.2.1) = [[0, 1], [2], [3], [0, 5]] := by decide
    unfold reaL listsE
    rw [if_pos e1, e2]
    exact (sortLL_unique (by decide) (by decide)).symm
  have hkey : keyL 6 fiveR [0, 1, 2, 3, 4, 5] = [[0, 5]] := by
    have e1 : labelErr 6 fiveR [0, 1, 2, 3, 4, 5] = 0 := by decide
    have e2 : (fewE (minE (goodsK 6 fiveR (fromI 6 fiveR (bitsI [0, 1, 2, 3, 4, 5])) (bitsI [0, 1, 2, 3, 4, 5])))).map (fun e => listI e.2.1) = [[0, 5]] := by decide
    unfold keyL listsE
    rw [if_pos e1, e2]
    exact (sortLL_unique (by decide) (by decide)).symm
  have hst : (stepsL 6 fiveR [0, 5] 3).length ≤ 12 := by
    unfold stepsL
    split
    · exact stepL_len _ _ _ _
    · exact Nat.zero_le _
  have hfo : folL 6 fiveR [0, 5] = [0, 1, 2, 3, 4, 5] := by decide
  have hta : takeL 6 fiveR [2, 3, 4] = [4] := by decide
  have hid : idleB 6 fiveR 0 = false := by decide
  rw [hr, hkey, hfo, hta, hid]
  have p2 : ∀ l : List Int, l.length ≤ 12 → v11.p (6, fiveR, l, ()) := fun l h => ⟨s5, (show l.length ≤ 1000 by omega)⟩
  have p13 : ∀ l : List Int, l.length ≤ 12 → v13.p (6, fiveR, l, ()) := fun l h => ⟨s5, (show l.length ≤ 1000 by omega)⟩
  have p33 : ∀ (l : List Int) (x : Int) (s : List Int), l.length ≤ 12 → s.length ≤ 12 → v33.p (6, fiveR, l, x, s, ()) := fun l x s h h2 => ⟨s5, (show l.length ≤ 1000 by omega), (show s.length ≤ 1000 by omega)⟩
  have p40 : ∀ (l : List Int) (x : Int) (s : List Int), l.length ≤ 12 → s.length ≤ 12 → v40.p (6, fiveR, l, x, s, ()) := fun l x s h h2 => ⟨s5, (show l.length ≤ 1000 by omega), (show s.length ≤ 1000 by omega)⟩
  have p32 : ∀ (l : List Int) (x : Int), l.length ≤ 12 → v32.p (6, fiveR, l, x, ()) := fun l x h => ⟨s5, (show l.length ≤ 1000 by omega)⟩
  have p18 : ∀ (l : List Int) (x : Int), l.length ≤ 12 → v18.p (6, fiveR, l, x, ()) := fun l x h => ⟨s5, (show l.length ≤ 1000 by omega)⟩
  have p20 : ∀ (l : List Int), l.length ≤ 12 → v20.p (6, fiveR, l, ()) := fun l h => ⟨s5, (show l.length ≤ 1000 by omega)⟩
  have p23 : ∀ (l : List Int), l.length ≤ 12 → v23.p (6, fiveR, l, ()) := fun l h => ⟨s5, (show l.length ≤ 1000 by omega)⟩
  have p17 : ∀ (l m : List Int), l.length ≤ 12 → m.length ≤ 12 → v17.p (l, m, ()) := fun l m h h2 => ⟨(show l.length ≤ 1152921504606846976 by omega), (show m.length ≤ 1152921504606846976 by omega)⟩
  have p22 : ∀ (l m : List (List Int)), l.length ≤ 12 → m.length ≤ 12 → l.all shortB = true → m.all shortB = true → v22.p (l, m, ()) := fun l m h h2 h3 h4 => ⟨(show l.length ≤ 2000 by omega), (show m.length ≤ 2000 by omega), fun x hx => of_decide_eq_true (List.all_eq_true.1 h3 x hx), fun x hx => of_decide_eq_true (List.all_eq_true.1 h4 x hx)⟩
  refine ⟨trivial, trivial, trivial, p2 _ (by decide), trivial, p2 _ (by decide), trivial, p13 _ (by decide), trivial, p13 _ (by decide), trivial, trivial, p33 _ _ _ (by decide) (by decide), trivial, trivial, p33 _ _ _ (by decide) (by decide), trivial, trivial, p33 _ _ _ (by decide) (by decide), trivial, trivial, p33 _ _ _ (by decide) (by decide), trivial, p33 _ _ _ (by decide) (by decide), trivial, p32 _ _ (by decide), trivial, p32 _ _ (by decide), trivial, p18 _ _ (by decide), trivial, p20 _ (by decide), trivial, p23 _ (by decide), s5, s6, s5, s5, trivial, p17 _ _ (by decide) (by decide), trivial, p40 _ _ _ (by decide) hst, trivial, trivial, trivial, trivial, trivial, p22 _ _ (by decide) (by decide) (by decide) (by decide), ?_⟩
  rw [br_bt]
  exact ⟨fun _ => ⟨trivial, trivial, p22 _ _ (by decide) (by decide) (by decide) (by decide), trivial, p17 _ _ (by decide) (by decide), hk⟩, fun h => absurd h (by decide)⟩
end Go.Abs.Label
end

section
/- Conditions and their equations, printed by a program. -/
open Go.Proofs
set_option maxRecDepth 100000
set_option linter.unusedVariables false
namespace Go.Abs.Label
end Go.Abs.Label
end

section
/- The label's statements: which guilds are valid, what follows, what is banned. -/
open Go.Proofs
set_option maxRecDepth 100000
set_option linter.unusedVariables false
namespace Go.Abs.Label
theorem br_yes {b : Bool} {p q : Prop} (h : b = true) (hp : p) : br b p q := by subst h; exact hp
theorem br_no {b : Bool} {p q : Prop} (h : b = false) (hq : q) : br b p q := by subst h; exact hq
end Go.Abs.Label
end

section
/- Plain laws of labels: reasons, keys, what is taken, idle rules: two ways agree. -/
open Go.Proofs
set_option maxRecDepth 100000
set_option linter.unusedVariables false
namespace Go.Abs.Label

/-! ### what follows -/
theorem ban_iff {w : Int} {rs : List (List Int × Int)} {b : Nat} : banned w rs b = true ↔ ∃ r ∈ rs, r.2 < 0 ∧ subB (bitsL r.1) (clo w rs b) = true := by
  unfold banned
  rw [List.any_eq_true]
  simp only [banR, Bool.and_eq_true, decide_eq_true_eq]
theorem sub_antisymm' {a b : Nat} (h : a ≠ b) (h1 : subB a b = true) : ∃ i, b.testBit i = true ∧ a.testBit i = false := by
  refine Classical.byContradiction fun hn => h (sub_antisymm h1 (sub_iff.2 fun i hi => ?_))
  cases ha : a.testBit i with
  | true => rfl
  | false => exact absurd ⟨i, hi, ha⟩ hn
theorem test_pow {w : Nat} {b i : Nat} (hb : b < 2 ^ w) (h : b.testBit i = true) : i < w := by
  rcases Nat.lt_or_ge i w with h' | h'
  · exact h'
  · rw [Nat.testBit_lt_two_pow (Nat.lt_of_lt_of_le hb (Nat.pow_le_pow_right (by omega) h'))] at h
    cases h
theorem without_one {i j : Nat} (hi : i < 1024) : (∀ k, (andNot i (2 ^ j)).testBit k = (i.testBit k && decide (k ≠ j))) ∧ subB (andNot i (2 ^ j)) i = true ∧ andNot i (2 ^ j) < 1024 := by
  have h : ∀ k, (andNot i (2 ^ j)).testBit k = (i.testBit k && decide (k ≠ j)) := by
    intro k
    rcases Nat.lt_or_ge k 10 with hk | hk
    · rw [notI_test hk, Nat.testBit_two_pow]
      by_cases e : j = k
      · subst e; simp
      · simp [e, Ne.symm e]
    · have h1 : i.testBit k = false := Nat.testBit_lt_two_pow (Nat.lt_of_lt_of_le hi (Nat.pow_le_pow_right (n := 2) (by omega) hk))
      have h2 : (andNot i (2 ^ j)).testBit k = false := Nat.testBit_lt_two_pow (Nat.lt_of_lt_of_le (notI_lt hi) (Nat.pow_le_pow_right (n := 2) (by omega) hk))
      rw [h1, h2]; rfl
  refine ⟨h, sub_iff.2 fun k hk => ?_, notI_lt hi⟩
  rw [h, Bool.and_eq_true] at hk
  exact hk.1

/-! ### the parts of a label, two ways -/
theorem parts_range {s W : Nat} (hs : s < 2 ^ W) (p : Nat → Bool) : (partsN s).filter p = (List.range (2 ^ W)).filter (fun i => subB i s && p i) := by
  have e : partsN s = (List.range (2 ^ W)).filter (fun i => subB i s) := by
    show (List.range (s + 1)).filter (fun p => subB p s) = _
    obtain ⟨d, hd⟩ : ∃ d, 2 ^ W = (s + 1) + d := ⟨2 ^ W - (s + 1), by omega⟩
    rw [hd, @List.range_add (s + 1) d, List.filter_append]
    have : (List.map (fun x => s + 1 + x) (List.range d)).filter (fun i => subB i s) = [] := by
      rw [List.filter_eq_nil_iff]
      intro x hx h
      obtain ⟨y, _, rfl⟩ := List.mem_map.1 hx
      have := sub_le h
      omega
    rw [this, List.append_nil]
  rw [e, List.filter_filter]
  exact List.filter_congr (fun x _ => by rw [Bool.and_comm])
theorem goods_range {s W : Nat} (hs : s < 2 ^ W) (good : Int → Bool) : goodsI good (s : Int) = ((List.range (2 ^ W)).filter (fun i => subB i s && good (i : Int))).map Int.ofNat := by
  unfold goodsI
  rw [Int.toNat_natCast, List.filter_map, parts_range hs]
  rfl
theorem min_keys (G : List Int) : (minE G).map (fun e => e.2.1) = G.filter (fun y => !G.any (properB y)) := by
  unfold minE
  rw [show (fun e : Nat × Int × Int => !G.any (properB e.2.1)) = (fun y => !G.any (properB y)) ∘ (fun e => e.2.1) from rfl, ← List.filter_map, ents_keys]
theorem listI_w {w : Int} (hw : 0 ≤ w ∧ w ≤ 10) {i : Nat} (hi : i < 2 ^ w.toNat) : listI (i : Int) = listed i w.toNat := by
  unfold listI
  rw [Int.toNat_natCast]
  refine listed_stop 10 (by omega) (fun j h1 h2 => ?_)
  exact Nat.testBit_lt_two_pow (Nat.lt_of_lt_of_le hi (Nat.pow_le_pow_right (by omega) h1))
theorem proper_nat {i j : Nat} : properB (i : Int) (j : Int) = true ↔ i ≠ j ∧ subB j i = true := by
  unfold properB hasI
  rw [Int.toNat_natCast, Int.toNat_natCast]
  simp only [Bool.and_eq_true, decide_eq_true_eq]
  constructor
  · rintro ⟨h1, h2⟩; exact ⟨fun e => h1 (by rw [e]), h2⟩
  · rintro ⟨h1, h2⟩; exact ⟨fun e => h1 (by omega), h2⟩
/-- Those that are good and have no part that is: of the numbers below. -/
theorem min_nat (G : List Nat) : ((G.map Int.ofNat).filter (fun y => !(G.map Int.ofNat).any (properB y))) = (G.filter (fun i => !G.any (fun j => decide (i ≠ j) && subB j i))).map Int.ofNat := by
  rw [List.filter_map]
  congr 1
  refine List.filter_congr (fun i hi => ?_)
  show (!(G.map Int.ofNat).any (properB (i : Int))) = _
  congr 1
  rw [List.any_map]
  congr 1
  funext j
  show properB (i : Int) (j : Int) = _
  rw [Bool.eq_iff_iff, proper_nat]
  simp

/-! ### reasons -/
end Go.Abs.Label
end

section
/- Plain laws of labels: keys, what is taken, idle rules: two ways agree. -/
open Go.Proofs
set_option maxRecDepth 100000
set_option linter.unusedVariables false
namespace Go.Abs.Label

/-! ### keys -/
theorem keyOk_nat (w : Int) (rs : List (List Int × Int)) (b i : Nat) : keyOk w rs (fromI w rs (b : Int)) (i : Int) = decide (clo w rs i = clo w rs b) := by
  unfold keyOk
  rw [fromI_nat, fromI_nat, decide_eq_decide]
  omega
def lenW (w : Int) (i : Nat) : Nat := (listed i w.toNat).length
/-- What the fold over keys says. -/
structure KeyAt (w : Int) (F : List Nat) (s : Int × List (List Int)) : Prop where
  ex : ∃ m : Nat, s.1 = (m : Int) ∧ (∀ j ∈ F, m ≤ lenW w j) ∧ ((m = w.toNat) ∨ ∃ j ∈ F, lenW w j = m) ∧ s.2 = (F.filter (fun j => decide (lenW w j = m))).map (fun j => listed j w.toNat)
theorem key_fold {w : Int} (hw : 0 ≤ w) : ∀ (R F : List Nat) (s : Int × List (List Int)), KeyAt w F s → KeyAt w (F ++ R) (R.foldl (keyStep w) s)
  | [], F, s, h => by rw [List.append_nil]; exact h
  | i :: R, F, s, h => by
    have : KeyAt w (F ++ [i]) (keyStep w s i) := by
      obtain ⟨m, h1, h2, h3, h4⟩ := h.ex
      have hl : ((listed i w.toNat).length : Int) = (lenW w i : Int) := rfl
      unfold keyStep
      rw [hl, h1]
      by_cases g1 : ((lenW w i : Nat) : Int) < (m : Int)
      · rw [if_pos g1]
        refine ⟨lenW w i, rfl, fun j hj => ?_, .inr ⟨i, by simp, rfl⟩, ?_⟩
        · rcases List.mem_append.1 hj with hj | hj
          · have := h2 j hj; omega
          · rw [List.mem_singleton.1 hj]; exact Nat.le_refl _
        · have : F.filter (fun j => decide (lenW w j = lenW w i)) = [] := by
            rw [List.filter_eq_nil_iff]
            intro j hj hd
            have := h2 j hj
            have := of_decide_eq_true hd
            omega
          rw [List.filter_append, this]
          simp
      · rw [if_neg g1]
        by_cases g2 : ((lenW w i : Nat) : Int) = (m : Int)
        · rw [if_pos g2]
          have e : lenW w i = m := by omega
          refine ⟨m, rfl, fun j hj => ?_, .inr ⟨i, by simp, e⟩, ?_⟩
          · rcases List.mem_append.1 hj with hj | hj
            · exact h2 j hj
            · rw [List.mem_singleton.1 hj]; omega
          · rw [List.filter_append, List.map_append, h4]
            simp [e]
        · rw [if_neg g2]
          refine ⟨m, h1, fun j hj => ?_, h3.imp_right (fun ⟨j, hj, e⟩ => ⟨j, by simp [hj], e⟩), ?_⟩
          · rcases List.mem_append.1 hj with hj | hj
            · exact h2 j hj
            · rw [List.mem_singleton.1 hj]; omega
          · have e : ¬ lenW w i = m := by omega
            rw [List.filter_append, List.map_append, h4]
            simp [e]
    have := key_fold hw R (F ++ [i]) _ this
    rw [List.append_assoc] at this
    exact this
theorem cnt_w {w : Int} (hw : 0 ≤ w ∧ w ≤ 10) {i : Nat} (hi : i < 2 ^ w.toNat) : cntI (i : Int) = (lenW w i : Int) := by
  have := listI_w hw hi
  unfold listI at this
  rw [Int.toNat_natCast] at this
  unfold cntI cnt lenW
  rw [Int.toNat_natCast, this]
theorem lenW_strict {w : Int} {i j : Nat} (hi : i < 2 ^ w.toNat) (hne : j ≠ i) (h : subB j i = true) : lenW w j < lenW w i := by
  obtain ⟨b, h1, h2⟩ := sub_antisymm' hne h
  exact listed_strict h h2 h1 _ (test_pow hi h1)

theorem keyL_eq (w : Int) (rs : List (List Int × Int)) (l : List Int) : keyL w rs l = keyL2 w rs l := by
  unfold keyL keyL2
  by_cases h : labelErr w rs l = 0
  · rw [if_pos h, if_pos h]
    obtain ⟨hg, hl⟩ := label_ok h
    obtain ⟨hw1, hw2, _⟩ := guild_spec hg
    have hw : 0 ≤ w ∧ w ≤ 10 := ⟨by omega, hw2⟩
    have hs := bits_ltw hl
    generalize hsb : bitsL l = s at hs
    unfold listsE keyRef
    congr 1
    have hI : bitsI l = (s : Int) := by unfold bitsI; rw [hsb]
    rw [hI]
    -- the keys in order
    obtain ⟨F, hF⟩ : ∃ F, (List.range (2 ^ w.toNat)).filter (keyG w rs s) = F := ⟨_, rfl⟩
    have memF : ∀ {i}, i ∈ F ↔ i < 2 ^ w.toNat ∧ subB i s = true ∧ clo w rs i = clo w rs s := by
      intro i
      rw [← hF, List.mem_filter, List.mem_range]
      unfold keyG
      rw [Bool.and_eq_true, decide_eq_true_eq]
    have hsF : s ∈ F := memF.2 ⟨hs, le_refl_sub s, rfl⟩
    rw [hF]
    obtain ⟨m, e1, e2, e3, e4⟩ := (key_fold (w := w) (by omega) F [] (w, []) ⟨w.toNat, by simp; omega, by simp, .inl rfl, rfl⟩).ex
    rw [List.nil_append] at e2 e3 e4
    rw [e4]
    have hatt : ∃ j ∈ F, lenW w j = m := by
      rcases e3 with e3 | e3
      · refine ⟨s, hsF, ?_⟩
        have h1 := e2 s hsF
        have h2 : lenW w s ≤ w.toNat := listed_len _ _
        omega
      · exact e3
    -- the least of them
    have hgoods : goodsK w rs (fromI w rs (s : Int)) (s : Int) = F.map Int.ofNat := by
      unfold goodsK
      rw [goods_range hs, ← hF]
      congr 1
      refine List.filter_congr (fun i _ => ?_)
      rw [keyOk_nat]; rfl
    have hM : (minE (goodsK w rs (fromI w rs (s : Int)) (s : Int))).map (fun e => e.2.1) = (F.filter (fun i => !F.any (fun j => decide (i ≠ j) && subB j i))).map Int.ofNat := by
      rw [min_keys, hgoods, min_nat]
    obtain ⟨M, hMd⟩ : ∃ M, F.filter (fun i => !F.any (fun j => decide (i ≠ j) && subB j i)) = M := ⟨_, rfl⟩
    have least : ∀ i ∈ F, lenW w i = m → i ∈ M := by
      intro i hi hm
      rw [← hMd]
      refine List.mem_filter.2 ⟨hi, ?_⟩
      rw [Bool.not_eq_true', ← Bool.not_eq_true, List.any_eq_true]
      rintro ⟨j, hj, hb⟩
      rw [Bool.and_eq_true, decide_eq_true_eq] at hb
      have := lenW_strict (memF.1 hi).1 (Ne.symm hb.1) hb.2
      have := e2 j hj
      omega
    have hMF : ∀ i ∈ M, i ∈ F := fun i hi => by rw [← hMd] at hi; exact (List.mem_filter.1 hi).1
    obtain ⟨j0, hj0, hj0m⟩ := hatt
    have hMne : M.map Int.ofNat ≠ [] := by
      have := least j0 hj0 hj0m
      intro e
      rw [List.map_eq_nil_iff] at e
      rw [e] at this; simp at this
    obtain ⟨hb1, hb2⟩ := best_spec hMne
    obtain ⟨jb, hjb, ejb⟩ := List.mem_map.1 hb1
    have hbm : cntI (bestC (M.map Int.ofNat)) = (m : Int) := by
      have g1 := hb2 _ (List.mem_map_of_mem (f := Int.ofNat) (least j0 hj0 hj0m))
      have g2 : cntI ((j0 : Nat) : Int) = (lenW w j0 : Int) := cnt_w hw (memF.1 hj0).1
      have g3 : cntI ((jb : Nat) : Int) = (lenW w jb : Int) := cnt_w hw (memF.1 (hMF _ hjb)).1
      have g4 := e2 jb (hMF _ hjb)
      have g5 : cntI (bestC (M.map Int.ofNat)) = cntI ((jb : Nat) : Int) := by rw [← ejb]; rfl
      have g6 : cntI (Int.ofNat j0) = cntI ((j0 : Nat) : Int) := rfl
      omega
    unfold fewE
    rw [hM, hMd, hbm]
    rw [show (fun e : Nat × Int × Int => listI e.2.1) = listI ∘ (fun e => e.2.1) from rfl, ← List.map_map]
    rw [show (fun e : Nat × Int × Int => !decide (cntI e.2.1 > (m : Int))) = (fun y => !decide (cntI y > (m : Int))) ∘ (fun e => e.2.1) from rfl, ← List.filter_map, hM, hMd, List.filter_map, List.map_map]
    have e5 : M.filter ((fun y => !decide (cntI y > (m : Int))) ∘ Int.ofNat) = F.filter (fun j => decide (lenW w j = m)) := by
      rw [← hMd, List.filter_filter]
      refine List.filter_congr (fun i hi => ?_)
      have g1 : cntI (Int.ofNat i) = (lenW w i : Int) := cnt_w hw (memF.1 hi).1
      have g2 := e2 i hi
      show ((!decide (cntI (Int.ofNat i) > (m : Int))) && _) = _
      rw [g1]
      by_cases g : lenW w i = m
      · have := least i hi g
        rw [← hMd] at this
        rw [(List.mem_filter.1 this).2]
        rw [decide_eq_false (show ¬ ((lenW w i : Nat) : Int) > (m : Int) by omega), decide_eq_true g]; rfl
      · rw [decide_eq_true (show ((lenW w i : Nat) : Int) > (m : Int) by omega), decide_eq_false g]; rfl
    rw [e5]
    refine List.map_congr_left (fun i hi => ?_)
    exact listI_w hw (memF.1 (List.mem_filter.1 hi).1).1
  · rw [if_neg h, if_neg h]

/-! ### what is taken -/
theorem best_fold {bet : List Int → List Int → Bool} (hO : Order bet) : ∀ (L : List (List Int)) (b : List Int),
    (L.foldl (fun b y => if bet y b then y else b) b = b ∨ L.foldl (fun b y => if bet y b then y else b) b ∈ L) ∧ bet b (L.foldl (fun b y => if bet y b then y else b) b) = false ∧ ∀ y ∈ L, bet y (L.foldl (fun b y => if bet y b then y else b) b) = false
  | [], b => ⟨.inl rfl, hO.irr b, by simp⟩
  | x :: L, b => by
    rw [List.foldl_cons]
    obtain ⟨h1, h2, h3⟩ := best_fold hO L (if bet x b then x else b)
    generalize L.foldl (fun b y => if bet y b then y else b) (if bet x b then x else b) = r at h1 h2 h3 ⊢
    by_cases hx : bet x b = true
    · rw [if_pos hx] at h1 h2
      refine ⟨.inr (h1.elim (fun e => by rw [e]; simp) (fun h => List.mem_cons_of_mem _ h)), ?_, fun y hy => ?_⟩
      · rw [← Bool.not_eq_true]
        intro hb
        rw [hO.tr _ _ _ hx hb] at h2; cases h2
      · rcases List.mem_cons.1 hy with rfl | hy
        · exact h2
        · exact h3 y hy
    · rw [if_neg hx] at h1 h2
      refine ⟨h1.imp_right (fun h => List.mem_cons_of_mem _ h), h2, fun y hy => ?_⟩
      rcases List.mem_cons.1 hy with rfl | hy
      · rw [← Bool.not_eq_true]
        intro hb
        rcases hO.tot b y with e | e | e
        · subst e; rw [hb] at h2; cases h2
        · rw [hO.tr _ _ _ e hb] at h2; cases h2
        · exact hx e
      · exact h3 y hy
end Go.Abs.Label
end

section
/- Plain laws of labels: idle rules, two ways; steps lead to what follows. -/
open Go.Proofs
set_option maxRecDepth 100000
set_option linter.unusedVariables false
namespace Go.Abs.Label

/-! ### fewer rules -/
/-! ### steps -/
/-! the steps in order -/
end Go.Abs.Label
end

section
/- Plain laws of labels: the steps that are returned lead to what follows, and none can be left out. -/
open Go.Proofs
set_option maxRecDepth 100000
set_option linter.unusedVariables false
namespace Go.Abs.Label

/-- Whether a word follows, or a label is banned. -/
def isS (w : Int) (rs : List (List Int × Int)) (b : Nat) (word : Int) : Bool := if 0 ≤ word then (clo w rs b).testBit word.toNat else banned w rs b
theorem label_err {w : Int} {rs : List (List Int × Int)} {l : List Int} (hg : Gd w rs) (hl : isList l w = true) : labelErr w rs l = 0 := by
  unfold labelErr
  rw [if_neg (by simpa using hg), if_pos hl]
end Go.Abs.Label
end

section
/- The label's statements: reasons and keys; what is taken, how many are closed, idle rules; steps; closed labels. -/
open Go.Proofs
set_option maxRecDepth 100000
set_option linter.unusedVariables false
namespace Go.Abs.Label

theorem p22 {a b : List (List Int)} (ha : a.length ≤ 1024 ∧ ∀ y ∈ a, y.length ≤ 10) (hb : b.length ≤ 1024 ∧ ∀ y ∈ b, y.length ≤ 10) : v22.p (a, b, ()) :=
  ⟨(show a.length ≤ 2000 by omega), (show b.length ≤ 2000 by omega), fun y hy => Nat.le_trans (ha.2 y hy) (by decide), fun y hy => Nat.le_trans (hb.2 y hy) (by decide)⟩
theorem p17 {a b : List Int} (ha : a.length ≤ 1000) (hb : b.length ≤ 1000) : v17.p (a, b, ()) :=
  ⟨(show a.length ≤ 1152921504606846976 by omega), (show b.length ≤ 1152921504606846976 by omega)⟩

theorem bestT_len {n : Nat} {L : List (List Int)} (h : ∀ y ∈ L, y.length ≤ n) : (bestT L).length ≤ n := by
  cases L with
  | nil => exact Nat.zero_le _
  | cons x L =>
    obtain ⟨c1, _, _⟩ := best_fold (bet := betT) order_betL L x
    show (L.foldl (fun b y => if betT y b then y else b) x).length ≤ n
    rcases c1 with e | e
    · rw [e]; exact h x (List.mem_cons_self ..)
    · exact h _ (List.mem_cons_of_mem _ e)
theorem take_len (w : Int) (rs : List (List Int × Int)) (l : List Int) : (takeL w rs l).length ≤ 10 := by
  unfold takeL
  split
  · refine bestT_len (fun y hy => ?_)
    obtain ⟨i, _, rfl⟩ := List.mem_map.1 hy
    exact listed_len _ 10
  · exact Nat.zero_le _

theorem fine_gd {w : Int} {rs : List (List Int × Int)} (h : fine w rs = true) : Gd w rs := by
  unfold fine geIs at h
  rw [Bool.and_eq_true] at h
  exact of_decide_eq_true h.2
theorem listedI_list (bits : Int) {w : Int} (h : 0 ≤ w) : isList (listedI bits w) w = true := isList_listed _ h
theorem land_w {a b : Nat} (ha : a < 1024) (hb : b < 1024) : bitsA .and .i64 (a : Int) (b : Int) = ((a &&& b : Nat) : Int) := land_nat a b (by omega) (by omega)
end Go.Abs.Label
end

section
/- The label's other statements: errors of steps, lists in order, words that are turned; steps. -/
open Go.Proofs
set_option maxRecDepth 100000
set_option linter.unusedVariables false
namespace Go.Abs.Label

theorem before_drop : ∀ (i : Nat) (a b : List Int), i ≤ a.length → i ≤ b.length → a.take i = b.take i → before a b = before (a.drop i) (b.drop i)
  | 0, a, b, _, _, _ => rfl
  | i + 1, [], b, h, _, _ => by simp at h
  | i + 1, x :: a, [], _, h, _ => by simp at h
  | i + 1, x :: a, y :: b, h1, h2, h3 => by
    simp only [List.take_succ_cons, List.cons.injEq] at h3
    simp only [List.length_cons] at h1 h2
    simp only [List.drop_succ_cons, before]
    rw [if_pos h3.1]
    exact before_drop i a b (by omega) (by omega) h3.2
theorem k227 (hG : Good Try.prog (envOf [])) : v227.Kept Try.prog 27 := by
  rintro ⟨a, b, ⟨⟩⟩ hpre k hk
  change List Int at a b
  refine aspec hmix hG Try.func27 txp27 (Eq.mpr (eq227 a b k) ?_)
  replace hk : k (rBo (before a b)) [] := hk
  unfold vc227
  have ha : a.length ≤ 1000 := hpre.1
  have hb : b.length ≤ 1000 := hpre.2
  refine Loop.upto (fun i => (a, b, (i : Int), ())) (fun i => i ≤ b.length ∧ a.take i = b.take i) a.length rfl ⟨Nat.zero_le _, rfl⟩ ?_ ?_
  · intro i K hi hp hK
    obtain ⟨hp1, hp2⟩ := hp
    dsimp only
    rw [br_true]
    refine ⟨fun _ => ?_, fun h => absurd (show (i : Int) < (a.length : Int) by omega) h⟩
    rw [br_decide]
    have hbe := before_drop i a b (by omega) hp1 hp2
    refine ⟨fun h => ?_, fun h => ?_⟩
    · have hib : i < b.length := by omega
      have ea : a.drop i = a[i] :: a.drop (i + 1) := List.drop_eq_getElem_cons hi
      have eb : b.drop i = b[i] :: b.drop (i + 1) := List.drop_eq_getElem_cons hib
      refine ⟨⟨by omega, by simpa using hi⟩, ⟨by omega, by simpa using hib⟩, ?_⟩
      simp only [Int.toNat_natCast]
      rw [br_bne]
      refine ⟨fun hne => ⟨⟨by omega, hi⟩, ⟨by omega, hib⟩, ?_⟩, fun he => ⟨fits64 (by omega) (by omega), ?_⟩⟩
      · rw [hbe, ea, eb, before, if_neg hne] at hk
        exact hk
      · refine hK ⟨by omega, ?_⟩
        rw [List.take_succ_eq_append_getElem hi, List.take_succ_eq_append_getElem hib, hp2, he]
    · have hib : b.length = i := by omega
      have eb : b.drop i = [] := List.drop_eq_nil_of_le (by omega)
      have ea : a.drop i = a[i] :: a.drop (i + 1) := List.drop_eq_getElem_cons hi
      rw [hbe, ea, eb, before] at hk
      rw [decide_eq_false (by omega)]
      exact hk
  · intro K hp
    obtain ⟨hp1, hp2⟩ := hp
    dsimp only
    rw [br_true]
    refine ⟨fun h => absurd h (by omega), fun _ => ?_⟩
    have hbe := before_drop a.length a b (Nat.le_refl _) hp1 hp2
    rw [hbe, List.drop_length] at hk
    cases hd : b.drop a.length with
    | nil =>
      have := congrArg List.length hd
      rw [List.length_drop] at this
      simp only [List.length_nil] at this
      rw [hd, before] at hk
      rw [decide_eq_false (by omega)]; exact hk
    | cons y m =>
      have := congrArg List.length hd
      rw [List.length_drop] at this
      simp only [List.length_cons] at this
      rw [hd, before] at hk
      rw [decide_eq_true (by omega)]; exact hk

theorem turn_lt {w d bits : Nat} (hw : 0 < w) : ∀ (l : List Nat) (o : Nat), o < 2 ^ w → l.foldl (turnS w d bits) o < 2 ^ w
  | [], o, h => h
  | i :: l, o, h => by
    refine turn_lt hw l _ ?_
    unfold turnS
    split
    · exact Nat.or_lt_two_pow h (Nat.pow_lt_pow_right (by omega) (Nat.mod_lt _ hw))
    · exact h
theorem pow10n {w : Nat} (h : w ≤ 10) : 2 ^ w ≤ 1024 := Nat.pow_le_pow_right (n := 2) (j := 10) (by omega) (by omega)
theorem bneS (a : Int) : ((a != a) == false) = true := by simp
end Go.Abs.Label
end

section
/- The label's other statements: one more word, one more rule; what is taken; idle rules. -/
open Go.Proofs
set_option maxRecDepth 100000
set_option linter.unusedVariables false
namespace Go.Abs.Label

theorem bits_listed_mod (b n : Nat) : bitsL (listed b n) = b % 2 ^ n := by
  have e : listed b n = listed (b % 2 ^ n) n := by
    unfold listed
    congr 1
    refine List.filter_congr (fun i hi => ?_)
    have := List.mem_range.1 hi
    rw [Nat.testBit_mod_two_pow, decide_eq_true this, Bool.true_and]
  rw [e, bits_listed (Nat.mod_lt _ (Nat.two_pow_pos _))]
theorem bitsI_listedN (b n : Nat) : bitsI (listedI (b : Int) (n : Int)) = ((b % 2 ^ n : Nat) : Int) := by
  unfold bitsI listedI
  rw [Int.toNat_natCast, Int.toNat_natCast, bits_listed_mod]
theorem bitsI_listedL {b n : Nat} (h : b < 2 ^ n) : bitsI (listedI (b : Int) (n : Int)) = (b : Int) := by
  rw [bitsI_listedN, Nat.mod_eq_of_lt h]
theorem and_of_sub {a b : Nat} (h : subB a b = true) : a &&& b = a := by
  refine sub_antisymm (sub_iff.2 fun i hi => ?_) (sub_iff.2 fun i hi => ?_)
  · rw [Nat.testBit_and, Bool.and_eq_true] at hi; exact hi.1
  · rw [Nat.testBit_and, hi, sub_iff.1 h i hi]; rfl
theorem land_sub {a b : Nat} (ha : a < 1024) (hb : b < 1024) (h : subB a b = true) : bitsA .and .i64 (a : Int) (b : Int) = (a : Int) := by
  rw [land_w ha hb, and_of_sub h]
theorem listed_lt {p q W : Nat} (hp : p < 2 ^ W) (hs : subB q p = true) (hne : q ≠ p) : (listed q W).length < (listed p W).length := lenW_strict (w := (W : Int)) (i := p) (j := q) (by simpa using hp) hne hs
end Go.Abs.Label
end

section
/- The label's other statements: idle rules; the examples. -/
open Go.Proofs
set_option maxRecDepth 100000
set_option linter.unusedVariables false
namespace Go.Abs.Label

end Go.Abs.Label
end

section
/- The label's other statements: words by other numbers, rules in another order. -/
open Go.Proofs
set_option maxRecDepth 100000
set_option linter.unusedVariables false
namespace Go.Abs.Label

theorem subset_len : ∀ (A B : List Nat), A.Nodup → (∀ x ∈ A, x ∈ B) → A.length ≤ B.length
  | [], B, _, _ => Nat.zero_le _
  | a :: A, B, hn, h => by
    obtain ⟨h1, h2⟩ := List.nodup_cons.1 hn
    have hm := h a (List.mem_cons_self ..)
    have := subset_len A (B.erase a) h2 (fun x hx => (List.mem_erase_of_ne (fun e => h1 (by rw [← e]; exact hx))).2 (h x (List.mem_cons_of_mem _ hx)))
    rw [List.length_erase_of_mem hm] at this
    have := List.length_pos_of_mem hm
    simp only [List.length_cons]; omega
theorem map_nodup {f : Nat → Nat} {A : List Nat} (hA : A.Nodup) (h : ∀ x ∈ A, ∀ y ∈ A, f x = f y → x = y) : (A.map f).Nodup := by
  unfold List.Nodup
  rw [List.pairwise_map]
  exact List.Pairwise.imp_of_mem (fun hx hy hne e => hne (h _ hx _ hy e)) hA
theorem range_nodup (n : Nat) (p : Nat → Bool) : ((List.range n).filter p).Nodup := List.Nodup.sublist List.filter_sublist List.nodup_range

/-- Where a number comes, so much later, round. -/
theorem rot {W d i : Nat} (hi : i < W) (hd : d < W) : (i + d) % W = if i + d < W then i + d else i + d - W := by
  split
  · exact Nat.mod_eq_of_lt (by assumption)
  · rw [Nat.mod_eq_sub_mod (by omega), Nat.mod_eq_of_lt (by omega)]
theorem rot_inj {W d i j : Nat} (hi : i < W) (hj : j < W) (hd : d < W) (h : (i + d) % W = (j + d) % W) : i = j := by
  rw [rot hi hd, rot hj hd] at h
  split at h <;> split at h <;> omega
theorem rot_sur {W d j : Nat} (hj : j < W) (hd : d < W) : ∃ i, i < W ∧ (i + d) % W = j := by
  by_cases h : d ≤ j
  · exact ⟨j - d, by omega, by rw [rot (by omega) hd, if_pos (by omega)]; omega⟩
  · exact ⟨j + W - d, by omega, by rw [rot (by omega) hd, if_neg (by omega)]; omega⟩

theorem turn_gen {W d b : Nat} (j : Nat) : ∀ (l : List Nat) (o : Nat), (l.foldl (turnS W d b) o).testBit j = true ↔ o.testBit j = true ∨ ∃ i ∈ l, b.testBit i = true ∧ (i + d) % W = j
  | [], o => by simp
  | x :: l, o => by
    rw [List.foldl_cons, turn_gen j l]
    unfold turnS
    constructor
    · rintro (h | ⟨i, h1, h2⟩)
      · split at h
        · rename_i hx
          rw [Nat.testBit_or, Bool.or_eq_true, Nat.testBit_two_pow, decide_eq_true_eq] at h
          rcases h with h | h
          · exact .inl h
          · exact .inr ⟨x, List.mem_cons_self .., hx, h⟩
        · exact .inl h
      · exact .inr ⟨i, List.mem_cons_of_mem _ h1, h2⟩
    · rintro (h | ⟨i, h1, h2, h3⟩)
      · left; split
        · rw [Nat.testBit_or, h]; rfl
        · exact h
      · rcases List.mem_cons.1 h1 with rfl | h1
        · left
          rw [if_pos h2, Nat.testBit_or, Nat.testBit_two_pow, decide_eq_true h3, Bool.or_true]
        · exact .inr ⟨i, h1, h2, h3⟩
theorem turn_test {W d b : Nat} (j : Nat) : (turnN W b d).testBit j = true ↔ ∃ i, i < W ∧ b.testBit i = true ∧ (i + d) % W = j := by
  unfold turnN
  rw [turn_gen]
  simp only [Nat.zero_testBit, Bool.false_eq_true, false_or, List.mem_range]
theorem turn_at {W d b i : Nat} (hi : i < W) (hd : d < W) : (turnN W b d).testBit ((i + d) % W) = b.testBit i := by
  rw [Bool.eq_iff_iff, turn_test]
  constructor
  · rintro ⟨k, h1, h2, h3⟩
    rw [← rot_inj h1 hi hd h3]; exact h2
  · exact fun h => ⟨i, hi, h, rfl⟩
theorem turn_lt2 {W d : Nat} (b : Nat) (hW : 0 < W) : turnN W b d < 2 ^ W := turn_lt hW _ _ (Nat.two_pow_pos _)
theorem turn_sub {W d a b : Nat} (hd : d < W) (ha : a < 2 ^ W) : subB (turnN W a d) (turnN W b d) = true ↔ subB a b = true := by
  rw [sub_iff, sub_iff]
  constructor
  · intro h i hi
    have hW := test_pow ha hi
    have := h ((i + d) % W) (by rw [turn_at hW hd]; exact hi)
    rwa [turn_at hW hd] at this
  · intro h j hj
    obtain ⟨i, h1, h2, h3⟩ := (turn_test j).1 hj
    exact (turn_test j).2 ⟨i, h1, h i h2, h3⟩
/-- The words that come there. -/
def unturn (W d e : Nat) : Nat := turnN W e ((W - d) % W)
theorem back_rot {W d i : Nat} (hi : i < W) (hd : d < W) : ((i + d) % W + (W - d) % W) % W = i := by
  have h1 : (W - d) % W < W := Nat.mod_lt _ (by omega)
  have h2 : (i + d) % W < W := Nat.mod_lt _ (by omega)
  rw [rot h2 h1, rot hi hd]
  by_cases h0 : d = 0
  · subst h0
    rw [Nat.sub_zero, Nat.mod_self]
    simp [hi]
  · rw [Nat.mod_eq_of_lt (show W - d < W by omega)]
    split <;> split <;> omega
theorem back_at {W d e i : Nat} (hi : i < W) (hd : d < W) : (unturn W d e).testBit i = e.testBit ((i + d) % W) := by
  have h2 : (i + d) % W < W := Nat.mod_lt _ (by omega)
  have := turn_at (b := e) h2 (Nat.mod_lt (W - d) (show 0 < W by omega))
  rw [back_rot hi hd] at this
  exact this
theorem turn_back {W d e : Nat} (hd : d < W) (he : e < 2 ^ W) : turnN W (unturn W d e) d = e := by
  apply Nat.eq_of_testBit_eq
  intro j
  rw [Bool.eq_iff_iff, turn_test]
  constructor
  · rintro ⟨i, h1, h2, rfl⟩
    rwa [back_at h1 hd] at h2
  · intro h
    have hj := test_pow he h
    obtain ⟨i, h1, h2⟩ := rot_sur hj hd
    exact ⟨i, h1, by rw [back_at h1 hd, h2]; exact h, h2⟩
theorem turn_inj {W d a b : Nat} (hd : d < W) (ha : a < 2 ^ W) (hb : b < 2 ^ W) (h : turnN W a d = turnN W b d) : a = b :=
  sub_antisymm ((turn_sub hd ha).1 (by rw [h]; exact le_refl_sub _)) ((turn_sub hd hb).1 (by rw [h]; exact le_refl_sub _))

/-! ### a guild that is turned -/
def turnR (W d : Nat) (r : List Int × Int) : List Int × Int := (listed (turnN W (bitsL r.1) d) W, if 0 ≤ r.2 then (((r.2.toNat + d) % W : Nat) : Int) else r.2)
/-- The rules of a turned guild. -/
structure Turned (W d : Nat) (rs R : List (List Int × Int)) : Prop where
  dl : d < W
  gd : Gd (W : Int) rs
  gd2 : Gd (W : Int) R
  mem : ∀ y, y ∈ R ↔ ∃ r ∈ rs, y = turnR W d r
section
variable {W d : Nat} {rs R : List (List Int × Int)} (T : Turned W d rs R)
include T
theorem Turned.wp : 0 < W := Nat.lt_of_le_of_lt (Nat.zero_le _) T.dl
theorem Turned.bits (r : List Int × Int) : bitsL (turnR W d r).1 = turnN W (bitsL r.1) d := bits_listed (turn_lt2 _ T.wp)
theorem Turned.ifs {r : List Int × Int} (hr : r ∈ rs) : bitsL r.1 < 2 ^ W := by
  have := bits_ltw ((guild_spec T.gd).2.2.2 r hr).2.1
  simpa using this
theorem Turned.clo {b : Nat} (hb : b < 2 ^ W) : clo (W : Int) R (turnN W b d) = turnN W (Label.clo (W : Int) rs b) d := by
  have hc : Label.clo (W : Int) rs b < 2 ^ W := by simpa using clo_ltw T.gd (b := b) (by simpa using hb)
  have hcl := clo_closed (w := (W : Int)) (by omega) (gd_w T.gd) b
  refine clo_unique ((turn_sub T.dl hb).2 (clo_sub _ _ _)) ?_ ?_ (by omega) (gd_w T.gd2)
  · intro y hy h0 hs
    obtain ⟨r, hr, rfl⟩ := (T.mem y).1 hy
    rw [T.bits, turn_sub T.dl (T.ifs hr)] at hs
    by_cases h2 : 0 ≤ r.2
    · have h3 := hcl r hr h2 hs
      have hw : r.2.toNat < W := by have := gd_w T.gd r hr; omega
      have e : (turnR W d r).2 = (((r.2.toNat + d) % W : Nat) : Int) := by unfold turnR; rw [if_pos h2]
      rw [e, Int.toNat_natCast, turn_at hw T.dl]
      exact h3
    · have e : (turnR W d r).2 = r.2 := by unfold turnR; rw [if_neg h2]
      rw [e] at h0; exact absurd h0 h2
  · intro e he hs
    have hm : e % 2 ^ W < 2 ^ W := Nat.mod_lt _ (Nat.two_pow_pos _)
    have hme : ∀ i, i < W → (e % 2 ^ W).testBit i = e.testBit i := fun i hi => by rw [Nat.testBit_mod_two_pow, decide_eq_true hi, Bool.true_and]
    have hmsub : subB (e % 2 ^ W) e = true := sub_iff.2 fun i hi => by rw [Nat.testBit_mod_two_pow, Bool.and_eq_true] at hi; exact hi.2
    have htb := turn_back T.dl hm
    have hcl2 : ClosedR rs (unturn W d (e % 2 ^ W)) := by
      intro r hr h2 hs2
      have hw : r.2.toNat < W := by have := gd_w T.gd r hr; omega
      have h3 := (turn_sub T.dl (T.ifs hr)).2 hs2
      rw [htb] at h3
      have e2 : (turnR W d r).2 = (((r.2.toNat + d) % W : Nat) : Int) := by unfold turnR; rw [if_pos h2]
      have h4 := he _ ((T.mem _).2 ⟨r, hr, rfl⟩) (by rw [e2]; omega) (by rw [T.bits]; exact sub_trans h3 hmsub)
      rw [e2, Int.toNat_natCast] at h4
      rw [back_at hw T.dl, hme _ (Nat.mod_lt _ T.wp)]
      exact h4
    have hb2 : subB b (unturn W d (e % 2 ^ W)) = true := by
      rw [← turn_sub T.dl hb, htb]
      refine sub_iff.2 fun i hi => ?_
      rw [hme i (test_pow (turn_lt2 _ T.wp) hi)]
      exact sub_iff.1 hs i hi
    have := (turn_sub (W := W) (d := d) T.dl hc).2 (clo_least hcl2 hb2)
    rw [htb] at this
    exact sub_trans this hmsub
theorem Turned.ban {b : Nat} (hb : b < 2 ^ W) : banned (W : Int) R (turnN W b d) = banned (W : Int) rs b := by
  rw [Bool.eq_iff_iff, ban_iff, ban_iff, T.clo hb]
  constructor
  · rintro ⟨y, hy, h1, h2⟩
    obtain ⟨r, hr, rfl⟩ := (T.mem y).1 hy
    rw [T.bits, turn_sub T.dl (T.ifs hr)] at h2
    refine ⟨r, hr, ?_, h2⟩
    unfold turnR at h1
    dsimp only at h1
    split at h1
    · omega
    · exact h1
  · rintro ⟨r, hr, h1, h2⟩
    refine ⟨_, (T.mem _).2 ⟨r, hr, rfl⟩, ?_, by rw [T.bits, turn_sub T.dl (T.ifs hr)]; exact h2⟩
    unfold turnR
    dsimp only
    rw [if_neg (by omega)]; exact h1
theorem Turned.cls {i : Nat} (hi : i < 2 ^ W) : clsI (W : Int) R ((turnN W i d : Nat) : Int) = clsI (W : Int) rs (i : Int) := by
  unfold clsI
  have hc : Label.clo (W : Int) rs i < 2 ^ W := by simpa using clo_ltw T.gd (b := i) (by simpa using hi)
  rw [fromI_nat, fromI_nat, banI_nat, banI_nat, T.clo hi, T.ban hi]
  congr 1
  refine decide_eq_decide.2 ⟨fun h => ?_, fun h => ?_⟩
  · have := turn_inj T.dl hc hi (by omega)
    omega
  · have : Label.clo (W : Int) rs i = i := by omega
    rw [this]
theorem Turned.closN : Label.closN (W : Int) rs = Label.closN (W : Int) R := by
  have a1 : ((List.range (2 ^ W)).filter (fun i : Nat => clsI (W : Int) rs (i : Int))).length ≤ ((List.range (2 ^ W)).filter (fun i : Nat => clsI (W : Int) R (i : Int))).length := by
    have := subset_len (((List.range (2 ^ W)).filter (fun i : Nat => clsI (W : Int) rs (i : Int))).map (fun i => turnN W i d)) ((List.range (2 ^ W)).filter (fun i : Nat => clsI (W : Int) R (i : Int)))
      (map_nodup (range_nodup _ _) (fun x hx y hy e => turn_inj T.dl (List.mem_range.1 (List.mem_filter.1 hx).1) (List.mem_range.1 (List.mem_filter.1 hy).1) e))
      (fun y hy => by
        obtain ⟨x, hx, rfl⟩ := List.mem_map.1 hy
        obtain ⟨x1, x2⟩ := List.mem_filter.1 hx
        exact List.mem_filter.2 ⟨List.mem_range.2 (turn_lt2 _ T.wp), by rw [T.cls (List.mem_range.1 x1)]; exact x2⟩)
    rwa [List.length_map] at this
  have a2 : ((List.range (2 ^ W)).filter (fun i : Nat => clsI (W : Int) R (i : Int))).length ≤ ((List.range (2 ^ W)).filter (fun i : Nat => clsI (W : Int) rs (i : Int))).length := by
    have hbl : ∀ e, unturn W d e < 2 ^ W := fun e => turn_lt2 _ T.wp
    have := subset_len (((List.range (2 ^ W)).filter (fun i : Nat => clsI (W : Int) R (i : Int))).map (fun i => unturn W d i)) ((List.range (2 ^ W)).filter (fun i : Nat => clsI (W : Int) rs (i : Int)))
      (map_nodup (range_nodup _ _) (fun x hx y hy e => by
        rw [← turn_back T.dl (List.mem_range.1 (List.mem_filter.1 hx).1), e, turn_back T.dl (List.mem_range.1 (List.mem_filter.1 hy).1)]))
      (fun y hy => by
        obtain ⟨x, hx, rfl⟩ := List.mem_map.1 hy
        obtain ⟨x1, x2⟩ := List.mem_filter.1 hx
        refine List.mem_filter.2 ⟨List.mem_range.2 (hbl _), ?_⟩
        have := T.cls (hbl x)
        rw [turn_back T.dl (List.mem_range.1 x1)] at this
        rw [← this]; exact x2)
    rwa [List.length_map] at this
  unfold Label.closN
  rw [Int.toNat_natCast]
  omega
end
end Go.Abs.Label
end

section
/- The label's other statements: reasons. -/
open Go.Proofs
set_option maxRecDepth 100000
set_option linter.unusedVariables false
namespace Go.Abs.Label

theorem nodup_listed {W : Nat} {P : List Nat} (hn : P.Nodup) (h : ∀ p ∈ P, p < 2 ^ W) : (P.map (fun p => listed p W)).Nodup := by
  unfold List.Nodup
  rw [List.pairwise_map]
  exact List.Pairwise.imp_of_mem (fun hx hy hne e => hne (by rw [← bits_listed (h _ hx), ← bits_listed (h _ hy), e])) hn
theorem sortLL_before {L : List (List Int)} (hn : L.Nodup) {i j : Nat} (hij : i < j) (hj : j < (sortLL L).length) : before ((sortLL L)[i]'(by omega)) ((sortLL L)[j]) = true := by
  have h1 := List.pairwise_iff_getElem.1 (sortLL_pair L) i j (by omega) hj hij
  have h2 : (sortLL L).Nodup := (sortLL_perm L).nodup_iff.2 hn
  have h3 := List.pairwise_iff_getElem.1 h2 i j (by omega) hj hij
  generalize (sortLL L)[i]'(by omega) = a at h1 h3 ⊢
  generalize (sortLL L)[j] = b at h1 h3 ⊢
  unfold cmpL at h1
  rw [if_neg (fun e => h3 e.symm)] at h1
  rcases before_total a b with e | e | e
  · exact absurd e h3
  · exact e
  · rw [if_pos e] at h1
    exact absurd (by decide) h1
theorem getD_at2 {r : List (List Int)} {i : Nat} (h : i < r.length) : r.getD i [] = r[i] := by
  rw [List.getD_eq_getElem?_getD, List.getElem?_eq_getElem h]; rfl
end Go.Abs.Label
end

section
/- The label's other statements: keys. -/
open Go.Proofs
set_option maxRecDepth 100000
set_option linter.unusedVariables false
namespace Go.Abs.Label

/-- What is said of the shortest keys. -/
structure KeySpec (W : Nat) (rs : List (List Int × Int)) (A : Nat) (K : List (List Int)) (m : Nat) : Prop where
  at_ : ∀ i (h : i < K.length), isList K[i] (W : Int) = true ∧ bitsL K[i] < 2 ^ W ∧ subB (bitsL K[i]) A = true ∧ clo W rs (bitsL K[i]) = clo W rs A ∧ (K[i]).length = m
  min : ∀ q, subB q A = true → clo W rs q = clo W rs A → m ≤ (listed q W).length
  all : ∀ q, subB q A = true → clo W rs q = clo W rs A → (listed q W).length = m → ∃ i, ∃ h : i < K.length, K[i] = listed q W
  before : ∀ i j (hi : i < K.length) (hj : j < K.length), i < j → before K[i] K[j] = true
  pos : 0 < K.length
  len : K.length ≤ 2 ^ W
theorem key_spec {W : Nat} {rs : List (List Int × Int)} {l : List Int} (hg : Gd (W : Int) rs) (hl : isList l (W : Int) = true) : ∃ m, KeySpec W rs (bitsL l) (keyL W rs l) m := by
  have hA : bitsL l < 2 ^ W := by simpa using bits_ltw hl
  have h0 := label_err hg hl
  have e : keyL W rs l = keyRef W rs (bitsL l) := by rw [keyL_eq]; unfold keyL2; rw [if_pos h0]
  obtain ⟨F, hF⟩ : ∃ F, (List.range (2 ^ W)).filter (keyG (W : Int) rs (bitsL l)) = F := ⟨_, rfl⟩
  have memF : ∀ {i}, i ∈ F ↔ i < 2 ^ W ∧ subB i (bitsL l) = true ∧ clo W rs i = clo W rs (bitsL l) := by
    intro i
    rw [← hF, List.mem_filter, List.mem_range]
    unfold keyG
    rw [Bool.and_eq_true, decide_eq_true_eq]
  have hsF : bitsL l ∈ F := memF.2 ⟨hA, le_refl_sub _, rfl⟩
  have hnd : F.Nodup := by rw [← hF]; exact range_nodup _ _
  have hlen : F.length ≤ 2 ^ W := by
    have := List.length_filter_le (keyG (W : Int) rs (bitsL l)) (List.range (2 ^ W))
    rw [List.length_range, hF] at this
    exact this
  have inF : ∀ q, subB q (bitsL l) = true → clo W rs q = clo W rs (bitsL l) → q ∈ F := fun q h1 h2 => memF.2 ⟨lt_of_tests (fun i hi => test_pow hA (sub_iff.1 h1 i hi)), h1, h2⟩
  obtain ⟨m, e1, e2, e3, e4⟩ := (key_fold (w := (W : Int)) (by omega) F [] ((W : Int), []) ⟨W, by simp, by simp, .inl (by simp), rfl⟩).ex
  rw [List.nil_append] at e2 e3 e4
  simp only [Int.toNat_natCast] at e3 e4
  have lw : ∀ q, lenW (W : Int) q = (listed q W).length := fun q => by unfold lenW; rw [Int.toNat_natCast]
  have hatt : ∃ j ∈ F, lenW (W : Int) j = m := by
    rcases e3 with e3 | e3
    · refine ⟨bitsL l, hsF, ?_⟩
      have h1 := e2 _ hsF
      have h2 : (listed (bitsL l) W).length ≤ W := listed_len _ _
      rw [lw] at h1 ⊢
      omega
    · exact e3
  have eK : keyL W rs l = sortLL ((F.filter (fun j => decide (lenW (W : Int) j = m))).map (fun j => listed j W)) := by
    rw [e]; unfold keyRef
    rw [Int.toNat_natCast, hF, e4]
  obtain ⟨P, hP⟩ : ∃ P, F.filter (fun j => decide (lenW (W : Int) j = m)) = P := ⟨_, rfl⟩
  rw [hP] at eK
  have memP : ∀ {q}, q ∈ P ↔ q ∈ F ∧ lenW (W : Int) q = m := fun {q} => by rw [← hP, List.mem_filter, decide_eq_true_eq]
  have hPn : P.Nodup := by rw [← hP]; exact List.Nodup.sublist List.filter_sublist hnd
  have hPl : ∀ p ∈ P, p < 2 ^ W := fun p hp => (memF.1 (memP.1 hp).1).1
  have hPlen : P.length ≤ 2 ^ W := by rw [← hP]; exact Nat.le_trans (List.length_filter_le _ _) hlen
  have hnd2 := nodup_listed hPn hPl
  refine ⟨m, ?_⟩
  rw [eK]
  have hget : ∀ i (h : i < (sortLL (P.map (fun i => listed i W))).length), ∃ p ∈ P, (sortLL (P.map (fun i => listed i W)))[i] = listed p W := fun i h => by
    obtain ⟨p, h1, h2⟩ := List.mem_map.1 ((sortLL_perm _).subset (List.getElem_mem h))
    exact ⟨p, h1, h2.symm⟩
  refine ⟨fun i h => ?_, fun q h1 h2 => ?_, fun q h1 h2 h3 => ?_, fun i j hi hj hij => sortLL_before hnd2 hij hj, ?_, ?_⟩
  · obtain ⟨p, h1, h2⟩ := hget i h
    obtain ⟨h3, h4⟩ := memP.1 h1
    obtain ⟨a, b, c⟩ := memF.1 h3
    rw [h2, bits_listed a]
    exact ⟨by simpa using isList_listed p (w := (W : Int)) (by omega), a, b, c, by rw [← lw]; exact h4⟩
  · rw [← lw]; exact e2 q (inF q h1 h2)
  · have : listed q W ∈ sortLL (P.map (fun i => listed i W)) := (sortLL_perm _).mem_iff.2 (List.mem_map.2 ⟨q, memP.2 ⟨inF q h1 h2, by rw [lw]; exact h3⟩, rfl⟩)
    obtain ⟨i, h, e⟩ := List.mem_iff_getElem.1 this
    exact ⟨i, h, e⟩
  · rw [(sortLL_perm _).length_eq, List.length_map]
    obtain ⟨j, h1, h2⟩ := hatt
    exact List.length_pos_of_mem (memP.2 ⟨h1, h2⟩)
  · rw [(sortLL_perm _).length_eq, List.length_map]; exact hPlen
end Go.Abs.Label
end

section
/- The label's other statements: keys. -/
open Go.Proofs
set_option maxRecDepth 100000
set_option linter.unusedVariables false
namespace Go.Abs.Label

/-- What holds all along the statement about keys. -/
structure KeysAll (W : Nat) (rs : List (List Int × Int)) (A O m : Nat) (K : List (List Int)) (own : List Int) : Prop where
  gd : Gd (W : Int) rs
  la : A < 2 ^ W
  spec : KeySpec W rs A K m
  os : subB O A = true
  own : own = listed O W

theorem keys_inner {W : Nat} {rs : List (List Int × Int)} {A O m : Nat} {K : List (List Int)} {own : List Int} {k : AVal → List Cont → Prop} (h : KeysAll W rs A O m K own) (b : Bool) {i : Nat} (hi : i < K.length) {K6 : (Int × (Int × (Int × (Bool × (Int × (Int × ((List ((List Int) × Int)) × ((List (List Int)) × ((List Int) × Unit))))))))) → Prop}
    (hK : K6 (((clo W rs A : Nat) : Int), (A : Int), ((clo W rs O : Nat) : Int), b, (i : Int) + 1, (W : Int), rs, K, own, ())) :
    Go.Abs.Loop (σ := (Int × (Int × (Int × (Bool × (Int × (Int × (Int × ((List ((List Int) × Int)) × ((List (List Int)) × ((List Int) × Unit))))))))))) (fun K17 x17 => (((0 : Int) ≤ x17.2.2.2.2.1) ∧ ((Int.toNat x17.2.2.2.2.1) < (List.length x17.2.2.2.2.2.2.2.2.1))) ∧ ∃ h19 : ((Int.toNat x17.2.2.2.2.1) < (List.length x17.2.2.2.2.2.2.2.2.1)), br ((decide (x17.2.2.2.2.2.1 < (((List.length (x17.2.2.2.2.2.2.2.2.1[(Int.toNat x17.2.2.2.2.1)]'h19)) : Nat) : Int)))) ((((0 : Int) ≤ x17.2.2.2.2.1) ∧ ((Int.toNat x17.2.2.2.2.1) < (List.length x17.2.2.2.2.2.2.2.2.1))) ∧ ∃ h20 : ((Int.toNat x17.2.2.2.2.1) < (List.length x17.2.2.2.2.2.2.2.2.1)), (Go.Abs.Label.v47.p ((x17.2.2.2.2.2.2.2.2.1[(Int.toNat x17.2.2.2.2.1)]'h20), ())) ∧ (((0 : Int) ≤ x17.2.2.2.2.1) ∧ ((Int.toNat x17.2.2.2.2.1) < (List.length x17.2.2.2.2.2.2.2.2.1))) ∧ ∃ h21 : ((Int.toNat x17.2.2.2.2.1) < (List.length x17.2.2.2.2.2.2.2.2.1)), ∃ h22 : (((0 : Int) ≤ x17.2.2.2.2.2.1) ∧ ((Int.toNat x17.2.2.2.2.2.1) < (List.length (x17.2.2.2.2.2.2.2.2.1[(Int.toNat x17.2.2.2.2.1)]'h21)))), ((0 : Int) ≤ ((x17.2.2.2.2.2.2.2.2.1[(Int.toNat x17.2.2.2.2.1)]'h21)[(Int.toNat x17.2.2.2.2.2.1)]'h22.2)) ∧ (Go.Abs.Label.v35.p ((Go.Abs.bitsA Go.BinOp.andNot Go.IntKind.i64 (Go.Abs.Label.bitsI (x17.2.2.2.2.2.2.2.2.1[(Int.toNat x17.2.2.2.2.1)]'h20)) (Go.Abs.shlA Go.IntKind.i64 (1 : Int) ((x17.2.2.2.2.2.2.2.2.1[(Int.toNat x17.2.2.2.2.1)]'h21)[(Int.toNat x17.2.2.2.2.2.1)]'h22.2))), (x17.2.2.2.2.2.2.1, ()))) ∧ (Go.Abs.Label.v31.p (x17.2.2.2.2.2.2.1, (x17.2.2.2.2.2.2.2.1, ((Go.Abs.Label.listedI (Go.Abs.bitsA Go.BinOp.andNot Go.IntKind.i64 (Go.Abs.Label.bitsI (x17.2.2.2.2.2.2.2.2.1[(Int.toNat x17.2.2.2.2.1)]'h20)) (Go.Abs.shlA Go.IntKind.i64 (1 : Int) ((x17.2.2.2.2.2.2.2.2.1[(Int.toNat x17.2.2.2.2.1)]'h21)[(Int.toNat x17.2.2.2.2.2.1)]'h22.2))) x17.2.2.2.2.2.2.1), ())))) ∧ br (((Go.Abs.Label.fromI x17.2.2.2.2.2.2.1 x17.2.2.2.2.2.2.2.1 (Go.Abs.Label.bitsI (Go.Abs.Label.listedI (Go.Abs.bitsA Go.BinOp.andNot Go.IntKind.i64 (Go.Abs.Label.bitsI (x17.2.2.2.2.2.2.2.2.1[(Int.toNat x17.2.2.2.2.1)]'h20)) (Go.Abs.shlA Go.IntKind.i64 (1 : Int) ((x17.2.2.2.2.2.2.2.2.1[(Int.toNat x17.2.2.2.2.1)]'h21)[(Int.toNat x17.2.2.2.2.2.1)]'h22.2))) x17.2.2.2.2.2.2.1))) == x17.1)) ((k (Go.Abs.AVal.bool Bool.false) [])) ((Go.Abs.fitsK Go.IntKind.i64 (x17.2.2.2.2.2.1 + (1 : Int))) ∧ (K17 (x17.1, (x17.2.1, (x17.2.2.1, (x17.2.2.2.1, (x17.2.2.2.2.1, ((x17.2.2.2.2.2.1 + (1 : Int)), (x17.2.2.2.2.2.2.1, (x17.2.2.2.2.2.2.2.1, (x17.2.2.2.2.2.2.2.2.1, (x17.2.2.2.2.2.2.2.2.2.1, ()))))))))))))) ((Go.Abs.fitsK Go.IntKind.i64 (x17.2.2.2.2.1 + (1 : Int))) ∧ (K6 (x17.1, (x17.2.1, (x17.2.2.1, (x17.2.2.2.1, ((x17.2.2.2.2.1 + (1 : Int)), (x17.2.2.2.2.2.2.1, (x17.2.2.2.2.2.2.2.1, (x17.2.2.2.2.2.2.2.2.1, (x17.2.2.2.2.2.2.2.2.2.1, ())))))))))))) ((((clo W rs A : Nat) : Int), (A : Int), ((clo W rs O : Nat) : Int), b, (i : Int), (0 : Int), (W : Int), rs, K, own, ())) := by
  obtain ⟨hg, hA, S, hO, rfl⟩ := h
  obtain ⟨hw1, hw2, _⟩ := guild_spec hg
  have hp := pow10n (w := W) (by omega)
  obtain ⟨f1, f2, f3, f4, f5⟩ := S.at_ i hi
  have hil := isList_len f1
  rw [Int.toNat_natCast] at hil
  have h47 : v47.p (K[i], ()) := ⟨(show (K[i]).length ≤ 1000 by omega), list_inL hw2 f1⟩
  have hlen := S.len
  refine Loop.upto (fun j => (((clo W rs A : Nat) : Int), (A : Int), ((clo W rs O : Nat) : Int), b, (i : Int), (j : Int), (W : Int), rs, K, listed O W, ())) (fun j => True) (K[i]).length rfl trivial ?_ ?_
  · intro j K2 hj _ hK2
    have hK2 := hK2 trivial
    dsimp only
    simp only [Int.toNat_natCast]
    refine ⟨⟨by omega, hi⟩, hi, ?_⟩
    rw [br_decide]
    refine ⟨fun _ => ?_, fun h => absurd (show (j : Int) < ((K[i]).length : Int) by omega) h⟩
    have key : ∀ x, x ∈ K[i] → (0 ≤ x) ∧ v35.p (bitsA .andNot .i64 (bitsI K[i]) (shlA .i64 1 x), (W : Int), ()) ∧ v31.p ((W : Int), rs, listedI (bitsA .andNot .i64 (bitsI K[i]) (shlA .i64 1 x)) (W : Int), ()) ∧
        (fromI (W : Int) rs (bitsI (listedI (bitsA .andNot .i64 (bitsI K[i]) (shlA .i64 1 x)) (W : Int))) == ((clo W rs A : Nat) : Int)) = false := by
      intro x hx
      have e0 : K[i] = listed (bitsL K[i]) W := by have := listed_bits f1; rw [Int.toNat_natCast] at this; exact this.symm
      have hx2 := hx
      rw [e0] at hx2
      obtain ⟨X, rfl, hX1, hX2⟩ := listed_mem.1 hx2
      have hX3 : 2 ^ X < 2 ^ W := Nat.pow_lt_pow_right (by omega) hX1
      obtain ⟨q1, q2, q3⟩ := without_one (i := bitsL K[i]) (j := X) (by omega)
      have e1 : bitsA .andNot .i64 (bitsI K[i]) (shlA .i64 1 (X : Int)) = ((andNot (bitsL K[i]) (2 ^ X) : Nat) : Int) := by
        rw [one_shl _ (by omega)]; exact notI_nat (by omega) (by omega)
      have lt : andNot (bitsL K[i]) (2 ^ X) < 2 ^ W := Nat.lt_of_le_of_lt (sub_le q2) f2
      rw [e1, bitsI_listedL lt, fromI_nat]
      refine ⟨by omega, ⟨(show (0 : Int) ≤ ((andNot (bitsL K[i]) (2 ^ X) : Nat) : Int) by omega), (show ((andNot (bitsL K[i]) (2 ^ X) : Nat) : Int) < 65536 by omega), (show (0 : Int) ≤ (W : Int) by omega), (show (W : Int) ≤ 40 by omega)⟩, ⟨hg, listedI_list _ (by omega)⟩, ?_⟩
      have hne : andNot (bitsL K[i]) (2 ^ X) ≠ bitsL K[i] := fun h => by
        have := q1 X
        rw [h, hX2] at this
        simp at this
      have h1 : clo W rs (andNot (bitsL K[i]) (2 ^ X)) ≠ clo W rs A := fun h => by
        have h2 := S.min _ (sub_trans q2 f3) h
        have h3 := listed_lt f2 q2 hne
        rw [← e0, f5] at h3
        omega
      simp; omega
    have hj2 : j < (K[i]).length := hj
    obtain ⟨k1, k2, k3, k4⟩ := key _ (List.getElem_mem hj2)
    exact ⟨⟨by omega, hi⟩, hi, h47, ⟨by omega, hi⟩, hi, ⟨by omega, hj2⟩, k1, k2, k3, br_no k4 ⟨fits64 (by omega) (by omega), hK2⟩⟩
  · intro K2 _
    dsimp only
    simp only [Int.toNat_natCast]
    refine ⟨⟨by omega, hi⟩, hi, ?_⟩
    rw [br_decide]
    exact ⟨fun h => absurd h (by omega), fun _ => ⟨fits64 (by omega) (by omega), hK⟩⟩

def amS (K : List (List Int)) (own : List Int) : Nat → Bool
  | 0 => false
  | i + 1 => amS K own i || eqL (K.getD i []) own
theorem amS_all {K : List (List Int)} {own : List Int} : ∀ n, (∃ i, i < n ∧ K.getD i [] = own) → amS K own n = true
  | 0, h => by obtain ⟨i, h1, _⟩ := h; omega
  | n + 1, h => by
    obtain ⟨i, h1, h2⟩ := h
    unfold amS
    rcases Nat.lt_or_ge i n with h | h
    · rw [amS_all n ⟨i, h, h2⟩]; rfl
    · have : i = n := by omega
      rw [← this, h2]
      simp [eqL]

theorem keys_outer {W : Nat} {rs : List (List Int × Int)} {A O m : Nat} {K : List (List Int)} {own : List Int} {k : AVal → List Cont → Prop} (h : KeysAll W rs A O m K own) (hk : k (.bool true) []) :
    Go.Abs.Loop (σ := (Int × (Int × (Int × (Bool × (Int × (Int × ((List ((List Int) × Int)) × ((List (List Int)) × ((List Int) × Unit)))))))))) (fun K6 x6 => br ((decide (x6.2.2.2.2.1 < (((List.length x6.2.2.2.2.2.2.2.1) : Nat) : Int)))) ((((0 : Int) ≤ x6.2.2.2.2.1) ∧ ((Int.toNat x6.2.2.2.2.1) < (List.length x6.2.2.2.2.2.2.2.1))) ∧ ∃ h8 : ((Int.toNat x6.2.2.2.2.1) < (List.length x6.2.2.2.2.2.2.2.1)), (Go.Abs.Label.v56.p ((x6.2.2.2.2.2.2.2.1[(Int.toNat x6.2.2.2.2.1)]'h8), (x6.2.2.2.2.2.1, ()))) ∧ br (((Bool.not (Go.Abs.Label.isList (x6.2.2.2.2.2.2.2.1[(Int.toNat x6.2.2.2.2.1)]'h8) x6.2.2.2.2.2.1)) == Bool.false)) ((((0 : Int) ≤ x6.2.2.2.2.1) ∧ ((Int.toNat x6.2.2.2.2.1) < (List.length x6.2.2.2.2.2.2.2.1))) ∧ ∃ h9 : ((Int.toNat x6.2.2.2.2.1) < (List.length x6.2.2.2.2.2.2.2.1)), (((0 : Int) ≤ (0 : Int)) ∧ ((Int.toNat (0 : Int)) < (List.length x6.2.2.2.2.2.2.2.1))) ∧ ∃ h10 : ((Int.toNat (0 : Int)) < (List.length x6.2.2.2.2.2.2.2.1)), br ((((((List.length (x6.2.2.2.2.2.2.2.1[(Int.toNat x6.2.2.2.2.1)]'h9)) : Nat) : Int) != (((List.length (x6.2.2.2.2.2.2.2.1[(Int.toNat (0 : Int))]'h10)) : Nat) : Int)) == Bool.false)) ((((0 : Int) ≤ x6.2.2.2.2.1) ∧ ((Int.toNat x6.2.2.2.2.1) < (List.length x6.2.2.2.2.2.2.2.1))) ∧ ∃ h11 : ((Int.toNat x6.2.2.2.2.1) < (List.length x6.2.2.2.2.2.2.2.1)), (Go.Abs.Label.v47.p ((x6.2.2.2.2.2.2.2.1[(Int.toNat x6.2.2.2.2.1)]'h11), ())) ∧ (((0 : Int) ≤ x6.2.2.2.2.1) ∧ ((Int.toNat x6.2.2.2.2.1) < (List.length x6.2.2.2.2.2.2.2.1))) ∧ ∃ h12 : ((Int.toNat x6.2.2.2.2.1) < (List.length x6.2.2.2.2.2.2.2.1)), (Go.Abs.Label.v47.p ((x6.2.2.2.2.2.2.2.1[(Int.toNat x6.2.2.2.2.1)]'h12), ())) ∧ br ((((Go.Abs.bitsA Go.BinOp.and Go.IntKind.i64 (Go.Abs.Label.bitsI (x6.2.2.2.2.2.2.2.1[(Int.toNat x6.2.2.2.2.1)]'h11)) x6.2.1) != (Go.Abs.Label.bitsI (x6.2.2.2.2.2.2.2.1[(Int.toNat x6.2.2.2.2.1)]'h12))) == Bool.false)) (br (((decide (x6.2.2.2.2.1 > (0 : Int))) == Bool.true)) ((Go.Abs.fitsK Go.IntKind.i64 (x6.2.2.2.2.1 - (1 : Int))) ∧ (((0 : Int) ≤ (x6.2.2.2.2.1 - (1 : Int))) ∧ ((Int.toNat (x6.2.2.2.2.1 - (1 : Int))) < (List.length x6.2.2.2.2.2.2.2.1))) ∧ ∃ h13 : ((Int.toNat (x6.2.2.2.2.1 - (1 : Int))) < (List.length x6.2.2.2.2.2.2.2.1)), (((0 : Int) ≤ x6.2.2.2.2.1) ∧ ((Int.toNat x6.2.2.2.2.1) < (List.length x6.2.2.2.2.2.2.2.1))) ∧ ∃ h14 : ((Int.toNat x6.2.2.2.2.1) < (List.length x6.2.2.2.2.2.2.2.1)), (Go.Abs.Label.v227.p ((x6.2.2.2.2.2.2.2.1[(Int.toNat (x6.2.2.2.2.1 - (1 : Int)))]'h13), ((x6.2.2.2.2.2.2.2.1[(Int.toNat x6.2.2.2.2.1)]'h14), ()))) ∧ br ((Bool.not (Go.Abs.Label.before (x6.2.2.2.2.2.2.2.1[(Int.toNat (x6.2.2.2.2.1 - (1 : Int)))]'h13) (x6.2.2.2.2.2.2.2.1[(Int.toNat x6.2.2.2.2.1)]'h14)))) ((k (Go.Abs.AVal.bool Bool.false) [])) (br ((x6.2.2.2.1 == Bool.false)) ((((0 : Int) ≤ x6.2.2.2.2.1) ∧ ((Int.toNat x6.2.2.2.2.1) < (List.length x6.2.2.2.2.2.2.2.1))) ∧ ∃ h15 : ((Int.toNat x6.2.2.2.2.1) < (List.length x6.2.2.2.2.2.2.2.1)), (Go.Abs.Label.v17.p ((x6.2.2.2.2.2.2.2.1[(Int.toNat x6.2.2.2.2.1)]'h15), (x6.2.2.2.2.2.2.2.2.1, ()))) ∧ (((0 : Int) ≤ x6.2.2.2.2.1) ∧ ((Int.toNat x6.2.2.2.2.1) < (List.length x6.2.2.2.2.2.2.2.1))) ∧ ∃ h16 : ((Int.toNat x6.2.2.2.2.1) < (List.length x6.2.2.2.2.2.2.2.1)), (Go.Abs.Label.v31.p (x6.2.2.2.2.2.1, (x6.2.2.2.2.2.2.1, ((x6.2.2.2.2.2.2.2.1[(Int.toNat x6.2.2.2.2.1)]'h16), ())))) ∧ br (((Go.Abs.Label.fromI x6.2.2.2.2.2.1 x6.2.2.2.2.2.2.1 (Go.Abs.Label.bitsI (x6.2.2.2.2.2.2.2.1[(Int.toNat x6.2.2.2.2.1)]'h16))) != x6.1)) ((k (Go.Abs.AVal.bool Bool.false) [])) (Go.Abs.Loop (σ := (Int × (Int × (Int × (Bool × (Int × (Int × (Int × ((List ((List Int) × Int)) × ((List (List Int)) × ((List Int) × Unit))))))))))) (fun K17 x17 => (((0 : Int) ≤ x17.2.2.2.2.1) ∧ ((Int.toNat x17.2.2.2.2.1) < (List.length x17.2.2.2.2.2.2.2.2.1))) ∧ ∃ h19 : ((Int.toNat x17.2.2.2.2.1) < (List.length x17.2.2.2.2.2.2.2.2.1)), br ((decide (x17.2.2.2.2.2.1 < (((List.length (x17.2.2.2.2.2.2.2.2.1[(Int.toNat x17.2.2.2.2.1)]'h19)) : Nat) : Int)))) ((((0 : Int) ≤ x17.2.2.2.2.1) ∧ ((Int.toNat x17.2.2.2.2.1) < (List.length x17.2.2.2.2.2.2.2.2.1))) ∧ ∃ h20 : ((Int.toNat x17.2.2.2.2.1) < (List.length x17.2.2.2.2.2.2.2.2.1)), (Go.Abs.Label.v47.p ((x17.2.2.2.2.2.2.2.2.1[(Int.toNat x17.2.2.2.2.1)]'h20), ())) ∧ (((0 : Int) ≤ x17.2.2.2.2.1) ∧ ((Int.toNat x17.2.2.2.2.1) < (List.length x17.2.2.2.2.2.2.2.2.1))) ∧ ∃ h21 : ((Int.toNat x17.2.2.2.2.1) < (List.length x17.2.2.2.2.2.2.2.2.1)), ∃ h22 : (((0 : Int) ≤ x17.2.2.2.2.2.1) ∧ ((Int.toNat x17.2.2.2.2.2.1) < (List.length (x17.2.2.2.2.2.2.2.2.1[(Int.toNat x17.2.2.2.2.1)]'h21)))), ((0 : Int) ≤ ((x17.2.2.2.2.2.2.2.2.1[(Int.toNat x17.2.2.2.2.1)]'h21)[(Int.toNat x17.2.2.2.2.2.1)]'h22.2)) ∧ (Go.Abs.Label.v35.p ((Go.Abs.bitsA Go.BinOp.andNot Go.IntKind.i64 (Go.Abs.Label.bitsI (x17.2.2.2.2.2.2.2.2.1[(Int.toNat x17.2.2.2.2.1)]'h20)) (Go.Abs.shlA Go.IntKind.i64 (1 : Int) ((x17.2.2.2.2.2.2.2.2.1[(Int.toNat x17.2.2.2.2.1)]'h21)[(Int.toNat x17.2.2.2.2.2.1)]'h22.2))), (x17.2.2.2.2.2.2.1, ()))) ∧ (Go.Abs.Label.v31.p (x17.2.2.2.2.2.2.1, (x17.2.2.2.2.2.2.2.1, ((Go.Abs.Label.listedI (Go.Abs.bitsA Go.BinOp.andNot Go.IntKind.i64 (Go.Abs.Label.bitsI (x17.2.2.2.2.2.2.2.2.1[(Int.toNat x17.2.2.2.2.1)]'h20)) (Go.Abs.shlA Go.IntKind.i64 (1 : Int) ((x17.2.2.2.2.2.2.2.2.1[(Int.toNat x17.2.2.2.2.1)]'h21)[(Int.toNat x17.2.2.2.2.2.1)]'h22.2))) x17.2.2.2.2.2.2.1), ())))) ∧ br (((Go.Abs.Label.fromI x17.2.2.2.2.2.2.1 x17.2.2.2.2.2.2.2.1 (Go.Abs.Label.bitsI (Go.Abs.Label.listedI (Go.Abs.bitsA Go.BinOp.andNot Go.IntKind.i64 (Go.Abs.Label.bitsI (x17.2.2.2.2.2.2.2.2.1[(Int.toNat x17.2.2.2.2.1)]'h20)) (Go.Abs.shlA Go.IntKind.i64 (1 : Int) ((x17.2.2.2.2.2.2.2.2.1[(Int.toNat x17.2.2.2.2.1)]'h21)[(Int.toNat x17.2.2.2.2.2.1)]'h22.2))) x17.2.2.2.2.2.2.1))) == x17.1)) ((k (Go.Abs.AVal.bool Bool.false) [])) ((Go.Abs.fitsK Go.IntKind.i64 (x17.2.2.2.2.2.1 + (1 : Int))) ∧ (K17 (x17.1, (x17.2.1, (x17.2.2.1, (x17.2.2.2.1, (x17.2.2.2.2.1, ((x17.2.2.2.2.2.1 + (1 : Int)), (x17.2.2.2.2.2.2.1, (x17.2.2.2.2.2.2.2.1, (x17.2.2.2.2.2.2.2.2.1, (x17.2.2.2.2.2.2.2.2.2.1, ()))))))))))))) ((Go.Abs.fitsK Go.IntKind.i64 (x17.2.2.2.2.1 + (1 : Int))) ∧ (K6 (x17.1, (x17.2.1, (x17.2.2.1, (x17.2.2.2.1, ((x17.2.2.2.2.1 + (1 : Int)), (x17.2.2.2.2.2.2.1, (x17.2.2.2.2.2.2.2.1, (x17.2.2.2.2.2.2.2.2.1, (x17.2.2.2.2.2.2.2.2.2.1, ())))))))))))) ((x6.1, (x6.2.1, (x6.2.2.1, ((Go.Abs.Label.eqL (x6.2.2.2.2.2.2.2.1[(Int.toNat x6.2.2.2.2.1)]'h15) x6.2.2.2.2.2.2.2.2.1), (x6.2.2.2.2.1, ((0 : Int), (x6.2.2.2.2.2.1, (x6.2.2.2.2.2.2.1, (x6.2.2.2.2.2.2.2.1, (x6.2.2.2.2.2.2.2.2.1, ()))))))))))))) ((((0 : Int) ≤ x6.2.2.2.2.1) ∧ ((Int.toNat x6.2.2.2.2.1) < (List.length x6.2.2.2.2.2.2.2.1))) ∧ ∃ h15 : ((Int.toNat x6.2.2.2.2.1) < (List.length x6.2.2.2.2.2.2.2.1)), (Go.Abs.Label.v31.p (x6.2.2.2.2.2.1, (x6.2.2.2.2.2.2.1, ((x6.2.2.2.2.2.2.2.1[(Int.toNat x6.2.2.2.2.1)]'h15), ())))) ∧ br (((Go.Abs.Label.fromI x6.2.2.2.2.2.1 x6.2.2.2.2.2.2.1 (Go.Abs.Label.bitsI (x6.2.2.2.2.2.2.2.1[(Int.toNat x6.2.2.2.2.1)]'h15))) != x6.1)) ((k (Go.Abs.AVal.bool Bool.false) [])) (Go.Abs.Loop (σ := (Int × (Int × (Int × (Bool × (Int × (Int × (Int × ((List ((List Int) × Int)) × ((List (List Int)) × ((List Int) × Unit))))))))))) (fun K16 x16 => (((0 : Int) ≤ x16.2.2.2.2.1) ∧ ((Int.toNat x16.2.2.2.2.1) < (List.length x16.2.2.2.2.2.2.2.2.1))) ∧ ∃ h18 : ((Int.toNat x16.2.2.2.2.1) < (List.length x16.2.2.2.2.2.2.2.2.1)), br ((decide (x16.2.2.2.2.2.1 < (((List.length (x16.2.2.2.2.2.2.2.2.1[(Int.toNat x16.2.2.2.2.1)]'h18)) : Nat) : Int)))) ((((0 : Int) ≤ x16.2.2.2.2.1) ∧ ((Int.toNat x16.2.2.2.2.1) < (List.length x16.2.2.2.2.2.2.2.2.1))) ∧ ∃ h19 : ((Int.toNat x16.2.2.2.2.1) < (List.length x16.2.2.2.2.2.2.2.2.1)), (Go.Abs.Label.v47.p ((x16.2.2.2.2.2.2.2.2.1[(Int.toNat x16.2.2.2.2.1)]'h19), ())) ∧ (((0 : Int) ≤ x16.2.2.2.2.1) ∧ ((Int.toNat x16.2.2.2.2.1) < (List.length x16.2.2.2.2.2.2.2.2.1))) ∧ ∃ h20 : ((Int.toNat x16.2.2.2.2.1) < (List.length x16.2.2.2.2.2.2.2.2.1)), ∃ h21 : (((0 : Int) ≤ x16.2.2.2.2.2.1) ∧ ((Int.toNat x16.2.2.2.2.2.1) < (List.length (x16.2.2.2.2.2.2.2.2.1[(Int.toNat x16.2.2.2.2.1)]'h20)))), ((0 : Int) ≤ ((x16.2.2.2.2.2.2.2.2.1[(Int.toNat x16.2.2.2.2.1)]'h20)[(Int.toNat x16.2.2.2.2.2.1)]'h21.2)) ∧ (Go.Abs.Label.v35.p ((Go.Abs.bitsA Go.BinOp.andNot Go.IntKind.i64 (Go.Abs.Label.bitsI (x16.2.2.2.2.2.2.2.2.1[(Int.toNat x16.2.2.2.2.1)]'h19)) (Go.Abs.shlA Go.IntKind.i64 (1 : Int) ((x16.2.2.2.2.2.2.2.2.1[(Int.toNat x16.2.2.2.2.1)]'h20)[(Int.toNat x16.2.2.2.2.2.1)]'h21.2))), (x16.2.2.2.2.2.2.1, ()))) ∧ (Go.Abs.Label.v31.p (x16.2.2.2.2.2.2.1, (x16.2.2.2.2.2.2.2.1, ((Go.Abs.Label.listedI (Go.Abs.bitsA Go.BinOp.andNot Go.IntKind.i64 (Go.Abs.Label.bitsI (x16.2.2.2.2.2.2.2.2.1[(Int.toNat x16.2.2.2.2.1)]'h19)) (Go.Abs.shlA Go.IntKind.i64 (1 : Int) ((x16.2.2.2.2.2.2.2.2.1[(Int.toNat x16.2.2.2.2.1)]'h20)[(Int.toNat x16.2.2.2.2.2.1)]'h21.2))) x16.2.2.2.2.2.2.1), ())))) ∧ br (((Go.Abs.Label.fromI x16.2.2.2.2.2.2.1 x16.2.2.2.2.2.2.2.1 (Go.Abs.Label.bitsI (Go.Abs.Label.listedI (Go.Abs.bitsA Go.BinOp.andNot Go.IntKind.i64 (Go.Abs.Label.bitsI (x16.2.2.2.2.2.2.2.2.1[(Int.toNat x16.2.2.2.2.1)]'h19)) (Go.Abs.shlA Go.IntKind.i64 (1 : Int) ((x16.2.2.2.2.2.2.2.2.1[(Int.toNat x16.2.2.2.2.1)]'h20)[(Int.toNat x16.2.2.2.2.2.1)]'h21.2))) x16.2.2.2.2.2.2.1))) == x16.1)) ((k (Go.Abs.AVal.bool Bool.false) [])) ((Go.Abs.fitsK Go.IntKind.i64 (x16.2.2.2.2.2.1 + (1 : Int))) ∧ (K16 (x16.1, (x16.2.1, (x16.2.2.1, (x16.2.2.2.1, (x16.2.2.2.2.1, ((x16.2.2.2.2.2.1 + (1 : Int)), (x16.2.2.2.2.2.2.1, (x16.2.2.2.2.2.2.2.1, (x16.2.2.2.2.2.2.2.2.1, (x16.2.2.2.2.2.2.2.2.2.1, ()))))))))))))) ((Go.Abs.fitsK Go.IntKind.i64 (x16.2.2.2.2.1 + (1 : Int))) ∧ (K6 (x16.1, (x16.2.1, (x16.2.2.1, (x16.2.2.2.1, ((x16.2.2.2.2.1 + (1 : Int)), (x16.2.2.2.2.2.2.1, (x16.2.2.2.2.2.2.2.1, (x16.2.2.2.2.2.2.2.2.1, (x16.2.2.2.2.2.2.2.2.2.1, ())))))))))))) ((x6.1, (x6.2.1, (x6.2.2.1, (Bool.true, (x6.2.2.2.2.1, ((0 : Int), (x6.2.2.2.2.2.1, (x6.2.2.2.2.2.2.1, (x6.2.2.2.2.2.2.2.1, (x6.2.2.2.2.2.2.2.2.1, ()))))))))))))))) (br ((x6.2.2.2.1 == Bool.false)) ((((0 : Int) ≤ x6.2.2.2.2.1) ∧ ((Int.toNat x6.2.2.2.2.1) < (List.length x6.2.2.2.2.2.2.2.1))) ∧ ∃ h13 : ((Int.toNat x6.2.2.2.2.1) < (List.length x6.2.2.2.2.2.2.2.1)), (Go.Abs.Label.v17.p ((x6.2.2.2.2.2.2.2.1[(Int.toNat x6.2.2.2.2.1)]'h13), (x6.2.2.2.2.2.2.2.2.1, ()))) ∧ (((0 : Int) ≤ x6.2.2.2.2.1) ∧ ((Int.toNat x6.2.2.2.2.1) < (List.length x6.2.2.2.2.2.2.2.1))) ∧ ∃ h14 : ((Int.toNat x6.2.2.2.2.1) < (List.length x6.2.2.2.2.2.2.2.1)), (Go.Abs.Label.v31.p (x6.2.2.2.2.2.1, (x6.2.2.2.2.2.2.1, ((x6.2.2.2.2.2.2.2.1[(Int.toNat x6.2.2.2.2.1)]'h14), ())))) ∧ br (((Go.Abs.Label.fromI x6.2.2.2.2.2.1 x6.2.2.2.2.2.2.1 (Go.Abs.Label.bitsI (x6.2.2.2.2.2.2.2.1[(Int.toNat x6.2.2.2.2.1)]'h14))) != x6.1)) ((k (Go.Abs.AVal.bool Bool.false) [])) (Go.Abs.Loop (σ := (Int × (Int × (Int × (Bool × (Int × (Int × (Int × ((List ((List Int) × Int)) × ((List (List Int)) × ((List Int) × Unit))))))))))) (fun K15 x15 => (((0 : Int) ≤ x15.2.2.2.2.1) ∧ ((Int.toNat x15.2.2.2.2.1) < (List.length x15.2.2.2.2.2.2.2.2.1))) ∧ ∃ h17 : ((Int.toNat x15.2.2.2.2.1) < (List.length x15.2.2.2.2.2.2.2.2.1)), br ((decide (x15.2.2.2.2.2.1 < (((List.length (x15.2.2.2.2.2.2.2.2.1[(Int.toNat x15.2.2.2.2.1)]'h17)) : Nat) : Int)))) ((((0 : Int) ≤ x15.2.2.2.2.1) ∧ ((Int.toNat x15.2.2.2.2.1) < (List.length x15.2.2.2.2.2.2.2.2.1))) ∧ ∃ h18 : ((Int.toNat x15.2.2.2.2.1) < (List.length x15.2.2.2.2.2.2.2.2.1)), (Go.Abs.Label.v47.p ((x15.2.2.2.2.2.2.2.2.1[(Int.toNat x15.2.2.2.2.1)]'h18), ())) ∧ (((0 : Int) ≤ x15.2.2.2.2.1) ∧ ((Int.toNat x15.2.2.2.2.1) < (List.length x15.2.2.2.2.2.2.2.2.1))) ∧ ∃ h19 : ((Int.toNat x15.2.2.2.2.1) < (List.length x15.2.2.2.2.2.2.2.2.1)), ∃ h20 : (((0 : Int) ≤ x15.2.2.2.2.2.1) ∧ ((Int.toNat x15.2.2.2.2.2.1) < (List.length (x15.2.2.2.2.2.2.2.2.1[(Int.toNat x15.2.2.2.2.1)]'h19)))), ((0 : Int) ≤ ((x15.2.2.2.2.2.2.2.2.1[(Int.toNat x15.2.2.2.2.1)]'h19)[(Int.toNat x15.2.2.2.2.2.1)]'h20.2)) ∧ (Go.Abs.Label.v35.p ((Go.Abs.bitsA Go.BinOp.andNot Go.IntKind.i64 (Go.Abs.Label.bitsI (x15.2.2.2.2.2.2.2.2.1[(Int.toNat x15.2.2.2.2.1)]'h18)) (Go.Abs.shlA Go.IntKind.i64 (1 : Int) ((x15.2.2.2.2.2.2.2.2.1[(Int.toNat x15.2.2.2.2.1)]'h19)[(Int.toNat x15.2.2.2.2.2.1)]'h20.2))), (x15.2.2.2.2.2.2.1, ()))) ∧ (Go.Abs.Label.v31.p (x15.2.2.2.2.2.2.1, (x15.2.2.2.2.2.2.2.1, ((Go.Abs.Label.listedI (Go.Abs.bitsA Go.BinOp.andNot Go.IntKind.i64 (Go.Abs.Label.bitsI (x15.2.2.2.2.2.2.2.2.1[(Int.toNat x15.2.2.2.2.1)]'h18)) (Go.Abs.shlA Go.IntKind.i64 (1 : Int) ((x15.2.2.2.2.2.2.2.2.1[(Int.toNat x15.2.2.2.2.1)]'h19)[(Int.toNat x15.2.2.2.2.2.1)]'h20.2))) x15.2.2.2.2.2.2.1), ())))) ∧ br (((Go.Abs.Label.fromI x15.2.2.2.2.2.2.1 x15.2.2.2.2.2.2.2.1 (Go.Abs.Label.bitsI (Go.Abs.Label.listedI (Go.Abs.bitsA Go.BinOp.andNot Go.IntKind.i64 (Go.Abs.Label.bitsI (x15.2.2.2.2.2.2.2.2.1[(Int.toNat x15.2.2.2.2.1)]'h18)) (Go.Abs.shlA Go.IntKind.i64 (1 : Int) ((x15.2.2.2.2.2.2.2.2.1[(Int.toNat x15.2.2.2.2.1)]'h19)[(Int.toNat x15.2.2.2.2.2.1)]'h20.2))) x15.2.2.2.2.2.2.1))) == x15.1)) ((k (Go.Abs.AVal.bool Bool.false) [])) ((Go.Abs.fitsK Go.IntKind.i64 (x15.2.2.2.2.2.1 + (1 : Int))) ∧ (K15 (x15.1, (x15.2.1, (x15.2.2.1, (x15.2.2.2.1, (x15.2.2.2.2.1, ((x15.2.2.2.2.2.1 + (1 : Int)), (x15.2.2.2.2.2.2.1, (x15.2.2.2.2.2.2.2.1, (x15.2.2.2.2.2.2.2.2.1, (x15.2.2.2.2.2.2.2.2.2.1, ()))))))))))))) ((Go.Abs.fitsK Go.IntKind.i64 (x15.2.2.2.2.1 + (1 : Int))) ∧ (K6 (x15.1, (x15.2.1, (x15.2.2.1, (x15.2.2.2.1, ((x15.2.2.2.2.1 + (1 : Int)), (x15.2.2.2.2.2.2.1, (x15.2.2.2.2.2.2.2.1, (x15.2.2.2.2.2.2.2.2.1, (x15.2.2.2.2.2.2.2.2.2.1, ())))))))))))) ((x6.1, (x6.2.1, (x6.2.2.1, ((Go.Abs.Label.eqL (x6.2.2.2.2.2.2.2.1[(Int.toNat x6.2.2.2.2.1)]'h13) x6.2.2.2.2.2.2.2.2.1), (x6.2.2.2.2.1, ((0 : Int), (x6.2.2.2.2.2.1, (x6.2.2.2.2.2.2.1, (x6.2.2.2.2.2.2.2.1, (x6.2.2.2.2.2.2.2.2.1, ()))))))))))))) ((((0 : Int) ≤ x6.2.2.2.2.1) ∧ ((Int.toNat x6.2.2.2.2.1) < (List.length x6.2.2.2.2.2.2.2.1))) ∧ ∃ h13 : ((Int.toNat x6.2.2.2.2.1) < (List.length x6.2.2.2.2.2.2.2.1)), (Go.Abs.Label.v31.p (x6.2.2.2.2.2.1, (x6.2.2.2.2.2.2.1, ((x6.2.2.2.2.2.2.2.1[(Int.toNat x6.2.2.2.2.1)]'h13), ())))) ∧ br (((Go.Abs.Label.fromI x6.2.2.2.2.2.1 x6.2.2.2.2.2.2.1 (Go.Abs.Label.bitsI (x6.2.2.2.2.2.2.2.1[(Int.toNat x6.2.2.2.2.1)]'h13))) != x6.1)) ((k (Go.Abs.AVal.bool Bool.false) [])) (Go.Abs.Loop (σ := (Int × (Int × (Int × (Bool × (Int × (Int × (Int × ((List ((List Int) × Int)) × ((List (List Int)) × ((List Int) × Unit))))))))))) (fun K14 x14 => (((0 : Int) ≤ x14.2.2.2.2.1) ∧ ((Int.toNat x14.2.2.2.2.1) < (List.length x14.2.2.2.2.2.2.2.2.1))) ∧ ∃ h16 : ((Int.toNat x14.2.2.2.2.1) < (List.length x14.2.2.2.2.2.2.2.2.1)), br ((decide (x14.2.2.2.2.2.1 < (((List.length (x14.2.2.2.2.2.2.2.2.1[(Int.toNat x14.2.2.2.2.1)]'h16)) : Nat) : Int)))) ((((0 : Int) ≤ x14.2.2.2.2.1) ∧ ((Int.toNat x14.2.2.2.2.1) < (List.length x14.2.2.2.2.2.2.2.2.1))) ∧ ∃ h17 : ((Int.toNat x14.2.2.2.2.1) < (List.length x14.2.2.2.2.2.2.2.2.1)), (Go.Abs.Label.v47.p ((x14.2.2.2.2.2.2.2.2.1[(Int.toNat x14.2.2.2.2.1)]'h17), ())) ∧ (((0 : Int) ≤ x14.2.2.2.2.1) ∧ ((Int.toNat x14.2.2.2.2.1) < (List.length x14.2.2.2.2.2.2.2.2.1))) ∧ ∃ h18 : ((Int.toNat x14.2.2.2.2.1) < (List.length x14.2.2.2.2.2.2.2.2.1)), ∃ h19 : (((0 : Int) ≤ x14.2.2.2.2.2.1) ∧ ((Int.toNat x14.2.2.2.2.2.1) < (List.length (x14.2.2.2.2.2.2.2.2.1[(Int.toNat x14.2.2.2.2.1)]'h18)))), ((0 : Int) ≤ ((x14.2.2.2.2.2.2.2.2.1[(Int.toNat x14.2.2.2.2.1)]'h18)[(Int.toNat x14.2.2.2.2.2.1)]'h19.2)) ∧ (Go.Abs.Label.v35.p ((Go.Abs.bitsA Go.BinOp.andNot Go.IntKind.i64 (Go.Abs.Label.bitsI (x14.2.2.2.2.2.2.2.2.1[(Int.toNat x14.2.2.2.2.1)]'h17)) (Go.Abs.shlA Go.IntKind.i64 (1 : Int) ((x14.2.2.2.2.2.2.2.2.1[(Int.toNat x14.2.2.2.2.1)]'h18)[(Int.toNat x14.2.2.2.2.2.1)]'h19.2))), (x14.2.2.2.2.2.2.1, ()))) ∧ (Go.Abs.Label.v31.p (x14.2.2.2.2.2.2.1, (x14.2.2.2.2.2.2.2.1, ((Go.Abs.Label.listedI (Go.Abs.bitsA Go.BinOp.andNot Go.IntKind.i64 (Go.Abs.Label.bitsI (x14.2.2.2.2.2.2.2.2.1[(Int.toNat x14.2.2.2.2.1)]'h17)) (Go.Abs.shlA Go.IntKind.i64 (1 : Int) ((x14.2.2.2.2.2.2.2.2.1[(Int.toNat x14.2.2.2.2.1)]'h18)[(Int.toNat x14.2.2.2.2.2.1)]'h19.2))) x14.2.2.2.2.2.2.1), ())))) ∧ br (((Go.Abs.Label.fromI x14.2.2.2.2.2.2.1 x14.2.2.2.2.2.2.2.1 (Go.Abs.Label.bitsI (Go.Abs.Label.listedI (Go.Abs.bitsA Go.BinOp.andNot Go.IntKind.i64 (Go.Abs.Label.bitsI (x14.2.2.2.2.2.2.2.2.1[(Int.toNat x14.2.2.2.2.1)]'h17)) (Go.Abs.shlA Go.IntKind.i64 (1 : Int) ((x14.2.2.2.2.2.2.2.2.1[(Int.toNat x14.2.2.2.2.1)]'h18)[(Int.toNat x14.2.2.2.2.2.1)]'h19.2))) x14.2.2.2.2.2.2.1))) == x14.1)) ((k (Go.Abs.AVal.bool Bool.false) [])) ((Go.Abs.fitsK Go.IntKind.i64 (x14.2.2.2.2.2.1 + (1 : Int))) ∧ (K14 (x14.1, (x14.2.1, (x14.2.2.1, (x14.2.2.2.1, (x14.2.2.2.2.1, ((x14.2.2.2.2.2.1 + (1 : Int)), (x14.2.2.2.2.2.2.1, (x14.2.2.2.2.2.2.2.1, (x14.2.2.2.2.2.2.2.2.1, (x14.2.2.2.2.2.2.2.2.2.1, ()))))))))))))) ((Go.Abs.fitsK Go.IntKind.i64 (x14.2.2.2.2.1 + (1 : Int))) ∧ (K6 (x14.1, (x14.2.1, (x14.2.2.1, (x14.2.2.2.1, ((x14.2.2.2.2.1 + (1 : Int)), (x14.2.2.2.2.2.2.1, (x14.2.2.2.2.2.2.2.1, (x14.2.2.2.2.2.2.2.2.1, (x14.2.2.2.2.2.2.2.2.2.1, ())))))))))))) ((x6.1, (x6.2.1, (x6.2.2.1, (Bool.true, (x6.2.2.2.2.1, ((0 : Int), (x6.2.2.2.2.2.1, (x6.2.2.2.2.2.2.1, (x6.2.2.2.2.2.2.2.1, (x6.2.2.2.2.2.2.2.2.1, ()))))))))))))))) ((k (Go.Abs.AVal.bool Bool.false) []))) ((k (Go.Abs.AVal.bool Bool.false) []))) ((k (Go.Abs.AVal.bool Bool.false) []))) (br ((x6.2.2.2.1 == Bool.false)) (br (((x6.2.2.1 != x6.1) == Bool.false)) ((((0 : Int) ≤ (0 : Int)) ∧ ((Int.toNat (0 : Int)) < (List.length x6.2.2.2.2.2.2.2.1))) ∧ ∃ h8 : ((Int.toNat (0 : Int)) < (List.length x6.2.2.2.2.2.2.2.1)), br (((decide ((((List.length x6.2.2.2.2.2.2.2.2.1) : Nat) : Int) > (((List.length (x6.2.2.2.2.2.2.2.1[(Int.toNat (0 : Int))]'h8)) : Nat) : Int))) == Bool.true)) ((Go.Abs.Label.v10.p ()) ∧ (k (Go.Abs.AVal.bool Bool.true) [])) ((k (Go.Abs.AVal.bool Bool.false) []))) ((Go.Abs.Label.v10.p ()) ∧ (k (Go.Abs.AVal.bool Bool.true) []))) ((Go.Abs.Label.v10.p ()) ∧ (k (Go.Abs.AVal.bool Bool.true) [])))) ((((clo W rs A : Nat) : Int), (A : Int), ((clo W rs O : Nat) : Int), false, (0 : Int), (W : Int), rs, K, own, ())) := by
  have hh := h
  obtain ⟨hg, hA, S, hO, rfl⟩ := h
  obtain ⟨hw1, hw2, _⟩ := guild_spec hg
  have hp := pow10n (w := W) (by omega)
  have hpos := S.pos
  have hlen := S.len
  have hol : (listed O W).length ≤ 10 := Nat.le_trans (listed_len _ _) (by omega)
  have hkl : ∀ i (hi : i < K.length), (K[i]).length ≤ 10 := fun i hi => by
    have := isList_len (S.at_ i hi).1
    rw [Int.toNat_natCast] at this
    omega
  refine Loop.upto (fun i => (((clo W rs A : Nat) : Int), (A : Int), ((clo W rs O : Nat) : Int), amS K (listed O W) i, (i : Int), (W : Int), rs, K, listed O W, ())) (fun i => True) K.length rfl trivial ?_ ?_
  · intro i K6 hi _ hK
    have hK := hK trivial
    dsimp only
    rw [br_decide]
    refine ⟨fun _ => ?_, fun h => absurd (show (i : Int) < (K.length : Int) by omega) h⟩
    simp only [Int.toNat_natCast]
    obtain ⟨f1, f2, f3, f4, f5⟩ := S.at_ i hi
    have g5 := (S.at_ 0 hpos).2.2.2.2
    have hil := hkl i hi
    have h47 : v47.p (K[i], ()) := ⟨(show (K[i]).length ≤ 1000 by omega), list_inL hw2 f1⟩
    have eI : bitsI K[i] = ((bitsL K[i] : Nat) : Int) := rfl
    have eF : fromI (W : Int) rs (bitsI K[i]) = ((clo W rs A : Nat) : Int) := by rw [eI, fromI_nat, f4]
    have e0 : (Int.toNat (0 : Int)) = 0 := rfl
    have h31 : v31.p ((W : Int), rs, K[i], ()) := ⟨hg, f1⟩
    have am : ∀ b, amS K (listed O W) (i + 1) = b → K6 (((clo W rs A : Nat) : Int), (A : Int), ((clo W rs O : Nat) : Int), b, (i : Int) + 1, (W : Int), rs, K, listed O W, ()) := fun b hb => by rw [← hb]; exact hK
    have amE : amS K (listed O W) (i + 1) = (amS K (listed O W) i || eqL K[i] (listed O W)) := by
      show (amS K (listed O W) i || eqL (K.getD i []) (listed O W)) = _
      rw [getD_at2 hi]
    have h17 : v17.p (K[i], listed O W, ()) := p17 (by omega) (by omega)
    have tail : br (amS K (listed O W) i == false) (v17.p (K[i], listed O W, ()) ∧ True) True := by
      rw [br_bf]; exact ⟨fun _ => ⟨h17, trivial⟩, fun _ => trivial⟩
    simp only [eI, land_sub (a := bitsL K[i]) (b := A) (by omega) (by omega) f3, e0]
    refine ⟨⟨by omega, hi⟩, hi, ⟨(show (K[i]).length ≤ 1152921504606846976 by omega), (show (0 : Int) ≤ (W : Int) by omega), (show (W : Int) ≤ 1000 by omega)⟩, br_yes (by rw [f1]; rfl) ⟨⟨by omega, hi⟩, hi, ⟨by omega, hpos⟩, hpos, br_yes (by rw [f5, g5]; exact bneS _) ⟨⟨by omega, hi⟩, hi, h47, ⟨by omega, hi⟩, hi, h47, br_yes (bneS _) ?_⟩⟩⟩
    rw [br_true]
    refine ⟨fun h0 => ?_, fun h0 => ?_⟩
    · obtain ⟨j, hj⟩ : ∃ j : Nat, i = j + 1 := ⟨i - 1, by omega⟩
      have ej : Int.toNat ((i : Int) - 1) = j := by omega
      simp only [ej]
      have hjr : j < K.length := by omega
      have hjl := hkl j hjr
      refine ⟨fits64 (by omega) (by omega), ⟨by omega, hjr⟩, hjr, ⟨by omega, hi⟩, hi, ⟨(show (K[j]).length ≤ 1000 by omega), (show (K[i]).length ≤ 1000 by omega)⟩, br_no (by rw [S.before j i hjr hi (by omega)]; rfl) ?_⟩
      rw [br_bf]
      refine ⟨fun ha => ⟨⟨by omega, hi⟩, hi, h17, ⟨by omega, hi⟩, hi, h31, br_no (by rw [← eI, eF]; simp) ?_⟩, fun ha => ⟨⟨by omega, hi⟩, hi, h31, br_no (by rw [← eI, eF]; simp) ?_⟩⟩
      · exact keys_inner hh _ hi (am _ (by rw [amE, ha, Bool.false_or]))
      · exact keys_inner hh _ hi (am _ (by rw [amE, ha, Bool.true_or]))
    · rw [br_bf]
      refine ⟨fun ha => ⟨⟨by omega, hi⟩, hi, h17, ⟨by omega, hi⟩, hi, h31, br_no (by rw [← eI, eF]; simp) ?_⟩, fun ha => ⟨⟨by omega, hi⟩, hi, h31, br_no (by rw [← eI, eF]; simp) ?_⟩⟩
      · exact keys_inner hh _ hi (am _ (by rw [amE, ha, Bool.false_or]))
      · exact keys_inner hh _ hi (am _ (by rw [amE, ha, Bool.true_or]))
  · intro K6 _
    dsimp only
    rw [br_decide]
    refine ⟨fun h => absurd h (by omega), fun _ => ?_⟩
    rw [br_bf]
    refine ⟨fun ha => ?_, fun _ => ⟨trivial, hk⟩⟩
    rw [br_bf]
    refine ⟨fun hx => ?_, fun _ => ⟨trivial, hk⟩⟩
    have hx2 : clo (W : Int) rs O = clo W rs A := by
      simp at hx; omega
    refine ⟨⟨by omega, hpos⟩, hpos, br_yes ?_ ⟨trivial, hk⟩⟩
    have h1 := S.min O hO hx2
    have g5 := (S.at_ 0 hpos).2.2.2.2
    have h2 : (listed O W).length ≠ m := fun h => by
      obtain ⟨i, hi, e⟩ := S.all O hO hx2 h
      have := amS_all (K := K) (own := listed O W) K.length ⟨i, hi, by rw [getD_at2 hi]; exact e⟩
      rw [ha] at this; cases this
    have h3 : (K[(Int.toNat (0 : Int))]'hpos).length = m := g5
    rw [h3, decide_eq_true (by omega)]; rfl

theorem k206 (hG : Good Try.prog (envOf [(19, mkC [v29]), (20, mkC [v31]), (21, mkC [v30]), (28, mkC [v20]), (25, mkC [v47]), (22, mkC [v35]), (26, mkC [v56]), (27, mkC [v227]), (29, mkC [v17]), (13, mkC [v10])])) : v206.Kept Try.prog 6 := by
  rintro ⟨w, rs, bits, some, ⟨⟩⟩ hpre k hk
  change Int at w
  change List (List Int × Int) at rs
  change Int at bits some
  refine aspec hmix hG Try.func6 txp6 (Eq.mpr (eq206 w rs bits some k) ?_)
  replace hk : k (rBo true) [] := hk
  unfold vc206
  obtain ⟨hbt, hsm⟩ := hpre
  have hbt : 0 ≤ bits ∧ bits < 65536 := hbt
  have hsm : 0 ≤ some ∧ some < 65536 := hsm
  refine ⟨trivial, ?_⟩
  rw [br_not]
  refine ⟨fun _ => ⟨trivial, hk⟩, fun h => ?_⟩
  have hg := fine_gd h
  obtain ⟨hw1, hw2, hrl, _⟩ := guild_spec hg
  obtain ⟨W, rfl⟩ := Int.eq_ofNat_of_zero_le (show 0 ≤ w by omega)
  obtain ⟨N, rfl⟩ := Int.eq_ofNat_of_zero_le hsm.1
  have hl := listedI_list bits (w := (W : Int)) (by omega)
  have h30 : v30.p ((W : Int), rs, bits, ()) := ⟨hg, hbt⟩
  obtain ⟨l, hle⟩ : ∃ l, listedI bits (W : Int) = l := ⟨_, rfl⟩
  rw [hle] at hl
  have hA : bitsL l < 2 ^ W := by simpa using bits_ltw hl
  have hp := pow10n (w := W) (by omega)
  have hll := isList_len hl
  rw [Int.toNat_natCast] at hll
  obtain ⟨hp1, hp2⟩ := pow_w (W := W) (by omega)
  obtain ⟨m, S⟩ := key_spec hg hl
  have sm := gd_small hg
  have hOl : (N &&& bitsL l) < 2 ^ W := Nat.lt_of_le_of_lt Nat.and_le_right hA
  have hOs : subB (N &&& bitsL l) (bitsL l) = true := sub_iff.2 fun i hi => by rw [Nat.testBit_and, Bool.and_eq_true] at hi; exact hi.2
  have eb : bitsI l = ((bitsL l : Nat) : Int) := rfl
  have eO : bitsA .and .i64 (N : Int) ((bitsL l : Nat) : Int) = ((N &&& bitsL l : Nat) : Int) := land_nat _ _ (by omega) (by omega)
  have hlE := label_err hg hl
  have lO : listedI ((N &&& bitsL l : Nat) : Int) (W : Int) = listed (N &&& bitsL l) W := by unfold listedI; rw [Int.toNat_natCast, Int.toNat_natCast]
  have bO : bitsI (listed (N &&& bitsL l) W) = ((N &&& bitsL l : Nat) : Int) := by unfold bitsI; rw [bits_listed hOl]
  have iO : isList (listed (N &&& bitsL l) W) (W : Int) = true := by simpa using isList_listed (N &&& bitsL l) (w := (W : Int)) (by omega)
  simp only [hle, eb, eO, lO, bO, fromI_nat, hlE]
  obtain ⟨K, hKe⟩ : ∃ K, keyL (W : Int) rs l = K := ⟨_, rfl⟩
  rw [hKe] at S
  simp only [hKe]
  have hpos := S.pos
  have hlen := S.len
  have hall : KeysAll W rs (bitsL l) (N &&& bitsL l) m K (listed (N &&& bitsL l) W) := ⟨hg, hA, S, hOs, rfl⟩
  refine ⟨h30, ⟨hg, hl⟩, ⟨sm, (show l.length ≤ 1000 by omega)⟩, ⟨(show l.length ≤ 1000 by omega), list_inL hw2 hl⟩, br_yes rfl (br_yes ?_ ⟨by omega, br_no ?_ ⟨fits64 (by omega) (by omega), ⟨(show (0 : Int) ≤ ((N &&& bitsL l : Nat) : Int) by omega), (show ((N &&& bitsL l : Nat) : Int) < 65536 by omega), (show (0 : Int) ≤ (W : Int) by omega), (show (W : Int) ≤ 40 by omega)⟩, ⟨hg, iO⟩, ?_⟩⟩)⟩
  · have : ((K.length : Int) == 0) = false := beq_eq_false_iff_ne.2 (by omega)
    rw [this]; rfl
  · rw [hp1]; exact decide_eq_false (by omega)
  rw [br_bt]
  refine ⟨fun hx => ⟨⟨by omega, hpos⟩, hpos, br_no (decide_eq_false ?_) (keys_outer hall hk)⟩, fun _ => keys_outer hall hk⟩
  have hx2 : clo (W : Int) rs (N &&& bitsL l) = clo W rs (bitsL l) := by
    simp at hx; omega
  have h1 := S.min _ hOs hx2
  have g5 := (S.at_ 0 hpos).2.2.2.2
  have h3 : (K[(Int.toNat (0 : Int))]'hpos).length = m := g5
  rw [h3]; omega
end Go.Abs.Label
end

section
/- The contracts put together (printed by a program). -/
open Go.Proofs
set_option maxRecDepth 100000
namespace Go.Abs.Label
theorem hc11 : HasCode Try.prog 11 := hasCode Try.func11 (by kernel_rfl) (by kernel_rfl)
theorem g8 : Keeps Try.prog 11 [v8] := keeps1 hc11 (k8 good_nil)
theorem hc26 : HasCode Try.prog 26 := hasCode Try.func26 (by kernel_rfl) (by kernel_rfl)
theorem g56 : Keeps Try.prog 26 [v56] := keeps1 hc26 (k56 good_nil)
theorem hc51 : HasCode Try.prog 51 := hasCode Try.func51 (by kernel_rfl) (by kernel_rfl)
theorem g16 : Keeps Try.prog 51 [v16] := keeps1 hc51 (k16 (g56.add good_nil))
theorem hc19 : HasCode Try.prog 19 := hasCode Try.func19 (by kernel_rfl) (by kernel_rfl)
theorem g29 : Keeps Try.prog 19 [v29] := keeps1 hc19 (k29 (g8.add (g16.add good_nil)))
theorem hc75 : HasCode Try.prog 75 := hasCode Try.func75 (by kernel_rfl) (by kernel_rfl)
theorem g82 : Keeps Try.prog 75 [v82] := keeps1 hc75 (k82 good_nil)
theorem hc91 : HasCode Try.prog 91 := hasCode Try.func91 (by kernel_rfl) (by kernel_rfl)
theorem g96 : Keeps Try.prog 91 [v96] := keeps1 hc91 (k96 (g82.add good_nil))
theorem hc74 : HasCode Try.prog 74 := hasCode Try.func74 (by kernel_rfl) (by kernel_rfl)
theorem g81 : Keeps Try.prog 74 [v81] := keeps1 hc74 (k81 (g96.add good_nil))
theorem hc43 : HasCode Try.prog 43 := hasCode Try.func43 (by kernel_rfl) (by kernel_rfl)
theorem g50 : Keeps Try.prog 43 [v50] := keeps1 hc43 (k50 (g81.add good_nil))
theorem hc70 : HasCode Try.prog 70 := hasCode Try.func70 (by kernel_rfl) (by kernel_rfl)
theorem g52 : Keeps Try.prog 70 [v52] := keeps1 hc70 (k52 good_nil)
theorem hc77 : HasCode Try.prog 77 := hasCode Try.func77 (by kernel_rfl) (by kernel_rfl)
theorem g83a : Keeps Try.prog 77 [v83a] := keeps1 hc77 (k83a (g52.add good_nil))
theorem hc72 : HasCode Try.prog 72 := hasCode Try.func72 (by kernel_rfl) (by kernel_rfl)
theorem g54 : Keeps Try.prog 72 [v54] := keeps1 hc72 (k54 (g50.add good_nil))
theorem hc71 : HasCode Try.prog 71 := hasCode Try.func71 (by kernel_rfl) (by kernel_rfl)
theorem g53 : Keeps Try.prog 71 [v53] := keeps1 hc71 (k53 (g54.add good_nil))
theorem g83b : Keeps Try.prog 77 [v83b] := keeps1 hc77 (k83b (g53.add good_nil))
theorem hc73 : HasCode Try.prog 73 := hasCode Try.func73 (by kernel_rfl) (by kernel_rfl)
theorem g55 : Keeps Try.prog 73 [v55] := keeps1 hc73 (k55 (g50.add good_nil))
theorem g83c : Keeps Try.prog 77 [v83c] := keeps1 hc77 (k83c (g55.add good_nil))
theorem hc69 : HasCode Try.prog 69 := hasCode Try.func69 (by kernel_rfl) (by kernel_rfl)
theorem g51a_51b_51c : Keeps Try.prog 69 [v51a, v51b, v51c] := ⟨hc69.code, fun v' hm => by simp at hm; rcases hm with rfl | rfl | rfl; exact (k51a (g83a.add good_nil)); exact (k51b (g83b.add good_nil)); exact (k51c (g83c.add good_nil))⟩
theorem hc40 : HasCode Try.prog 40 := hasCode Try.func40 (by kernel_rfl) (by kernel_rfl)
theorem g15 : Keeps Try.prog 40 [v15] := keeps1 hc40 (k15 (g50.add (g51a_51b_51c.add good_nil)))
theorem hc50 : HasCode Try.prog 50 := hasCode Try.func50 (by kernel_rfl) (by kernel_rfl)
theorem g57 : Keeps Try.prog 50 [v57] := keeps1 hc50 (k57 good_nil)
theorem hc49 : HasCode Try.prog 49 := hasCode Try.func49 (by kernel_rfl) (by kernel_rfl)
theorem g73 : Keeps Try.prog 49 [v73] := keeps1 hc49 (k73 (g57.add good_nil))
theorem hc42 : HasCode Try.prog 42 := hasCode Try.func42 (by kernel_rfl) (by kernel_rfl)
theorem g42 : Keeps Try.prog 42 [v42] := keeps1 hc42 (k42 (g15.add (g54.add (g73.add good_nil))))
theorem hc76 : HasCode Try.prog 76 := hasCode Try.func76 (by kernel_rfl) (by kernel_rfl)
theorem g78 : Keeps Try.prog 76 [v78] := keeps1 hc76 (k78 good_nil)
theorem hc100 : HasCode Try.prog 100 := hasCode Try.func100 (by kernel_rfl) (by kernel_rfl)
theorem g101 : Keeps Try.prog 100 [v101] := keeps1 hc100 (k101 good_nil)
theorem hc88 : HasCode Try.prog 88 := hasCode Try.func88 (by kernel_rfl) (by kernel_rfl)
theorem g87 : Keeps Try.prog 88 [v87] := keeps1 hc88 (k87 (g101.add good_nil))
theorem hc61 : HasCode Try.prog 61 := hasCode Try.func61 (by kernel_rfl) (by kernel_rfl)
theorem g66 : Keeps Try.prog 61 [v66] := keeps1 hc61 (k66 (g87.add good_nil))
theorem hc83 : HasCode Try.prog 83 := hasCode Try.func83 (by kernel_rfl) (by kernel_rfl)
theorem g79 : Keeps Try.prog 83 [v79] := keeps1 hc83 (k79 (g73.add (g66.add good_nil)))
theorem hc48 : HasCode Try.prog 48 := hasCode Try.func48 (by kernel_rfl) (by kernel_rfl)
theorem g59 : Keeps Try.prog 48 [v59] := keeps1 hc48 (k59 good_nil)
theorem hc53 : HasCode Try.prog 53 := hasCode Try.func53 (by kernel_rfl) (by kernel_rfl)
theorem g43 : Keeps Try.prog 53 [v43] := keeps1 hc53 (k43 (g78.add (g57.add (g79.add (g59.add good_nil)))))
theorem hc62 : HasCode Try.prog 62 := hasCode Try.func62 (by kernel_rfl) (by kernel_rfl)
theorem g44 : Keeps Try.prog 62 [v44] := keeps1 hc62 (k44 good_nil)
theorem hc35 : HasCode Try.prog 35 := hasCode Try.func35 (by kernel_rfl) (by kernel_rfl)
theorem g11 : Keeps Try.prog 35 [v11] := keeps1 hc35 (k11 (g42.add (g43.add (g44.add good_nil))))
theorem hc84 : HasCode Try.prog 84 := hasCode Try.func84 (by kernel_rfl) (by kernel_rfl)
theorem g80 : Keeps Try.prog 84 [v80] := keeps1 hc84 (k80 (g73.add (g59.add good_nil)))
theorem g83d : Keeps Try.prog 77 [v83d] := keeps1 hc77 (k83d (g80.add good_nil))
theorem g51d : Keeps Try.prog 69 [v51d] := keeps1 hc69 (k51d (g83d.add good_nil))
theorem hc54 : HasCode Try.prog 54 := hasCode Try.func54 (by kernel_rfl) (by kernel_rfl)
theorem g48 : Keeps Try.prog 54 [v48] := keeps1 hc54 (k48 (g43.add (g79.add (g59.add (g80.add (g51d.add good_nil))))))
theorem hc37 : HasCode Try.prog 37 := hasCode Try.func37 (by kernel_rfl) (by kernel_rfl)
theorem g13 : Keeps Try.prog 37 [v13] := keeps1 hc37 (k13 (g42.add (g48.add good_nil)))
theorem hc25 : HasCode Try.prog 25 := hasCode Try.func25 (by kernel_rfl) (by kernel_rfl)
theorem g47 : Keeps Try.prog 25 [v47] := keeps1 hc25 (k47 good_nil)
theorem hc20 : HasCode Try.prog 20 := hasCode Try.func20 (by kernel_rfl) (by kernel_rfl)
theorem g31 : Keeps Try.prog 20 [v31] := keeps1 hc20 (k31 (g11.add (g13.add (g56.add (g47.add good_nil)))))
theorem hc22 : HasCode Try.prog 22 := hasCode Try.func22 (by kernel_rfl) (by kernel_rfl)
theorem g35 : Keeps Try.prog 22 [v35] := keeps1 hc22 (k35 good_nil)
theorem hc21 : HasCode Try.prog 21 := hasCode Try.func21 (by kernel_rfl) (by kernel_rfl)
theorem g30 : Keeps Try.prog 21 [v30] := keeps1 hc21 (k30 (g35.add good_nil))
theorem hc58 : HasCode Try.prog 58 := hasCode Try.func58 (by kernel_rfl) (by kernel_rfl)
theorem g63 : Keeps Try.prog 58 [v63] := keeps1 hc58 (k63 (g43.add good_nil))
theorem hc52 : HasCode Try.prog 52 := hasCode Try.func52 (by kernel_rfl) (by kernel_rfl)
theorem g67 : Keeps Try.prog 52 [v67] := keeps1 hc52 (k67 good_nil)
theorem hc87 : HasCode Try.prog 87 := hasCode Try.func87 (by kernel_rfl) (by kernel_rfl)
theorem g86 : Keeps Try.prog 87 [v86] := keeps1 hc87 (k86 (g59.add good_nil))
theorem hc98 : HasCode Try.prog 98 := hasCode Try.func98 (by kernel_rfl) (by kernel_rfl)
theorem g99 : Keeps Try.prog 98 [v99] := keeps1 hc98 (k99 (g86.add good_nil))
theorem hc86 : HasCode Try.prog 86 := hasCode Try.func86 (by kernel_rfl) (by kernel_rfl)
theorem g85 : Keeps Try.prog 86 [v85] := keeps1 hc86 (k85 (g99.add good_nil))
theorem hc57 : HasCode Try.prog 57 := hasCode Try.func57 (by kernel_rfl) (by kernel_rfl)
theorem g61b : Keeps Try.prog 57 [v61b] := keeps1 hc57 (k61b (g63.add (g67.add (g66.add (g86.add (g85.add good_nil))))))
theorem hc60 : HasCode Try.prog 60 := hasCode Try.func60 (by kernel_rfl) (by kernel_rfl)
theorem g65 : Keeps Try.prog 60 [v65] := keeps1 hc60 (k65 (g66.add good_nil))
theorem hc59 : HasCode Try.prog 59 := hasCode Try.func59 (by kernel_rfl) (by kernel_rfl)
theorem g64 : Keeps Try.prog 59 [v64] := keeps1 hc59 (k64 (g65.add good_nil))
theorem hc101 : HasCode Try.prog 101 := hasCode Try.func101 (by kernel_rfl) (by kernel_rfl)
theorem g102 : Keeps Try.prog 101 [v102] := keeps1 hc101 (k102 good_nil)
theorem hc89 : HasCode Try.prog 89 := hasCode Try.func89 (by kernel_rfl) (by kernel_rfl)
theorem g89 : Keeps Try.prog 89 [v89] := keeps1 hc89 (k89 (g102.add good_nil))
theorem hc65 : HasCode Try.prog 65 := hasCode Try.func65 (by kernel_rfl) (by kernel_rfl)
theorem g70 : Keeps Try.prog 65 [v70] := keeps1 hc65 (k70 (g89.add good_nil))
theorem hc85 : HasCode Try.prog 85 := hasCode Try.func85 (by kernel_rfl) (by kernel_rfl)
theorem g84 : Keeps Try.prog 85 [v84] := keeps1 hc85 (k84 (g70.add good_nil))
theorem hc56 : HasCode Try.prog 56 := hasCode Try.func56 (by kernel_rfl) (by kernel_rfl)
theorem g60 : Keeps Try.prog 56 [v60] := keeps1 hc56 (k60 (g44.add (g84.add good_nil)))
theorem hc28 : HasCode Try.prog 28 := hasCode Try.func28 (by kernel_rfl) (by kernel_rfl)
theorem g20 : Keeps Try.prog 28 [v20] := keeps1 hc28 (k20 (g42.add (g43.add (g63.add (g61b.add (g64.add (g66.add (g60.add good_nil))))))))
theorem hc27 : HasCode Try.prog 27 := hasCode Try.func27 (by kernel_rfl) (by kernel_rfl)
theorem g227 : Keeps Try.prog 27 [v227] := keeps1 hc27 (k227 good_nil)
theorem hc29 : HasCode Try.prog 29 := hasCode Try.func29 (by kernel_rfl) (by kernel_rfl)
theorem g17 : Keeps Try.prog 29 [v17] := keeps1 hc29 (k17 good_nil)
theorem hc68 : HasCode Try.prog 68 := hasCode Try.func68 (by kernel_rfl) (by kernel_rfl)
theorem g77 : Keeps Try.prog 68 [v77] := keeps1 hc68 (k77 good_nil)
theorem hc34 : HasCode Try.prog 34 := hasCode Try.func34 (by kernel_rfl) (by kernel_rfl)
theorem g37 : Keeps Try.prog 34 [v37] := keeps1 hc34 (k37 (g77.add (g76 good_nil)))
theorem hc41 : HasCode Try.prog 41 := hasCode Try.func41 (by kernel_rfl) (by kernel_rfl)
theorem g38 : Keeps Try.prog 41 [v38] := keeps1 hc41 (k38 (g37.add (g77.add (g76 good_nil))))
theorem hc36 : HasCode Try.prog 36 := hasCode Try.func36 (by kernel_rfl) (by kernel_rfl)
theorem g39 : Keeps Try.prog 36 [v39] := keeps1 hc36 (k39 good_nil)
theorem hc16 : HasCode Try.prog 16 := hasCode Try.func16 (by kernel_rfl) (by kernel_rfl)
theorem g33 : Keeps Try.prog 16 [v33] := keeps1 hc16 (k33 (g42.add (g50.add (g73.add (g59.add (g57.add good_nil))))))
theorem hc78 : HasCode Try.prog 78 := hasCode Try.func78 (by kernel_rfl) (by kernel_rfl)
theorem g91 : Keeps Try.prog 78 [v91] := keeps1 hc78 (k91 (g73.add (g59.add good_nil)))
theorem g83e : Keeps Try.prog 77 [v83e] := keeps1 hc77 (k83e (g91.add good_nil))
theorem hc79 : HasCode Try.prog 79 := hasCode Try.func79 (by kernel_rfl) (by kernel_rfl)
theorem g92 : Keeps Try.prog 79 [v92] := keeps1 hc79 (k92 good_nil)
theorem hc80 : HasCode Try.prog 80 := hasCode Try.func80 (by kernel_rfl) (by kernel_rfl)
theorem g93 : Keeps Try.prog 80 [v93] := keeps1 hc80 (k93 good_nil)
theorem hc95 : HasCode Try.prog 95 := hasCode Try.func95 (by kernel_rfl) (by kernel_rfl)
theorem g105 : Keeps Try.prog 95 [v105] := keeps1 hc95 (k105 good_nil)
theorem hc94 : HasCode Try.prog 94 := hasCode Try.func94 (by kernel_rfl) (by kernel_rfl)
theorem g104 : Keeps Try.prog 94 [v104] := keeps1 hc94 (k104 good_nil)
theorem hc81 : HasCode Try.prog 81 := hasCode Try.func81 (by kernel_rfl) (by kernel_rfl)
theorem g94 : Keeps Try.prog 81 [v94] := keeps1 hc81 (k94 (g105.add (g104.add (g44.add (g33.add good_nil)))))
theorem hc44 : HasCode Try.prog 44 := hasCode Try.func44 (by kernel_rfl) (by kernel_rfl)
theorem g75 : Keeps Try.prog 44 [v75] := keeps1 hc44 (k75 (g78.add (g57.add (g59.add (g79.add (g83e.add (g73.add (g92.add (g93.add (g94.add good_nil))))))))))
theorem hc14 : HasCode Try.prog 14 := hasCode Try.func14 (by kernel_rfl) (by kernel_rfl)
theorem g32 : Keeps Try.prog 14 [v32] := keeps1 hc14 (k32 (g42.add (g50.add (g75.add good_nil))))
theorem hc55 : HasCode Try.prog 55 := hasCode Try.func55 (by kernel_rfl) (by kernel_rfl)
theorem g58 : Keeps Try.prog 55 [v58] := keeps1 hc55 (k58 (g43.add (g59.add good_nil)))
theorem g61a : Keeps Try.prog 57 [v61a] := keeps1 hc57 (k61a (g58.add (g67.add (g66.add (g86.add (g85.add good_nil))))))
theorem hc24 : HasCode Try.prog 24 := hasCode Try.func24 (by kernel_rfl) (by kernel_rfl)
theorem g18 : Keeps Try.prog 24 [v18] := keeps1 hc24 (k18 (g42.add (g50.add (g57.add (g58.add (g61a.add (g60.add good_nil)))))))
theorem hc64 : HasCode Try.prog 64 := hasCode Try.func64 (by kernel_rfl) (by kernel_rfl)
theorem g69 : Keeps Try.prog 64 [v69] := keeps1 hc64 (k69 (g70.add good_nil))
theorem hc63 : HasCode Try.prog 63 := hasCode Try.func63 (by kernel_rfl) (by kernel_rfl)
theorem g68 : Keeps Try.prog 63 [v68] := keeps1 hc63 (k68 (g69.add good_nil))
theorem hc30 : HasCode Try.prog 30 := hasCode Try.func30 (by kernel_rfl) (by kernel_rfl)
theorem g23 : Keeps Try.prog 30 [v23] := keeps1 hc30 (k23 (g42.add (g48.add (g67.add (g44.add (g68.add good_nil))))))
theorem hc23 : HasCode Try.prog 23 := hasCode Try.func23 (by kernel_rfl) (by kernel_rfl)
theorem g25 : Keeps Try.prog 23 [v25] := keeps1 hc23 (k25 (g42.add (g67.add (g43.add (g48.add good_nil)))))
theorem hc66 : HasCode Try.prog 66 := hasCode Try.func66 (by kernel_rfl) (by kernel_rfl)
theorem g72 : Keeps Try.prog 66 [v72] := keeps1 hc66 (k72 (g90 good_nil))
theorem hc32 : HasCode Try.prog 32 := hasCode Try.func32 (by kernel_rfl) (by kernel_rfl)
theorem g27 : Keeps Try.prog 32 [v27] := keeps1 hc32 (k27 (g42.add (g50.add (g72.add (g73.add (g48.add (g43.add (g57.add (g59.add good_nil)))))))))
theorem hc45 : HasCode Try.prog 45 := hasCode Try.func45 (by kernel_rfl) (by kernel_rfl)
theorem g45 : Keeps Try.prog 45 [v45] := keeps1 hc45 (k45 (g16.add (g56.add good_nil)))
theorem hc17 : HasCode Try.prog 17 := hasCode Try.func17 (by kernel_rfl) (by kernel_rfl)
theorem g40 : Keeps Try.prog 17 [v40] := keeps1 hc17 (k40 (g45.add (g47.add good_nil)))
theorem hc39 : HasCode Try.prog 39 := hasCode Try.func39 (by kernel_rfl) (by kernel_rfl)
theorem g41 : Keeps Try.prog 39 [v41] := keeps1 hc39 (k41 good_nil)
theorem hc38 : HasCode Try.prog 38 := hasCode Try.func38 (by kernel_rfl) (by kernel_rfl)
theorem g22 : Keeps Try.prog 38 [v22] := keeps1 hc38 (k22 (g17.add good_nil))
theorem hc13 : HasCode Try.prog 13 := hasCode Try.func13 (by kernel_rfl) (by kernel_rfl)
theorem g10 : Keeps Try.prog 13 [v10] := keeps1 hc13 (k10 (g37.add (g38.add (g39.add (g11.add (g13.add (g33.add (g32.add (g18.add (g20.add (g23.add (g25.add (g27.add (g17.add (g40.add (g41.add (g22.add good_nil)))))))))))))))))
theorem hc6 : HasCode Try.prog 6 := hasCode Try.func6 (by kernel_rfl) (by kernel_rfl)
theorem g206 : Keeps Try.prog 6 [v206] := keeps1 hc6 (k206 (g29.add (g31.add (g30.add (g20.add (g47.add (g35.add (g56.add (g227.add (g17.add (g10.add good_nil)))))))))))
end Go.Abs.Label
end

