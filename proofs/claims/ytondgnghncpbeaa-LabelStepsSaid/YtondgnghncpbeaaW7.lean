/- Part 7 of the road to this seat's statements: lemmas about a small interpreter over the model's code, and about the functions that it is used on. No condition of its own. -/
import Derived.Test.YtondgnghncpbeaaProg
import Derived.Test.YtondgnghncpbeaaW6

section
/- The label's functions keep their contracts: the examples; what follows, as the statements ask it. -/
open Go.Proofs
set_option maxRecDepth 100000
set_option linter.unusedVariables false
namespace Go.Abs.Label

theorem k76t (hG : Good Try.prog (envOf [])) : v76t.Kept Try.prog 67 := by
  rintro ⟨w, rs, ⟨⟩⟩ hpre k hk
  change Int at w
  change List (List Int × Int) at rs
  refine aspec hmix hG Try.func67 tx76 (Eq.mpr (eq76t w rs k) ?_)
  replace hk : k (.agg [rI w, .imm tRu rs true]) [] := hk
  unfold vc76t
  exact hk

theorem guild_kept : ∀ us cs k, cGuild.run us cs k → ASpec Try.prog 67 us cs k := by
  rintro us cs k ⟨h1, h2⟩
  have h1 : guildPre us cs := h1
  unfold guildPre at h1
  split at h1
  · rename_i n l f _
    cases f with
    | false => exact k76 good_nil (n, l, ()) trivial k h2
    | true => exact k76t good_nil (n, l, ()) trivial k h2
  · exact h1.elim
theorem g76 {l : List (FuncId × Contract)} (hG : Good Try.prog (envOf l)) : Good Try.prog (envOf ((67, cGuild) :: l)) := by
  obtain ⟨c, hc⟩ := Option.isSome_iff_exists.1 (show Try.f67.body.isSome = true by kernel_rfl)
  exact good_cons hG Try.func67 hc (by kernel_rfl) guild_kept

theorem k37 (hG : Good Try.prog (envOf [(68, mkC [v77]), (67, cGuild)])) : v37.Kept Try.prog 34 := by
  rintro ⟨⟩ hpre k hk
  refine aspec hmix hG Try.func34 tx37 (Eq.mpr (eq37  k) ?_)
  replace hk : k (.agg [rI 6, .imm tRu fiveR true]) [] := hk
  unfold vc37
  exact ⟨trivial, trivial, trivial, trivial, trivial, trivial, hk⟩

theorem k38 (hG : Good Try.prog (envOf [(34, mkC [v37]), (68, mkC [v77]), (67, cGuild)])) : v38.Kept Try.prog 41 := by
  rintro ⟨⟩ hpre k hk
  refine aspec hmix hG Try.func41 tx38 (Eq.mpr (eq38  k) ?_)
  replace hk : k (.agg [rI 6, .imm tRu sixR false]) [] := hk
  unfold vc38
  exact ⟨trivial, trivial, by decide, by decide, trivial, hk⟩

/-! ### lists of words, and sets -/
theorem lt_of_tests {b n : Nat} (h : ∀ i, b.testBit i = true → i < n) : b < 2 ^ n := by
  refine Nat.lt_pow_two_of_testBit b (fun i hi => ?_)
  cases hb : b.testBit i with
  | false => rfl
  | true => have := h i hb; omega
theorem bits_ltw {l : List Int} {w : Int} (h : isList l w = true) : bitsL l < 2 ^ w.toNat := by
  refine lt_of_tests (fun i hi => ?_)
  obtain ⟨x, hx, rfl⟩ := (bitsL_test l i).1 hi
  have := (isList_spec.1 h).1 x hx
  omega
theorem listed_bits {l : List Int} {w : Int} (h : isList l w = true) : listed (bitsL l) w.toNat = l := by
  refine sorted_ext (· < ·) (fun a => Int.lt_irrefl a) (fun a b c h1 h2 => Int.lt_trans h1 h2) _ _ (listed_sorted _ _) (isList_spec.1 h).2 (fun x => ?_)
  rw [listed_mem]
  constructor
  · rintro ⟨i, rfl, h1, h2⟩
    obtain ⟨y, hy, e⟩ := (bitsL_test l i).1 h2
    have := (isList_spec.1 h).1 y hy
    have : y = (i : Int) := by omega
    rw [← this]; exact hy
  · intro hx
    have := (isList_spec.1 h).1 x hx
    exact ⟨x.toNat, by omega, by omega, (bitsL_test l _).2 ⟨x, hx, rfl⟩⟩
def shortB (x : List Int) : Bool := decide (x.length ≤ 1000)
theorem k10 (hG : Good Try.prog (envOf [(34, mkC [v37]), (41, mkC [v38]), (36, mkC [v39]), (35, mkC [v11]), (37, mkC [v13]), (16, mkC [v33]), (14, mkC [v32]), (24, mkC [v18]), (28, mkC [v20]), (30, mkC [v23]), (23, mkC [v25]), (32, mkC [v27]), (29, mkC [v17]), (17, mkC [v40]), (39, mkC [v41]), (38, mkC [v22])])) : v10.Kept Try.prog 13 := by
  rintro ⟨⟩ hpre k hk
  refine aspec hmix hG Try.func13 tx10 (Eq.mpr (eq10  k) ?_)
  replace hk : k (rBo true) [] := hk
  unfold vc10
  have l5 : fiveR.length = 5 := rfl
  have s5 : smallG fiveR := by decide
  have s6 : smallG sixR := by decide
  have hr : reaL 6 fiveR [0, 1, 2, 3, 4, 5] 3 = [[0, 1], [0, 5], [2], [3]] := by
    have e1 : wordErr 6 fiveR [0, 1, 2, 3, 4, 5] 3 = 0 := by decide
    have e2 : (minE (goodsR 6 fiveR (andI 0 3) (bitsI [0, 1, 2, 3, 4, 5]))).map (fun e => listI e.2.1) = [[0, 1], [2], [3], [0, 5]] := by decide
    unfold reaL listsE
    rw [if_pos e1, e2]
    exact (sortLL_unique (by decide) (by decide)).symm
  have hkey : keyL 6 fiveR [0, 1, 2, 3, 4, 5] = [[0, 5]] := by
    have e1 : labelErr 6 fiveR [0, 1, 2, 3, 4, 5] = 0 := by decide
    have e2 : (fewE (minE (goodsK 6 fiveR (fromI 6 fiveR (bitsI [0, 1, 2, 3, 4, 5])) (bitsI [0, 1, 2, 3, 4, 5])))).map (fun e => listI e.2.1) = [[0, 5]] := by decide
    unfold keyL listsE
    rw [if_pos e1, e2]
    exact (sortLL_unique (by decide) (by decide)).symm
  have hst : (stepsL 6 fiveR [0, 5] 3).length ≤ 12 := by
    unfold stepsL
    split
    · exact stepL_len _ _ _ _
    · exact Nat.zero_le _
  have hfo : folL 6 fiveR [0, 5] = [0, 1, 2, 3, 4, 5] := by decide
  have hta : takeL 6 fiveR [2, 3, 4] = [4] := by decide
  have hid : idleB 6 fiveR 0 = false := by decide
  rw [hr, hkey, hfo, hta, hid]
  have p2 : ∀ l : List Int, l.length ≤ 12 → v11.p (6, fiveR, l, ()) := fun l h => ⟨s5, (show l.length ≤ 1000 by omega)⟩
  have p13 : ∀ l : List Int, l.length ≤ 12 → v13.p (6, fiveR, l, ()) := fun l h => ⟨s5, (show l.length ≤ 1000 by omega)⟩
  have p33 : ∀ (l : List Int) (x : Int) (s : List Int), l.length ≤ 12 → s.length ≤ 12 → v33.p (6, fiveR, l, x, s, ()) := fun l x s h h2 => ⟨s5, (show l.length ≤ 1000 by omega), (show s.length ≤ 1000 by omega)⟩
  have p40 : ∀ (l : List Int) (x : Int) (s : List Int), l.length ≤ 12 → s.length ≤ 12 → v40.p (6, fiveR, l, x, s, ()) := fun l x s h h2 => ⟨s5, (show l.length ≤ 1000 by omega), (show s.length ≤ 1000 by omega)⟩
  have p32 : ∀ (l : List Int) (x : Int), l.length ≤ 12 → v32.p (6, fiveR, l, x, ()) := fun l x h => ⟨s5, (show l.length ≤ 1000 by omega)⟩
  have p18 : ∀ (l : List Int) (x : Int), l.length ≤ 12 → v18.p (6, fiveR, l, x, ()) := fun l x h => ⟨s5, (show l.length ≤ 1000 by omega)⟩
  have p20 : ∀ (l : List Int), l.length ≤ 12 → v20.p (6, fiveR, l, ()) := fun l h => ⟨s5, (show l.length ≤ 1000 by omega)⟩
  have p23 : ∀ (l : List Int), l.length ≤ 12 → v23.p (6, fiveR, l, ()) := fun l h => ⟨s5, (show l.length ≤ 1000 by omega)⟩
  have p17 : ∀ (l m : List Int), l.length ≤ 12 → m.length ≤ 12 → v17.p (l, m, ()) := fun l m h h2 => ⟨(show l.length ≤ 1152921504606846976 by omega), (show m.length ≤ 1152921504606846976 by omega)⟩
  have p22 : ∀ (l m : List (List Int)), l.length ≤ 12 → m.length ≤ 12 → l.all shortB = true → m.all shortB = true → v22.p (l, m, ()) := fun l m h h2 h3 h4 => ⟨(show l.length ≤ 2000 by omega), (show m.length ≤ 2000 by omega), fun x hx => of_decide_eq_true (List.all_eq_true.1 h3 x hx), fun x hx => of_decide_eq_true (List.all_eq_true.1 h4 x hx)⟩
  refine ⟨trivial, trivial, trivial, p2 _ (by decide), trivial, p2 _ (by decide), trivial, p13 _ (by decide), trivial, p13 _ (by decide), trivial, trivial, p33 _ _ _ (by decide) (by decide), trivial, trivial, p33 _ _ _ (by decide) (by decide), trivial, trivial, p33 _ _ _ (by decide) (by decide), trivial, trivial, p33 _ _ _ (by decide) (by decide), trivial, p33 _ _ _ (by decide) (by decide), trivial, p32 _ _ (by decide), trivial, p32 _ _ (by decide), trivial, p18 _ _ (by decide), trivial, p20 _ (by decide), trivial, p23 _ (by decide), s5, s6, s5, s5, trivial, p17 _ _ (by decide) (by decide), trivial, p40 _ _ _ (by decide) hst, trivial, trivial, trivial, trivial, trivial, p22 _ _ (by decide) (by decide) (by decide) (by decide), ?_⟩
  rw [br_bt]
  exact ⟨fun _ => ⟨trivial, trivial, p22 _ _ (by decide) (by decide) (by decide) (by decide), trivial, p17 _ _ (by decide) (by decide), hk⟩, fun h => absurd h (by decide)⟩
end Go.Abs.Label
end

section
/- Conditions and their equations, printed by a program. -/
open Go.Proofs
set_option maxRecDepth 100000
set_option linter.unusedVariables false
namespace Go.Abs.Label
end Go.Abs.Label
end

section
/- The label's statements: which guilds are valid, what follows, what is banned. -/
open Go.Proofs
set_option maxRecDepth 100000
set_option linter.unusedVariables false
namespace Go.Abs.Label
theorem br_yes {b : Bool} {p q : Prop} (h : b = true) (hp : p) : br b p q := by subst h; exact hp
theorem br_no {b : Bool} {p q : Prop} (h : b = false) (hq : q) : br b p q := by subst h; exact hq
theorem long_no {l : List Int} (h : longL l = false) : l.length ≤ 20 := by
  unfold longL at h
  have := of_decide_eq_false h
  omega
end Go.Abs.Label
end

section
/- Plain laws of labels: reasons, keys, what is taken, idle rules: two ways agree. -/
open Go.Proofs
set_option maxRecDepth 100000
set_option linter.unusedVariables false
namespace Go.Abs.Label

/-! ### what follows -/
theorem pow10 {w : Int} (h : w ≤ 10) : 2 ^ w.toNat ≤ 1024 := Nat.pow_le_pow_right (n := 2) (j := 10) (by omega) (by omega)
/-! ### the parts of a label, two ways -/
theorem listI_w {w : Int} (hw : 0 ≤ w ∧ w ≤ 10) {i : Nat} (hi : i < 2 ^ w.toNat) : listI (i : Int) = listed i w.toNat := by
  unfold listI
  rw [Int.toNat_natCast]
  refine listed_stop 10 (by omega) (fun j h1 h2 => ?_)
  exact Nat.testBit_lt_two_pow (Nat.lt_of_lt_of_le hi (Nat.pow_le_pow_right (by omega) h1))
/-! ### reasons -/
end Go.Abs.Label
end

section
/- Plain laws of labels: keys, what is taken, idle rules: two ways agree. -/
open Go.Proofs
set_option maxRecDepth 100000
set_option linter.unusedVariables false
namespace Go.Abs.Label

/-! ### keys -/
/-! ### what is taken -/
theorem best_fold {bet : List Int → List Int → Bool} (hO : Order bet) : ∀ (L : List (List Int)) (b : List Int),
    (L.foldl (fun b y => if bet y b then y else b) b = b ∨ L.foldl (fun b y => if bet y b then y else b) b ∈ L) ∧ bet b (L.foldl (fun b y => if bet y b then y else b) b) = false ∧ ∀ y ∈ L, bet y (L.foldl (fun b y => if bet y b then y else b) b) = false
  | [], b => ⟨.inl rfl, hO.irr b, by simp⟩
  | x :: L, b => by
    rw [List.foldl_cons]
    obtain ⟨h1, h2, h3⟩ := best_fold hO L (if bet x b then x else b)
    generalize L.foldl (fun b y => if bet y b then y else b) (if bet x b then x else b) = r at h1 h2 h3 ⊢
    by_cases hx : bet x b = true
    · rw [if_pos hx] at h1 h2
      refine ⟨.inr (h1.elim (fun e => by rw [e]; simp) (fun h => List.mem_cons_of_mem _ h)), ?_, fun y hy => ?_⟩
      · rw [← Bool.not_eq_true]
        intro hb
        rw [hO.tr _ _ _ hx hb] at h2; cases h2
      · rcases List.mem_cons.1 hy with rfl | hy
        · exact h2
        · exact h3 y hy
    · rw [if_neg hx] at h1 h2
      refine ⟨h1.imp_right (fun h => List.mem_cons_of_mem _ h), h2, fun y hy => ?_⟩
      rcases List.mem_cons.1 hy with rfl | hy
      · rw [← Bool.not_eq_true]
        intro hb
        rcases hO.tot b y with e | e | e
        · subst e; rw [hb] at h2; cases h2
        · rw [hO.tr _ _ _ e hb] at h2; cases h2
        · exact hx e
      · exact h3 y hy
end Go.Abs.Label
end

section
/- Plain laws of labels: idle rules, two ways; steps lead to what follows. -/
open Go.Proofs
set_option maxRecDepth 100000
set_option linter.unusedVariables false
namespace Go.Abs.Label

/-! ### fewer rules -/
/-! ### steps -/
theorem chkS_of {w : Int} {rs : List (List Int × Int)} {l : List Int} {word : Int} {s : List Int} (h0 : labelErr w rs l = 0) (h1 : -1 ≤ word ∧ word < w) (h2 : ∀ i ∈ s, 0 ≤ i ∧ i < rs.length) : chkS w rs l word s = goS rs word s (bitsL l) := by
  unfold chkS
  have e1 : outOf (-1) (w - 1) word = false := by unfold outOf; exact decide_eq_false (by omega)
  have e2 : s.any (stepBad rs) = false := by
    rw [List.any_eq_false]
    intro i hi
    have := h2 i hi
    unfold stepBad outOf
    simp only [decide_eq_true_eq]
    omega
  rw [if_neg (by omega), e1, e2]
  simp

/-! the steps in order -/
structure RunAt (rs : List (List Int × Int)) (b : Nat) (s : Nat × List Int) : Prop where
  lt : s.1 < 1024
  sub : subB b s.1 = true
  least : ∀ d, ClosedR rs d → subB b d = true → subB s.1 d = true
  rng : ∀ i ∈ s.2, 0 ≤ i ∧ i < rs.length
  cnt : s.2.length ≤ (listed s.1 10).length
  /-- back from the end: what needs no more than is known is kept -/
  back : ∀ (word : Int) (N : Nat) (kept : List Int), subB N s.1 = true ∨ True → (∀ t, subB b t = true → (∀ i, N.testBit i = true → s.1.testBit i = true → t.testBit i = true) → goS rs word kept t = 0) →
    goS rs word ((s.2.reverse.foldl (backS rs b) (N, kept.reverse)).2.reverse) b = 0
theorem indexOf_cons {α : Type} (p : α → Bool) (x : α) (l : List α) : indexOf p (x :: l) = if p x then 0 else (if indexOf p l < 0 then -1 else indexOf p l + 1) := rfl
theorem indexOf_sat {α : Type} (p : α → Bool) : ∀ (l : List α) (h : (indexOf p l).toNat < l.length), 0 ≤ indexOf p l → p (l[(indexOf p l).toNat]'h) = true
  | [], h, _ => by simp at h
  | x :: l, h, h0 => by
    by_cases hx : p x = true
    · have e : indexOf p (x :: l) = 0 := by rw [indexOf_cons, if_pos hx]
      simp only [e]
      exact hx
    · by_cases hn : indexOf p l < 0
      · have e : indexOf p (x :: l) = -1 := by rw [indexOf_cons, if_neg hx, if_pos hn]
        omega
      · have e : indexOf p (x :: l) = indexOf p l + 1 := by rw [indexOf_cons, if_neg hx, if_neg hn]
        have e2 : (indexOf p (x :: l)).toNat = (indexOf p l).toNat + 1 := by omega
        simp only [e2, List.getElem_cons_succ]
        exact indexOf_sat p l _ (by omega)
theorem runS_run {rs : List (List Int × Int)} (hok : okThen rs) (hif : ∀ r ∈ rs, bitsL r.1 < 1024) {b : Nat} (hb : b < 1024) : ∀ (n : Nat) (s : Nat × List Int), RunAt rs b s → RunAt rs b (runS rs n s) ∧ (10 < n + s.2.length → ∀ r ∈ rs, grantR (runS rs n s).1 r = false)
  | 0, s, h => by
    refine ⟨h, fun hn => ?_⟩
    have := h.cnt
    have := listed_len s.1 10
    omega
  | n + 1, s, h => by
    unfold runS
    split
    · rename_i hi
      refine ⟨h, fun _ r hr => ?_⟩
      rw [← Bool.not_eq_true]
      intro hgr
      obtain ⟨j, hj, rfl⟩ := List.getElem_of_mem hr
      have := indexOf_ge (grantR s.1) rs
      have h2 : rs.any (grantR s.1) = true := List.any_eq_true.2 ⟨_, hr, hgr⟩
      rw [h2, decide_eq_true_eq] at this
      omega
    · rename_i hi
      obtain ⟨g0, g1⟩ := indexOf_range _ _ hi
      generalize hii : indexOf (grantR s.1) rs = i at hi g0 g1 ⊢
      have hra := rule_at g0 g1
      have hm : ruleAt rs i ∈ rs := by rw [hra]; exact List.getElem_mem _
      have hgr : grantR s.1 (ruleAt rs i) = true := by
        rw [hra]
        have := indexOf_sat (grantR s.1) rs (by rw [hii]; exact g1) (by rw [hii]; exact g0)
        simp only [hii] at this
        exact this
      generalize hr : ruleAt rs i = r at hm hgr ⊢
      unfold grantR at hgr
      simp only [Bool.and_eq_true, decide_eq_true_eq, Bool.not_eq_true'] at hgr
      obtain ⟨k0, k1, k2⟩ := hgr
      have hth := hok r hm
      have hnew : RunAt rs b (s.1 ||| 2 ^ r.2.toNat, s.2 ++ [i]) := by
        refine ⟨or_lt h.lt (by omega), sub_trans h.sub (sub_or _ _), fun d hd hbd => ?_, fun j hj => ?_, ?_, ?_⟩
        · have h3 := h.least d hd hbd
          refine sub_iff.2 fun j hj => ?_
          rcases or_test.1 hj with h4 | h4
          · exact sub_iff.1 h3 j h4
          · subst h4; exact hd r hm k0 (sub_trans k1 h3)
        · rcases List.mem_append.1 hj with hj | hj
          · exact h.rng j hj
          · rw [List.mem_singleton.1 hj]; omega
        · have := listed_strict (sub_or s.1 (2 ^ r.2.toNat)) k2 (or_test.2 (.inr rfl)) 10 (by omega)
          have := h.cnt
          simp only [List.length_append, List.length_cons, List.length_nil]
          show _ ≤ (listed (s.1 ||| 2 ^ r.2.toNat) 10).length
          omega
        · intro word N kept _ hk
          rw [List.reverse_append, List.reverse_singleton, List.singleton_append, List.foldl_cons]
          have neg : ¬ r.2 < 0 := by omega
          by_cases hN : N.testBit r.2.toNat = true
          · have e : backS rs b (N, kept.reverse) i = (andNot (N ||| bitsL r.1) b, (i :: kept).reverse) := by
              unfold backS
              rw [hr, if_pos (.inr hN)]; simp
            rw [e]
            refine h.back word _ (i :: kept) (.inr trivial) (fun t ht hN' => ?_)
            have hbit : ∀ j, j < 10 → (N ||| bitsL r.1).testBit j = true → s.1.testBit j = true → t.testBit j = true := by
              intro j hj h1 h2
              by_cases h3 : b.testBit j = true
              · exact sub_iff.1 ht j h3
              · exact hN' j (by rw [notI_test hj, h1]; simpa using h3) h2
            have hs1 : ∀ j, s.1.testBit j = true → j < 10 := fun j hj => test_lt h.lt hj
            have hIf : subB (bitsL r.1) t = true := sub_iff.2 fun j hj => hbit j (hs1 j (sub_iff.1 k1 j hj)) (by rw [Nat.testBit_or, hj, Bool.or_true]) (sub_iff.1 k1 j hj)
            unfold goS
            rw [hr, hIf, if_neg (fun h => h.elim (fun h => neg h.1) (fun h => nomatch h)), if_neg neg]
            refine hk _ (sub_trans ht (sub_or _ _)) (fun j h1 h2 => ?_)
            rcases or_test.1 h2 with h2 | h2
            · exact or_test.2 (.inl (hbit j (hs1 j h2) (by rw [Nat.testBit_or, h1]; rfl) h2))
            · exact or_test.2 (.inr h2)
          · have e : backS rs b (N, kept.reverse) i = (N, kept.reverse) := by
              unfold backS
              rw [hr, if_neg (fun h => h.elim (fun h => neg h) (fun h => hN h))]
            rw [e]
            refine h.back word N kept (.inr trivial) (fun t ht hN' => hk t ht (fun j h1 h2 => ?_))
            rcases or_test.1 h2 with h2 | h2
            · exact hN' j h1 h2
            · subst h2; exact absurd h1 hN
      obtain ⟨q1, q2⟩ := runS_run hok hif hb n _ hnew
      refine ⟨q1, fun hn => q2 ?_⟩
      simp only [List.length_append, List.length_cons, List.length_nil]
      omega
end Go.Abs.Label
end

section
/- Plain laws of labels: the steps that are returned lead to what follows, and none can be left out. -/
open Go.Proofs
set_option maxRecDepth 100000
set_option linter.unusedVariables false
namespace Go.Abs.Label

theorem run_start (rs : List (List Int × Int)) {b : Nat} (hb : b < 1024) : RunAt rs b (b, []) where
  lt := hb
  sub := le_refl_sub b
  least := fun d _ h => h
  rng := fun i hi => absurd hi (by simp)
  cnt := Nat.zero_le _
  back := fun word N kept _ hk => by
    show goS rs word (kept.reverse.reverse) b = 0
    rw [List.reverse_reverse]
    exact hk b (le_refl_sub b) (fun i _ h => h)
theorem run_all {w : Int} {rs : List (List Int × Int)} (hg : Gd w rs) {b : Nat} (hb : b < 1024) : RunAt rs b (runOf rs b) ∧ (runOf rs b).1 = clo w rs b := by
  obtain ⟨hw1, hw2, _⟩ := guild_spec hg
  obtain ⟨h1, h2⟩ := runS_run (gd_then hg) (fun r hr => bitsL_lt (gd_if hg hr).2) hb 11 (b, []) (run_start rs hb)
  have h1 : RunAt rs b (runOf rs b) := h1
  have h2 : ∀ r ∈ rs, grantR (runOf rs b).1 r = false := h2 (by simp)
  have hc : ClosedR rs (runOf rs b).1 := fun r hr h0 hs => by
    have := h2 r hr
    unfold grantR at this
    rw [decide_eq_true h0, hs] at this
    simpa using this
  exact ⟨h1, sub_antisymm (h1.least _ (clo_closed (by omega) (gd_w hg) b) (clo_sub _ _ _)) (clo_least hc h1.sub)⟩

/-- Whether a word follows, or a label is banned. -/
def isS (w : Int) (rs : List (List Int × Int)) (b : Nat) (word : Int) : Bool := if 0 ≤ word then (clo w rs b).testBit word.toNat else banned w rs b
theorem ban3_nat (c : Nat) (r : List Int × Int) : ban3 (c : Int) r = banR c r := by
  unfold ban3 banR hasR
  rw [Int.toNat_natCast]
theorem has_is {w : Int} {rs : List (List Int × Int)} (hg : Gd w rs) {b : Nat} (hb : b < 1024) (word : Int) : hasSteps rs (b : Int) word = isS w rs b word := by
  obtain ⟨h1, h2⟩ := run_all hg hb
  unfold hasSteps isS
  rw [Int.toNat_natCast, h2]
  split
  · rfl
  · have := indexOf_ge (ban3 ((clo w rs b : Nat) : Int)) rs
    have e : (!decide (indexOf (ban3 ((clo w rs b : Nat) : Int)) rs < 0)) = decide (indexOf (ban3 ((clo w rs b : Nat) : Int)) rs ≥ 0) := by
      rw [Bool.eq_iff_iff]
      simp
    rw [e, this]
    unfold banned
    exact congrArg rs.any (funext fun r => ban3_nat _ r)

theorem backS_mem (rs : List (List Int × Int)) (b : Nat) : ∀ (L : List Int) (s : Nat × List Int), ∀ j ∈ (L.foldl (backS rs b) s).2, j ∈ s.2 ∨ j ∈ L
  | [], s, j, h => .inl h
  | i :: L, s, j, h => by
    rw [List.foldl_cons] at h
    rcases backS_mem rs b L _ j h with h | h
    · unfold backS at h
      split at h
      · rcases List.mem_append.1 h with h | h
        · exact .inl h
        · exact .inr (by rw [List.mem_singleton.1 h]; simp)
      · exact .inl h
    · exact .inr (List.mem_cons_of_mem _ h)
theorem backOf_mem {rs : List (List Int × Int)} {b need : Nat} {out : List Int} {j : Int} (h : j ∈ backOf rs b need out) : j ∈ out := by
  unfold backOf at h
  rcases backS_mem rs b _ _ j (List.mem_reverse.1 h) with h | h
  · simp at h
  · exact List.mem_reverse.1 h

theorem raw_ok {w : Int} {rs : List (List Int × Int)} (hg : Gd w rs) {b : Nat} (hb : b < 1024) {word : Int} (h : hasSteps rs (b : Int) word = true) : goS rs word (rawS rs (b : Int) word) b = 0 ∧ ∀ i ∈ rawS rs (b : Int) word, 0 ≤ i ∧ i < rs.length := by
  obtain ⟨h1, h2⟩ := run_all hg hb
  unfold hasSteps at h
  unfold rawS
  rw [Int.toNat_natCast] at h ⊢
  by_cases hw : 0 ≤ word
  · rw [if_pos hw] at h ⊢
    refine ⟨?_, fun i hi => h1.rng i (backOf_mem hi)⟩
    refine h1.back word (2 ^ word.toNat) [] (.inr trivial) (fun t _ ht => ?_)
    have := ht word.toNat (by rw [Nat.testBit_two_pow]; simp) h
    unfold goS
    rw [if_neg (by rw [this]; simp; exact hw)]
  · rw [if_neg hw] at h ⊢
    have hi : ¬ indexOf (ban3 ((runOf rs b).1 : Int)) rs < 0 := by simpa using h
    obtain ⟨g0, g1⟩ := indexOf_range _ _ hi
    have hsat := indexOf_sat _ rs g1 g0
    rw [← rule_at g0 g1] at hsat
    generalize indexOf (ban3 ((runOf rs b).1 : Int)) rs = k at hi g0 g1 hsat ⊢
    rw [ban3_nat] at hsat
    unfold banR at hsat
    rw [Bool.and_eq_true, decide_eq_true_eq] at hsat
    have hm : ruleAt rs k ∈ rs := by rw [rule_at g0 g1]; exact List.getElem_mem _
    refine ⟨?_, fun i hi => ?_⟩
    · unfold backOf
      rw [List.reverse_append, List.reverse_singleton, List.singleton_append, List.foldl_cons]
      have e : backS rs b (bitsL (ruleAt rs k).1, []) k = (andNot (bitsL (ruleAt rs k).1 ||| bitsL (ruleAt rs k).1) b, [k].reverse) := by
        unfold backS
        rw [if_pos (.inl hsat.1)]; rfl
      rw [e]
      refine h1.back word _ [k] (.inr trivial) (fun t ht hN => ?_)
      have hs : subB (bitsL (ruleAt rs k).1) t = true := sub_iff.2 fun j hj => by
        have hjc := sub_iff.1 hsat.2 j hj
        have hj10 := test_lt h1.lt hjc
        by_cases h3 : b.testBit j = true
        · exact sub_iff.1 ht j h3
        · exact hN j (by rw [notI_test hj10, Nat.testBit_or, hj]; simpa using h3) hjc
      unfold goS
      rw [hs, if_neg (fun h => h.elim (fun h => h.2.elim hw (fun h => h rfl)) (fun h => nomatch h)), if_pos hsat.1]
    · rcases List.mem_append.1 (backOf_mem hi) with hi | hi
      · exact h1.rng i hi
      · rw [List.mem_singleton.1 hi]; omega

theorem less_keeps {w : Int} {rs : List (List Int × Int)} {b word : Int} : ∀ (n : Nat) (s : List Int), s.length < n → chkS w rs (listI b) word s = 0 →
    chkS w rs (listI b) word (lessS w rs b word n s) = 0 ∧ ∀ j < (lessS w rs b word n s).length, chkS w rs (listI b) word ((lessS w rs b word n s).eraseIdx j) ≠ 0
  | 0, s, h, _ => absurd h (Nat.not_lt_zero _)
  | n + 1, s, h, h0 => by
    unfold lessS
    split
    · rename_i hi
      refine ⟨h0, fun j hj hc => ?_⟩
      have := indexOf_ge (fun i : Nat => decide (chkS w rs (listI b) word (s.eraseIdx i) = 0)) (List.range s.length)
      have h2 : (List.range s.length).any (fun i : Nat => decide (chkS w rs (listI b) word (s.eraseIdx i) = 0)) = true := List.any_eq_true.2 ⟨j, List.mem_range.2 hj, decide_eq_true hc⟩
      rw [h2, decide_eq_true_eq] at this
      unfold lessAt at hi
      omega
    · rename_i hi
      have hi0 := hi
      unfold lessAt at hi
      obtain ⟨g0, g1⟩ := indexOf_range _ _ hi
      have hsat := of_decide_eq_true (indexOf_sat _ _ g1 g0)
      simp only [List.getElem_range] at hsat
      have g2 : (lessAt w rs b word s).toNat < s.length := by unfold lessAt; simpa using g1
      refine less_keeps n _ ?_ hsat
      show (s.eraseIdx (lessAt w rs b word s).toNat).length < n
      rw [List.length_eraseIdx, if_pos g2]
      omega

theorem label_err {w : Int} {rs : List (List Int × Int)} {l : List Int} (hg : Gd w rs) (hl : isList l w = true) : labelErr w rs l = 0 := by
  unfold labelErr
  rw [if_neg (by simpa using hg), if_pos hl]
theorem listI_bits {w : Int} {l : List Int} (hw : 0 ≤ w ∧ w ≤ 10) (hl : isList l w = true) : listI (bitsI l) = l := by
  unfold bitsI
  rw [listI_w hw (bits_ltw hl), listed_bits hl]
theorem steps_ok {w : Int} {rs : List (List Int × Int)} {l : List Int} {word : Int} (hg : Gd w rs) (hl : isList l w = true) (hx : -1 ≤ word ∧ word < w) :
    hasSteps rs (bitsI l) word = isS w rs (bitsL l) word ∧ stepErr w rs l word = (if isS w rs (bitsL l) word then 0 else 5) ∧
    (isS w rs (bitsL l) word = true → chkS w rs l word (stepsL w rs l word) = 0 ∧ needS w rs l word (stepsL w rs l word) = true) ∧ (isS w rs (bitsL l) word = false → stepsL w rs l word = []) := by
  obtain ⟨hw1, hw2, _⟩ := guild_spec hg
  have hb : bitsL l < 1024 := Nat.lt_of_lt_of_le (bits_ltw hl) (pow10 hw2)
  have h1 : hasSteps rs (bitsI l) word = isS w rs (bitsL l) word := has_is hg hb word
  have ho : outOf (-1) (w - 1) word = false := by unfold outOf; exact decide_eq_false (by omega)
  have h0 := label_err hg hl
  have h2 : stepErr w rs l word = (if isS w rs (bitsL l) word then 0 else 5) := by
    unfold stepErr
    rw [if_neg (by omega), ho, h1]; rfl
  refine ⟨h1, h2, fun h => ?_, fun h => ?_⟩
  · rw [h, if_pos rfl] at h2
    have hI := listI_bits ⟨by omega, hw2⟩ hl
    have e : stepsL w rs l word = lessL w rs (bitsI l) word (rawS rs (bitsI l) word) := by
      unfold stepsL stepL
      rw [h2, if_pos rfl, h1, h, if_pos rfl]
    have hr : goS rs word (rawS rs (bitsI l) word) (bitsL l) = 0 ∧ ∀ i ∈ rawS rs (bitsI l) word, 0 ≤ i ∧ i < rs.length := raw_ok hg hb (word := word) (by rw [← h1] at h; exact h)
    have hc : chkS w rs (listI (bitsI l)) word (rawS rs (bitsI l) word) = 0 := by
      rw [hI, chkS_of h0 hx hr.2]; exact hr.1
    obtain ⟨k1, k2⟩ := less_keeps (rawS rs (bitsI l) word).length.succ _ (Nat.lt_succ_self _) hc
    have k1 : chkS w rs (listI (bitsI l)) word (lessL w rs (bitsI l) word (rawS rs (bitsI l) word)) = 0 := k1
    have k2 : ∀ j < (lessL w rs (bitsI l) word (rawS rs (bitsI l) word)).length, chkS w rs (listI (bitsI l)) word ((lessL w rs (bitsI l) word (rawS rs (bitsI l) word)).eraseIdx j) ≠ 0 := k2
    rw [← e, hI] at k1 k2
    refine ⟨k1, ?_⟩
    unfold needS
    rw [decide_eq_true k1, Bool.true_and, List.all_eq_true]
    intro j hj
    rw [decide_eq_false (k2 j (List.mem_range.1 hj))]; rfl
  · rw [h, if_neg (by simp)] at h2
    unfold stepsL
    rw [h2]; rfl
theorem steps_len (w : Int) (rs : List (List Int × Int)) (l : List Int) (word : Int) : (stepsL w rs l word).length ≤ 12 := by
  unfold stepsL
  split
  · exact stepL_len _ _ _ _
  · exact Nat.zero_le _
end Go.Abs.Label
end

section
/- The label's statements: reasons and keys; what is taken, how many are closed, idle rules; steps; closed labels. -/
open Go.Proofs
set_option maxRecDepth 100000
set_option linter.unusedVariables false
namespace Go.Abs.Label

theorem p22 {a b : List (List Int)} (ha : a.length ≤ 1024 ∧ ∀ y ∈ a, y.length ≤ 10) (hb : b.length ≤ 1024 ∧ ∀ y ∈ b, y.length ≤ 10) : v22.p (a, b, ()) :=
  ⟨(show a.length ≤ 2000 by omega), (show b.length ≤ 2000 by omega), fun y hy => Nat.le_trans (ha.2 y hy) (by decide), fun y hy => Nat.le_trans (hb.2 y hy) (by decide)⟩
theorem p17 {a b : List Int} (ha : a.length ≤ 1000) (hb : b.length ≤ 1000) : v17.p (a, b, ()) :=
  ⟨(show a.length ≤ 1152921504606846976 by omega), (show b.length ≤ 1152921504606846976 by omega)⟩

theorem bestT_len {n : Nat} {L : List (List Int)} (h : ∀ y ∈ L, y.length ≤ n) : (bestT L).length ≤ n := by
  cases L with
  | nil => exact Nat.zero_le _
  | cons x L =>
    obtain ⟨c1, _, _⟩ := best_fold (bet := betT) order_betL L x
    show (L.foldl (fun b y => if betT y b then y else b) x).length ≤ n
    rcases c1 with e | e
    · rw [e]; exact h x (List.mem_cons_self ..)
    · exact h _ (List.mem_cons_of_mem _ e)
theorem take_len (w : Int) (rs : List (List Int × Int)) (l : List Int) : (takeL w rs l).length ≤ 10 := by
  unfold takeL
  split
  · refine bestT_len (fun y hy => ?_)
    obtain ⟨i, _, rfl⟩ := List.mem_map.1 hy
    exact listed_len _ 10
  · exact Nat.zero_le _

theorem br_false' (b : Bool) (p q : Prop) : br ((Bool.not b) == false) p q ↔ (b = true → p) ∧ (b = false → q) := by
  rw [br_bf]
  cases b <;> simp
end Go.Abs.Label
end

section
/- The label's other statements: errors of steps, lists in order, words that are turned; steps. -/
open Go.Proofs
set_option maxRecDepth 100000
set_option linter.unusedVariables false
namespace Go.Abs.Label

theorem out_no {lo hi y : Int} (h : outOf lo hi y = false) : lo ≤ y ∧ y ≤ hi := by
  unfold outOf at h
  have := of_decide_eq_false h
  omega
theorem out_yes {lo hi y : Int} (h : y < lo ∨ hi < y) : outOf lo hi y = true := by unfold outOf; exact decide_eq_true h
theorem out_in {lo hi y : Int} (h : lo ≤ y ∧ y ≤ hi) : outOf lo hi y = false := by unfold outOf; exact decide_eq_false (by omega)
theorem k215 (hG : Good Try.prog (envOf [(45, mkC [v45]), (46, mkC [v49]), (47, mkC [v46]), (25, mkC [v47])])) : v215.Kept Try.prog 15 := by
  rintro ⟨w, rs, l, x, ⟨⟩⟩ hpre k hk
  change Int at w
  change List (List Int × Int) at rs
  change List Int at l
  change Int at x
  refine aspec hmix hG Try.func15 txp15 (Eq.mpr (eq215 w rs l x k) ?_)
  unfold vc215
  obtain ⟨hs, hl⟩ := hpre
  have hl : l.length ≤ 1000 := hl
  have h45 : v45.p (w, rs, l, ()) := ⟨hs, hl⟩
  refine ⟨h45, ?_⟩
  rw [br_bne]
  refine ⟨fun h => ⟨h45, ?_⟩, fun h => ?_⟩
  · have hk : k (rI (stepErr2 w rs l x)) [] := hk
    unfold stepErr2 at hk
    rw [if_pos h] at hk
    exact hk
  obtain ⟨hg, hL, hB⟩ := label_isB h
  have hcl := clo_lt (w := w) (gd_then hg) (show bitsL l < 1024 by have := hB.2; unfold bitsI at this; omega)
  have hk : k (rI (stepErr2 w rs l x)) [] := hk
  unfold stepErr2 at hk
  rw [if_neg (by omega)] at hk
  have hg0 := guild_spec hg
  have eb : banI w rs (bitsI l) = banned w rs (bitsL l) := banI_nat _ _ _
  have ef : fromI w rs (bitsI l) = ((clo w rs (bitsL l) : Nat) : Int) := fromI_nat _ _ _
  have h47 : v47.p (l, ()) := ⟨hl, hL⟩
  rw [br_false]
  refine ⟨fun h1 => ?_, fun h1 => ?_⟩
  · rw [br_decide]
    refine ⟨fun h2 => ?_, fun h2 => ?_⟩
    · rw [out_yes (by omega), if_pos rfl] at hk; exact hk
    · rw [out_in (by omega), if_neg (by simp)] at hk
      rw [br_true]
      refine ⟨fun h3 => ⟨h47, ⟨hg, hB⟩, ?_⟩, fun h3 => ?_⟩
      · rw [if_pos h3] at hk
        rw [eb, br_false']
        refine ⟨fun h4 => ?_, fun h4 => ?_⟩
        · rw [h4, if_pos rfl] at hk
          rw [br_true]
          exact ⟨fun h => absurd h (by omega), fun _ => hk⟩
        · rw [h4, if_neg (by simp)] at hk; exact hk
      · rw [if_neg h3] at hk
        rw [br_true]
        refine ⟨fun h4 => ⟨h47, ⟨hg, hB⟩, h4, ?_⟩, fun h4 => absurd h4 (by omega)⟩
        have et := bit_test (clo w rs (bitsL l)) x.toNat (by omega)
        rw [show ((x.toNat : Nat) : Int) = x from Int.toNat_of_nonneg h4] at et
        rw [ef]
        cases hb : (clo w rs (bitsL l)).testBit x.toNat with
        | true =>
          rw [hb, if_pos rfl] at hk
          refine br_no ?_ hk
          rw [hb] at et
          have := eq_of_beq et
          rw [this]; rfl
        | false =>
          rw [hb, if_neg (by simp)] at hk
          refine br_yes ?_ hk
          rw [hb] at et
          rw [show shrA .i64 ((clo w rs (bitsL l) : Nat) : Int) x = (((clo w rs (bitsL l)) >>> x.toNat : Nat) : Int) from by have := shr_nat (clo w rs (bitsL l)) x.toNat (by omega); rw [show ((x.toNat : Nat) : Int) = x from Int.toNat_of_nonneg h4] at this; exact this] at et ⊢
          have hlt : clo w rs (bitsL l) >>> x.toNat < 9223372036854775808 := Nat.lt_of_le_of_lt (Nat.shiftRight_le _ _) (by omega)
          rw [show (1 : Int) = ((1 : Nat) : Int) from rfl, land_nat _ 1 hlt (by omega)] at et ⊢
          generalize clo w rs (bitsL l) >>> x.toNat = q at et ⊢
          have h5 := Nat.and_one_is_mod q
          have h6 := Nat.mod_two_eq_zero_or_one q
          rcases h6 with h6 | h6 <;> rw [h5, h6] at et ⊢ <;> simp at et ⊢
  · rw [out_yes (by omega), if_pos rfl] at hk; exact hk

theorem step_err2 (w : Int) (rs : List (List Int × Int)) (l : List Int) (x : Int) : stepErr w rs l x = stepErr2 w rs l x := by
  unfold stepErr2
  by_cases h : labelErr w rs l = 0
  · rw [if_neg (by omega)]
    obtain ⟨hg, hl⟩ := label_ok h
    by_cases h2 : outOf (-1) (w - 1) x = true
    · rw [if_pos h2]
      unfold stepErr
      rw [if_neg (by omega), if_pos h2]
    · have h3 := out_no (by simpa using h2)
      rw [if_neg h2]
      obtain ⟨_, s2, _⟩ := steps_ok (word := x) hg hl (by omega)
      rw [s2]
      unfold isS
      by_cases h4 : x < 0
      · rw [if_neg (show ¬ (0 ≤ x) by omega), if_pos h4]
      · rw [if_pos (show 0 ≤ x by omega), if_neg h4]
  · rw [if_pos h]
    unfold stepErr
    rw [if_pos h]
theorem bneS (a : Int) : ((a != a) == false) = true := by simp
theorem k203 (hG : Good Try.prog (envOf [(11, mkC [v8]), (12, mkC [v9]), (13, mkC [v10]), (14, mkC [v32]), (15, mkC [v215]), (16, mkC [v33]), (17, mkC [v40]), (18, mkC [v34])])) : v203.Kept Try.prog 3 := by
  rintro ⟨w, rs, l, x, s, ⟨⟩⟩ hpre k hk
  change Int at w
  change List (List Int × Int) at rs
  change List Int at l
  change Int at x
  change List Int at s
  refine aspec hmix hG Try.func3 txp3 (Eq.mpr (eq203 w rs l x s k) ?_)
  replace hk : k (rBo true) [] := hk
  unfold vc203
  refine ⟨trivial, ?_⟩
  rw [br_bf]
  refine ⟨fun hs => ⟨trivial, ?_⟩, fun _ => ⟨trivial, hk⟩⟩
  rw [br_bf]
  refine ⟨fun hl => ⟨trivial, br_intro (fun _ => ⟨trivial, hk⟩) (fun hl2 => ?_)⟩, fun _ => ⟨trivial, hk⟩⟩
  have hl := long_no hl
  have hl2 := long_no hl2
  have hsn := steps_len w rs l x
  have h33 : ∀ t : List Int, t.length ≤ 20 → v33.p (w, rs, l, x, t, ()) := fun t ht => ⟨hs, (show l.length ≤ 1000 by omega), (show t.length ≤ 1000 by omega)⟩
  have h40 : ∀ t : List Int, t.length ≤ 20 → v40.p (w, rs, l, x, t, ()) := fun t ht => ⟨hs, (show l.length ≤ 1000 by omega), (show t.length ≤ 1000 by omega)⟩
  have h34 : v34.p (w, rs, l, x, stepsL w rs l x, ()) := ⟨hs, (show l.length ≤ 1000 by omega), (show (stepsL w rs l x).length ≤ 1000 by omega)⟩
  have hlo : longL (stepsL w rs l x) = false := by unfold longL; exact decide_eq_false (by omega)
  have h32 : v32.p (w, rs, l, x, ()) := ⟨hs, (show l.length ≤ 1000 by omega)⟩
  have h215 : v215.p (w, rs, l, x, ()) := ⟨hs, (show l.length ≤ 1000 by omega)⟩
  refine ⟨h32, h215, h33 s hl2, h40 s hl2, br_yes (bneS _) ?_⟩
  rw [← step_err2]
  refine br_yes (bneS _) ⟨trivial, br_no hlo ?_⟩
  rw [br_bne]
  refine ⟨fun h => ?_, fun h => ⟨h34, ?_⟩⟩
  · have e : stepsL w rs l x = [] := by unfold stepsL; rw [if_neg h]
    rw [e]
    exact br_yes rfl ⟨trivial, hk⟩
  · have hh := h
    unfold stepErr at h
    by_cases h0 : labelErr w rs l = 0
    · rw [if_neg (by omega)] at h
      by_cases h1 : outOf (-1) (w - 1) x = true
      · rw [if_pos h1] at h; omega
      · have h1' := out_no (by simpa using h1)
        obtain ⟨hg, hL⟩ := label_ok h0
        obtain ⟨_, s2, s3, _⟩ := steps_ok (word := x) hg hL (by omega)
        rw [hh] at s2
        have : isS w rs (bitsL l) x = true := by
          cases hi : isS w rs (bitsL l) x with
          | true => rfl
          | false => rw [hi] at s2; simp at s2
        rw [(s3 this).2]
        exact br_yes rfl ⟨trivial, hk⟩
    · rw [if_pos h0] at h; exact absurd h h0
end Go.Abs.Label
end

section
/- The contracts put together (printed by a program). -/
open Go.Proofs
set_option maxRecDepth 100000
namespace Go.Abs.Label
theorem hc11 : HasCode Try.prog 11 := hasCode Try.func11 (by kernel_rfl) (by kernel_rfl)
theorem g8 : Keeps Try.prog 11 [v8] := keeps1 hc11 (k8 good_nil)
theorem hc12 : HasCode Try.prog 12 := hasCode Try.func12 (by kernel_rfl) (by kernel_rfl)
theorem g9 : Keeps Try.prog 12 [v9] := keeps1 hc12 (k9 good_nil)
theorem hc68 : HasCode Try.prog 68 := hasCode Try.func68 (by kernel_rfl) (by kernel_rfl)
theorem g77 : Keeps Try.prog 68 [v77] := keeps1 hc68 (k77 good_nil)
theorem hc34 : HasCode Try.prog 34 := hasCode Try.func34 (by kernel_rfl) (by kernel_rfl)
theorem g37 : Keeps Try.prog 34 [v37] := keeps1 hc34 (k37 (g77.add (g76 good_nil)))
theorem hc41 : HasCode Try.prog 41 := hasCode Try.func41 (by kernel_rfl) (by kernel_rfl)
theorem g38 : Keeps Try.prog 41 [v38] := keeps1 hc41 (k38 (g37.add (g77.add (g76 good_nil))))
theorem hc36 : HasCode Try.prog 36 := hasCode Try.func36 (by kernel_rfl) (by kernel_rfl)
theorem g39 : Keeps Try.prog 36 [v39] := keeps1 hc36 (k39 good_nil)
theorem hc75 : HasCode Try.prog 75 := hasCode Try.func75 (by kernel_rfl) (by kernel_rfl)
theorem g82 : Keeps Try.prog 75 [v82] := keeps1 hc75 (k82 good_nil)
theorem hc91 : HasCode Try.prog 91 := hasCode Try.func91 (by kernel_rfl) (by kernel_rfl)
theorem g96 : Keeps Try.prog 91 [v96] := keeps1 hc91 (k96 (g82.add good_nil))
theorem hc74 : HasCode Try.prog 74 := hasCode Try.func74 (by kernel_rfl) (by kernel_rfl)
theorem g81 : Keeps Try.prog 74 [v81] := keeps1 hc74 (k81 (g96.add good_nil))
theorem hc43 : HasCode Try.prog 43 := hasCode Try.func43 (by kernel_rfl) (by kernel_rfl)
theorem g50 : Keeps Try.prog 43 [v50] := keeps1 hc43 (k50 (g81.add good_nil))
theorem hc70 : HasCode Try.prog 70 := hasCode Try.func70 (by kernel_rfl) (by kernel_rfl)
theorem g52 : Keeps Try.prog 70 [v52] := keeps1 hc70 (k52 good_nil)
theorem hc77 : HasCode Try.prog 77 := hasCode Try.func77 (by kernel_rfl) (by kernel_rfl)
theorem g83a : Keeps Try.prog 77 [v83a] := keeps1 hc77 (k83a (g52.add good_nil))
theorem hc72 : HasCode Try.prog 72 := hasCode Try.func72 (by kernel_rfl) (by kernel_rfl)
theorem g54 : Keeps Try.prog 72 [v54] := keeps1 hc72 (k54 (g50.add good_nil))
theorem hc71 : HasCode Try.prog 71 := hasCode Try.func71 (by kernel_rfl) (by kernel_rfl)
theorem g53 : Keeps Try.prog 71 [v53] := keeps1 hc71 (k53 (g54.add good_nil))
theorem g83b : Keeps Try.prog 77 [v83b] := keeps1 hc77 (k83b (g53.add good_nil))
theorem hc73 : HasCode Try.prog 73 := hasCode Try.func73 (by kernel_rfl) (by kernel_rfl)
theorem g55 : Keeps Try.prog 73 [v55] := keeps1 hc73 (k55 (g50.add good_nil))
theorem g83c : Keeps Try.prog 77 [v83c] := keeps1 hc77 (k83c (g55.add good_nil))
theorem hc69 : HasCode Try.prog 69 := hasCode Try.func69 (by kernel_rfl) (by kernel_rfl)
theorem g51a_51b_51c : Keeps Try.prog 69 [v51a, v51b, v51c] := ⟨hc69.code, fun v' hm => by simp at hm; rcases hm with rfl | rfl | rfl; exact (k51a (g83a.add good_nil)); exact (k51b (g83b.add good_nil)); exact (k51c (g83c.add good_nil))⟩
theorem hc40 : HasCode Try.prog 40 := hasCode Try.func40 (by kernel_rfl) (by kernel_rfl)
theorem g15 : Keeps Try.prog 40 [v15] := keeps1 hc40 (k15 (g50.add (g51a_51b_51c.add good_nil)))
theorem hc50 : HasCode Try.prog 50 := hasCode Try.func50 (by kernel_rfl) (by kernel_rfl)
theorem g57 : Keeps Try.prog 50 [v57] := keeps1 hc50 (k57 good_nil)
theorem hc49 : HasCode Try.prog 49 := hasCode Try.func49 (by kernel_rfl) (by kernel_rfl)
theorem g73 : Keeps Try.prog 49 [v73] := keeps1 hc49 (k73 (g57.add good_nil))
theorem hc42 : HasCode Try.prog 42 := hasCode Try.func42 (by kernel_rfl) (by kernel_rfl)
theorem g42 : Keeps Try.prog 42 [v42] := keeps1 hc42 (k42 (g15.add (g54.add (g73.add good_nil))))
theorem hc76 : HasCode Try.prog 76 := hasCode Try.func76 (by kernel_rfl) (by kernel_rfl)
theorem g78 : Keeps Try.prog 76 [v78] := keeps1 hc76 (k78 good_nil)
theorem hc100 : HasCode Try.prog 100 := hasCode Try.func100 (by kernel_rfl) (by kernel_rfl)
theorem g101 : Keeps Try.prog 100 [v101] := keeps1 hc100 (k101 good_nil)
theorem hc88 : HasCode Try.prog 88 := hasCode Try.func88 (by kernel_rfl) (by kernel_rfl)
theorem g87 : Keeps Try.prog 88 [v87] := keeps1 hc88 (k87 (g101.add good_nil))
theorem hc61 : HasCode Try.prog 61 := hasCode Try.func61 (by kernel_rfl) (by kernel_rfl)
theorem g66 : Keeps Try.prog 61 [v66] := keeps1 hc61 (k66 (g87.add good_nil))
theorem hc83 : HasCode Try.prog 83 := hasCode Try.func83 (by kernel_rfl) (by kernel_rfl)
theorem g79 : Keeps Try.prog 83 [v79] := keeps1 hc83 (k79 (g73.add (g66.add good_nil)))
theorem hc48 : HasCode Try.prog 48 := hasCode Try.func48 (by kernel_rfl) (by kernel_rfl)
theorem g59 : Keeps Try.prog 48 [v59] := keeps1 hc48 (k59 good_nil)
theorem hc53 : HasCode Try.prog 53 := hasCode Try.func53 (by kernel_rfl) (by kernel_rfl)
theorem g43 : Keeps Try.prog 53 [v43] := keeps1 hc53 (k43 (g78.add (g57.add (g79.add (g59.add good_nil)))))
theorem hc62 : HasCode Try.prog 62 := hasCode Try.func62 (by kernel_rfl) (by kernel_rfl)
theorem g44 : Keeps Try.prog 62 [v44] := keeps1 hc62 (k44 good_nil)
theorem hc35 : HasCode Try.prog 35 := hasCode Try.func35 (by kernel_rfl) (by kernel_rfl)
theorem g11 : Keeps Try.prog 35 [v11] := keeps1 hc35 (k11 (g42.add (g43.add (g44.add good_nil))))
theorem hc84 : HasCode Try.prog 84 := hasCode Try.func84 (by kernel_rfl) (by kernel_rfl)
theorem g80 : Keeps Try.prog 84 [v80] := keeps1 hc84 (k80 (g73.add (g59.add good_nil)))
theorem g83d : Keeps Try.prog 77 [v83d] := keeps1 hc77 (k83d (g80.add good_nil))
theorem g51d : Keeps Try.prog 69 [v51d] := keeps1 hc69 (k51d (g83d.add good_nil))
theorem hc54 : HasCode Try.prog 54 := hasCode Try.func54 (by kernel_rfl) (by kernel_rfl)
theorem g48 : Keeps Try.prog 54 [v48] := keeps1 hc54 (k48 (g43.add (g79.add (g59.add (g80.add (g51d.add good_nil))))))
theorem hc37 : HasCode Try.prog 37 := hasCode Try.func37 (by kernel_rfl) (by kernel_rfl)
theorem g13 : Keeps Try.prog 37 [v13] := keeps1 hc37 (k13 (g42.add (g48.add good_nil)))
theorem hc16 : HasCode Try.prog 16 := hasCode Try.func16 (by kernel_rfl) (by kernel_rfl)
theorem g33 : Keeps Try.prog 16 [v33] := keeps1 hc16 (k33 (g42.add (g50.add (g73.add (g59.add (g57.add good_nil))))))
theorem hc78 : HasCode Try.prog 78 := hasCode Try.func78 (by kernel_rfl) (by kernel_rfl)
theorem g91 : Keeps Try.prog 78 [v91] := keeps1 hc78 (k91 (g73.add (g59.add good_nil)))
theorem g83e : Keeps Try.prog 77 [v83e] := keeps1 hc77 (k83e (g91.add good_nil))
theorem hc79 : HasCode Try.prog 79 := hasCode Try.func79 (by kernel_rfl) (by kernel_rfl)
theorem g92 : Keeps Try.prog 79 [v92] := keeps1 hc79 (k92 good_nil)
theorem hc80 : HasCode Try.prog 80 := hasCode Try.func80 (by kernel_rfl) (by kernel_rfl)
theorem g93 : Keeps Try.prog 80 [v93] := keeps1 hc80 (k93 good_nil)
theorem hc95 : HasCode Try.prog 95 := hasCode Try.func95 (by kernel_rfl) (by kernel_rfl)
theorem g105 : Keeps Try.prog 95 [v105] := keeps1 hc95 (k105 good_nil)
theorem hc94 : HasCode Try.prog 94 := hasCode Try.func94 (by kernel_rfl) (by kernel_rfl)
theorem g104 : Keeps Try.prog 94 [v104] := keeps1 hc94 (k104 good_nil)
theorem hc81 : HasCode Try.prog 81 := hasCode Try.func81 (by kernel_rfl) (by kernel_rfl)
theorem g94 : Keeps Try.prog 81 [v94] := keeps1 hc81 (k94 (g105.add (g104.add (g44.add (g33.add good_nil)))))
theorem hc44 : HasCode Try.prog 44 := hasCode Try.func44 (by kernel_rfl) (by kernel_rfl)
theorem g75 : Keeps Try.prog 44 [v75] := keeps1 hc44 (k75 (g78.add (g57.add (g59.add (g79.add (g83e.add (g73.add (g92.add (g93.add (g94.add good_nil))))))))))
theorem hc14 : HasCode Try.prog 14 := hasCode Try.func14 (by kernel_rfl) (by kernel_rfl)
theorem g32 : Keeps Try.prog 14 [v32] := keeps1 hc14 (k32 (g42.add (g50.add (g75.add good_nil))))
theorem hc55 : HasCode Try.prog 55 := hasCode Try.func55 (by kernel_rfl) (by kernel_rfl)
theorem g58 : Keeps Try.prog 55 [v58] := keeps1 hc55 (k58 (g43.add (g59.add good_nil)))
theorem hc52 : HasCode Try.prog 52 := hasCode Try.func52 (by kernel_rfl) (by kernel_rfl)
theorem g67 : Keeps Try.prog 52 [v67] := keeps1 hc52 (k67 good_nil)
theorem hc87 : HasCode Try.prog 87 := hasCode Try.func87 (by kernel_rfl) (by kernel_rfl)
theorem g86 : Keeps Try.prog 87 [v86] := keeps1 hc87 (k86 (g59.add good_nil))
theorem hc98 : HasCode Try.prog 98 := hasCode Try.func98 (by kernel_rfl) (by kernel_rfl)
theorem g99 : Keeps Try.prog 98 [v99] := keeps1 hc98 (k99 (g86.add good_nil))
theorem hc86 : HasCode Try.prog 86 := hasCode Try.func86 (by kernel_rfl) (by kernel_rfl)
theorem g85 : Keeps Try.prog 86 [v85] := keeps1 hc86 (k85 (g99.add good_nil))
theorem hc57 : HasCode Try.prog 57 := hasCode Try.func57 (by kernel_rfl) (by kernel_rfl)
theorem g61a : Keeps Try.prog 57 [v61a] := keeps1 hc57 (k61a (g58.add (g67.add (g66.add (g86.add (g85.add good_nil))))))
theorem hc101 : HasCode Try.prog 101 := hasCode Try.func101 (by kernel_rfl) (by kernel_rfl)
theorem g102 : Keeps Try.prog 101 [v102] := keeps1 hc101 (k102 good_nil)
theorem hc89 : HasCode Try.prog 89 := hasCode Try.func89 (by kernel_rfl) (by kernel_rfl)
theorem g89 : Keeps Try.prog 89 [v89] := keeps1 hc89 (k89 (g102.add good_nil))
theorem hc65 : HasCode Try.prog 65 := hasCode Try.func65 (by kernel_rfl) (by kernel_rfl)
theorem g70 : Keeps Try.prog 65 [v70] := keeps1 hc65 (k70 (g89.add good_nil))
theorem hc85 : HasCode Try.prog 85 := hasCode Try.func85 (by kernel_rfl) (by kernel_rfl)
theorem g84 : Keeps Try.prog 85 [v84] := keeps1 hc85 (k84 (g70.add good_nil))
theorem hc56 : HasCode Try.prog 56 := hasCode Try.func56 (by kernel_rfl) (by kernel_rfl)
theorem g60 : Keeps Try.prog 56 [v60] := keeps1 hc56 (k60 (g44.add (g84.add good_nil)))
theorem hc24 : HasCode Try.prog 24 := hasCode Try.func24 (by kernel_rfl) (by kernel_rfl)
theorem g18 : Keeps Try.prog 24 [v18] := keeps1 hc24 (k18 (g42.add (g50.add (g57.add (g58.add (g61a.add (g60.add good_nil)))))))
theorem hc58 : HasCode Try.prog 58 := hasCode Try.func58 (by kernel_rfl) (by kernel_rfl)
theorem g63 : Keeps Try.prog 58 [v63] := keeps1 hc58 (k63 (g43.add good_nil))
theorem g61b : Keeps Try.prog 57 [v61b] := keeps1 hc57 (k61b (g63.add (g67.add (g66.add (g86.add (g85.add good_nil))))))
theorem hc60 : HasCode Try.prog 60 := hasCode Try.func60 (by kernel_rfl) (by kernel_rfl)
theorem g65 : Keeps Try.prog 60 [v65] := keeps1 hc60 (k65 (g66.add good_nil))
theorem hc59 : HasCode Try.prog 59 := hasCode Try.func59 (by kernel_rfl) (by kernel_rfl)
theorem g64 : Keeps Try.prog 59 [v64] := keeps1 hc59 (k64 (g65.add good_nil))
theorem hc28 : HasCode Try.prog 28 := hasCode Try.func28 (by kernel_rfl) (by kernel_rfl)
theorem g20 : Keeps Try.prog 28 [v20] := keeps1 hc28 (k20 (g42.add (g43.add (g63.add (g61b.add (g64.add (g66.add (g60.add good_nil))))))))
theorem hc64 : HasCode Try.prog 64 := hasCode Try.func64 (by kernel_rfl) (by kernel_rfl)
theorem g69 : Keeps Try.prog 64 [v69] := keeps1 hc64 (k69 (g70.add good_nil))
theorem hc63 : HasCode Try.prog 63 := hasCode Try.func63 (by kernel_rfl) (by kernel_rfl)
theorem g68 : Keeps Try.prog 63 [v68] := keeps1 hc63 (k68 (g69.add good_nil))
theorem hc30 : HasCode Try.prog 30 := hasCode Try.func30 (by kernel_rfl) (by kernel_rfl)
theorem g23 : Keeps Try.prog 30 [v23] := keeps1 hc30 (k23 (g42.add (g48.add (g67.add (g44.add (g68.add good_nil))))))
theorem hc23 : HasCode Try.prog 23 := hasCode Try.func23 (by kernel_rfl) (by kernel_rfl)
theorem g25 : Keeps Try.prog 23 [v25] := keeps1 hc23 (k25 (g42.add (g67.add (g43.add (g48.add good_nil)))))
theorem hc66 : HasCode Try.prog 66 := hasCode Try.func66 (by kernel_rfl) (by kernel_rfl)
theorem g72 : Keeps Try.prog 66 [v72] := keeps1 hc66 (k72 (g90 good_nil))
theorem hc32 : HasCode Try.prog 32 := hasCode Try.func32 (by kernel_rfl) (by kernel_rfl)
theorem g27 : Keeps Try.prog 32 [v27] := keeps1 hc32 (k27 (g42.add (g50.add (g72.add (g73.add (g48.add (g43.add (g57.add (g59.add good_nil)))))))))
theorem hc29 : HasCode Try.prog 29 := hasCode Try.func29 (by kernel_rfl) (by kernel_rfl)
theorem g17 : Keeps Try.prog 29 [v17] := keeps1 hc29 (k17 good_nil)
theorem hc26 : HasCode Try.prog 26 := hasCode Try.func26 (by kernel_rfl) (by kernel_rfl)
theorem g56 : Keeps Try.prog 26 [v56] := keeps1 hc26 (k56 good_nil)
theorem hc51 : HasCode Try.prog 51 := hasCode Try.func51 (by kernel_rfl) (by kernel_rfl)
theorem g16 : Keeps Try.prog 51 [v16] := keeps1 hc51 (k16 (g56.add good_nil))
theorem hc45 : HasCode Try.prog 45 := hasCode Try.func45 (by kernel_rfl) (by kernel_rfl)
theorem g45 : Keeps Try.prog 45 [v45] := keeps1 hc45 (k45 (g16.add (g56.add good_nil)))
theorem hc25 : HasCode Try.prog 25 := hasCode Try.func25 (by kernel_rfl) (by kernel_rfl)
theorem g47 : Keeps Try.prog 25 [v47] := keeps1 hc25 (k47 good_nil)
theorem hc17 : HasCode Try.prog 17 := hasCode Try.func17 (by kernel_rfl) (by kernel_rfl)
theorem g40 : Keeps Try.prog 17 [v40] := keeps1 hc17 (k40 (g45.add (g47.add good_nil)))
theorem hc39 : HasCode Try.prog 39 := hasCode Try.func39 (by kernel_rfl) (by kernel_rfl)
theorem g41 : Keeps Try.prog 39 [v41] := keeps1 hc39 (k41 good_nil)
theorem hc38 : HasCode Try.prog 38 := hasCode Try.func38 (by kernel_rfl) (by kernel_rfl)
theorem g22 : Keeps Try.prog 38 [v22] := keeps1 hc38 (k22 (g17.add good_nil))
theorem hc13 : HasCode Try.prog 13 := hasCode Try.func13 (by kernel_rfl) (by kernel_rfl)
theorem g10 : Keeps Try.prog 13 [v10] := keeps1 hc13 (k10 (g37.add (g38.add (g39.add (g11.add (g13.add (g33.add (g32.add (g18.add (g20.add (g23.add (g25.add (g27.add (g17.add (g40.add (g41.add (g22.add good_nil)))))))))))))))))
theorem hc47 : HasCode Try.prog 47 := hasCode Try.func47 (by kernel_rfl) (by kernel_rfl)
theorem g46 : Keeps Try.prog 47 [v46] := keeps1 hc47 (k46 (g47.add good_nil))
theorem hc46 : HasCode Try.prog 46 := hasCode Try.func46 (by kernel_rfl) (by kernel_rfl)
theorem g49 : Keeps Try.prog 46 [v49] := keeps1 hc46 (k49 (g46.add (g47.add good_nil)))
theorem hc15 : HasCode Try.prog 15 := hasCode Try.func15 (by kernel_rfl) (by kernel_rfl)
theorem g215 : Keeps Try.prog 15 [v215] := keeps1 hc15 (k215 (g45.add (g49.add (g46.add (g47.add good_nil)))))
theorem hc18 : HasCode Try.prog 18 := hasCode Try.func18 (by kernel_rfl) (by kernel_rfl)
theorem g34 : Keeps Try.prog 18 [v34] := keeps1 hc18 (k34 (g40.add good_nil))
theorem hc3 : HasCode Try.prog 3 := hasCode Try.func3 (by kernel_rfl) (by kernel_rfl)
theorem g203 : Keeps Try.prog 3 [v203] := keeps1 hc3 (k203 (g8.add (g9.add (g10.add (g32.add (g215.add (g33.add (g40.add (g34.add good_nil)))))))))
end Go.Abs.Label
end

