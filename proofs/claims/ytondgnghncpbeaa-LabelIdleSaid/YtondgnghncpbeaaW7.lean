/- Part 7 of the road to this seat's statements: lemmas about a small interpreter over the model's code, and about the functions that it is used on. No condition of its own. -/
import Derived.Test.YtondgnghncpbeaaProg
import Derived.Test.YtondgnghncpbeaaW6

section
/- The label's functions keep their contracts: the examples; what follows, as the statements ask it. -/
open Go.Proofs
set_option maxRecDepth 100000
set_option linter.unusedVariables false
namespace Go.Abs.Label

theorem k76t (hG : Good Try.prog (envOf [])) : v76t.Kept Try.prog 67 := by
  rintro ⟨w, rs, ⟨⟩⟩ hpre k hk
  change Int at w
  change List (List Int × Int) at rs
  refine aspec hmix hG Try.func67 tx76 (Eq.mpr (eq76t w rs k) ?_)
  replace hk : k (.agg [rI w, .imm tRu rs true]) [] := hk
  unfold vc76t
  exact hk

theorem guild_kept : ∀ us cs k, cGuild.run us cs k → ASpec Try.prog 67 us cs k := by
  rintro us cs k ⟨h1, h2⟩
  have h1 : guildPre us cs := h1
  unfold guildPre at h1
  split at h1
  · rename_i n l f _
    cases f with
    | false => exact k76 good_nil (n, l, ()) trivial k h2
    | true => exact k76t good_nil (n, l, ()) trivial k h2
  · exact h1.elim
theorem g76 {l : List (FuncId × Contract)} (hG : Good Try.prog (envOf l)) : Good Try.prog (envOf ((67, cGuild) :: l)) := by
  obtain ⟨c, hc⟩ := Option.isSome_iff_exists.1 (show Try.f67.body.isSome = true by kernel_rfl)
  exact good_cons hG Try.func67 hc (by kernel_rfl) guild_kept

theorem k37 (hG : Good Try.prog (envOf [(68, mkC [v77]), (67, cGuild)])) : v37.Kept Try.prog 34 := by
  rintro ⟨⟩ hpre k hk
  refine aspec hmix hG Try.func34 tx37 (Eq.mpr (eq37  k) ?_)
  replace hk : k (.agg [rI 6, .imm tRu fiveR true]) [] := hk
  unfold vc37
  exact ⟨trivial, trivial, trivial, trivial, trivial, trivial, hk⟩

theorem k38 (hG : Good Try.prog (envOf [(34, mkC [v37]), (68, mkC [v77]), (67, cGuild)])) : v38.Kept Try.prog 41 := by
  rintro ⟨⟩ hpre k hk
  refine aspec hmix hG Try.func41 tx38 (Eq.mpr (eq38  k) ?_)
  replace hk : k (.agg [rI 6, .imm tRu sixR false]) [] := hk
  unfold vc38
  exact ⟨trivial, trivial, by decide, by decide, trivial, hk⟩

/-! ### lists of words, and sets -/
theorem bits_listed {b n : Nat} (h : b < 2 ^ n) : bitsL (listed b n) = b := by
  apply Nat.eq_of_testBit_eq
  intro i
  rw [Bool.eq_iff_iff, bitsL_test]
  constructor
  · rintro ⟨x, hx, rfl⟩
    obtain ⟨j, rfl, _, hj⟩ := listed_mem.1 hx
    exact hj
  · intro hi
    have : i < n := by
      rcases Nat.lt_or_ge i n with h' | h'
      · exact h'
      · rw [Nat.testBit_lt_two_pow (Nat.lt_of_lt_of_le h (Nat.pow_le_pow_right (by omega) h'))] at hi
        cases hi
    exact ⟨(i : Int), listed_mem.2 ⟨i, rfl, this, hi⟩, rfl⟩
theorem lt_of_tests {b n : Nat} (h : ∀ i, b.testBit i = true → i < n) : b < 2 ^ n := by
  refine Nat.lt_pow_two_of_testBit b (fun i hi => ?_)
  cases hb : b.testBit i with
  | false => rfl
  | true => have := h i hb; omega
theorem bits_ltw {l : List Int} {w : Int} (h : isList l w = true) : bitsL l < 2 ^ w.toNat := by
  refine lt_of_tests (fun i hi => ?_)
  obtain ⟨x, hx, rfl⟩ := (bitsL_test l i).1 hi
  have := (isList_spec.1 h).1 x hx
  omega
theorem listed_bits {l : List Int} {w : Int} (h : isList l w = true) : listed (bitsL l) w.toNat = l := by
  refine sorted_ext (· < ·) (fun a => Int.lt_irrefl a) (fun a b c h1 h2 => Int.lt_trans h1 h2) _ _ (listed_sorted _ _) (isList_spec.1 h).2 (fun x => ?_)
  rw [listed_mem]
  constructor
  · rintro ⟨i, rfl, h1, h2⟩
    obtain ⟨y, hy, e⟩ := (bitsL_test l i).1 h2
    have := (isList_spec.1 h).1 y hy
    have : y = (i : Int) := by omega
    rw [← this]; exact hy
  · intro hx
    have := (isList_spec.1 h).1 x hx
    exact ⟨x.toNat, by omega, by omega, (bitsL_test l _).2 ⟨x, hx, rfl⟩⟩
theorem isList_len {l : List Int} {w : Int} (h : isList l w = true) : l.length ≤ w.toNat := by
  rw [← listed_bits h]; exact listed_len _ _
theorem isList_listed (b : Nat) {w : Int} (h : 0 ≤ w) : isList (listed b w.toNat) w = true := by
  have := listed_isList b w.toNat
  rwa [Int.toNat_of_nonneg h] at this
theorem clo_ltw {w : Int} {rs : List (List Int × Int)} (hg : Gd w rs) {b : Nat} (hb : b < 2 ^ w.toNat) : clo w rs b < 2 ^ w.toNat := by
  refine lt_of_tests (fun i hi => ?_)
  have hr : thensIn w.toNat rs := fun r hr => by have := gd_w hg r hr; have := guild_spec hg; omega
  rcases iter_new hr (w.toNat + 1) b hi with h | h
  · rcases Nat.lt_or_ge i w.toNat with h' | h'
    · exact h'
    · rw [Nat.testBit_lt_two_pow (Nat.lt_of_lt_of_le hb (Nat.pow_le_pow_right (by omega) h'))] at h
      cases h
  · exact h
theorem fol_bits {w : Int} {rs : List (List Int × Int)} {l : List Int} (hg : Gd w rs) (hl : isList l w = true) : folL w rs l = listed (clo w rs (bitsL l)) w.toNat := by
  unfold folL
  have h0 : labelErr w rs l = 0 := by
    unfold labelErr
    rw [if_neg (by simpa using hg), if_pos hl]
  rw [if_pos h0]
  unfold listedI fromI bitsI
  rw [Int.toNat_natCast, Int.toNat_natCast]

theorem k31 (hG : Good Try.prog (envOf [(35, mkC [v11]), (37, mkC [v13]), (26, mkC [v56]), (25, mkC [v47])])) : v31.Kept Try.prog 20 := by
  rintro ⟨w, rs, l, ⟨⟩⟩ hpre k hk
  change Int at w
  change List (List Int × Int) at rs
  change List Int at l
  refine aspec hmix hG Try.func20 tx31 (Eq.mpr (eq31 w rs l k) ?_)
  replace hk : k (.tup [rI (fromI w rs (bitsI l)), rBo (banI w rs (bitsI l)), rBo true]) [] := hk
  unfold vc31
  obtain ⟨hg, hl⟩ := hpre
  have hg : Gd w rs := hg
  have hl : isList l w = true := hl
  obtain ⟨hw1, hw2, hrl, _⟩ := guild_spec hg
  have h0 : labelErr w rs l = 0 := by
    unfold labelErr
    rw [if_neg (by simpa using hg), if_pos hl]
  obtain ⟨_, hl9, hbB⟩ := label_isB h0
  have hlen := isList_len hl
  have hls : isList (folL w rs l) w = true := by rw [fol_bits hg hl]; exact isList_listed _ (by omega)
  have hfl := isList_len hls
  have hbw := bits_ltw hl
  have hcw := clo_ltw hg hbw
  have ef : bitsI (folL w rs l) = fromI w rs (bitsI l) := by
    rw [fol_bits hg hl]
    unfold bitsI fromI
    rw [bits_listed hcw, Int.toNat_natCast]
  have eb : banL w rs l = banI w rs (bitsI l) := by unfold banL; rw [h0]; rfl
  have efB := gd_isB hg hbB
  refine ⟨⟨gd_small hg, (show l.length ≤ 1000 by omega)⟩, ⟨gd_small hg, (show l.length ≤ 1000 by omega)⟩, ?_⟩
  rw [h0, br_bf]
  refine ⟨fun _ => ?_, fun h => by cases h⟩
  rw [br_bf]
  refine ⟨fun _ => ⟨⟨(show (folL w rs l).length ≤ 1152921504606846976 by omega), (show (0 : Int) ≤ w by omega), (show w ≤ 1000 by omega)⟩, ?_⟩, fun h => by cases h⟩
  rw [hls, br_not]

  refine ⟨fun h => (by cases h), fun _ => ⟨⟨(show (folL w rs l).length ≤ 1000 by omega), list_inL (by omega) hls⟩, ⟨(show l.length ≤ 1000 by omega), hl9⟩, ?_⟩⟩
  have e3 : (bitsA .and .i64 (fromI w rs (bitsI l)) (bitsI l) == bitsI l) = true := by
    rw [and_has efB hbB]
    unfold hasI fromI bitsI
    rw [Int.toNat_natCast, Int.toNat_natCast]
    exact clo_sub _ _ _
  rw [ef, eb, e3]
  exact hk

def shortB (x : List Int) : Bool := decide (x.length ≤ 1000)
theorem k10 (hG : Good Try.prog (envOf [(34, mkC [v37]), (41, mkC [v38]), (36, mkC [v39]), (35, mkC [v11]), (37, mkC [v13]), (16, mkC [v33]), (14, mkC [v32]), (24, mkC [v18]), (28, mkC [v20]), (30, mkC [v23]), (23, mkC [v25]), (32, mkC [v27]), (29, mkC [v17]), (17, mkC [v40]), (39, mkC [v41]), (38, mkC [v22])])) : v10.Kept Try.prog 13 := by
  rintro ⟨⟩ hpre k hk
  refine aspec hmix hG Try.func13 tx10 (Eq.mpr (eq10  k) ?_)
  replace hk : k (rBo true) [] := hk
  unfold vc10
  have l5 : fiveR.length = 5 := rfl
  have s5 : smallG fiveR := by decide
  have s6 : smallG sixR := by decide
  have hr : reaL 6 fiveR [0, 1, 2, 3, 4, 5] 3 = [[0, 1], [0, 5], [2], [3]] := by
    have e1 : wordErr 6 fiveR [0, 1, 2, 3, 4, 5] 3 = 0 := by decide
    have e2 : (minE (goodsR 6 fiveR (andI 0 3) (bitsI [0, 1, 2, 3, 4, 5]))).map (fun e => listI e.2.1) = [[0, 1], [2], [3], [0, 5]] := by decide
    unfold reaL listsE
    rw [if_pos e1, e2]
    exact (sortLL_unique (by decide) (by decide)).symm
  have hkey : keyL 6 fiveR [0, 1, 2, 3, 4, 5] = [[0, 5]] := by
    have e1 : labelErr 6 fiveR [0, 1, 2, 3, 4, 5] = 0 := by decide
    have e2 : (fewE (minE (goodsK 6 fiveR (fromI 6 fiveR (bitsI [0, 1, 2, 3, 4, 5])) (bitsI [0, 1, 2, 3, 4, 5])))).map (fun e => listI e.2.1) = [[0, 5]] := by decide
    unfold keyL listsE
    rw [if_pos e1, e2]
    exact (sortLL_unique (by decide) (by decide)).symm
  have hst : (stepsL 6 fiveR [0, 5] 3).length ≤ 12 := by
    unfold stepsL
    split
    · exact stepL_len _ _ _ _
    · exact Nat.zero_le _
  have hfo : folL 6 fiveR [0, 5] = [0, 1, 2, 3, 4, 5] := by decide
  have hta : takeL 6 fiveR [2, 3, 4] = [4] := by decide
  have hid : idleB 6 fiveR 0 = false := by decide
  rw [hr, hkey, hfo, hta, hid]
  have p2 : ∀ l : List Int, l.length ≤ 12 → v11.p (6, fiveR, l, ()) := fun l h => ⟨s5, (show l.length ≤ 1000 by omega)⟩
  have p13 : ∀ l : List Int, l.length ≤ 12 → v13.p (6, fiveR, l, ()) := fun l h => ⟨s5, (show l.length ≤ 1000 by omega)⟩
  have p33 : ∀ (l : List Int) (x : Int) (s : List Int), l.length ≤ 12 → s.length ≤ 12 → v33.p (6, fiveR, l, x, s, ()) := fun l x s h h2 => ⟨s5, (show l.length ≤ 1000 by omega), (show s.length ≤ 1000 by omega)⟩
  have p40 : ∀ (l : List Int) (x : Int) (s : List Int), l.length ≤ 12 → s.length ≤ 12 → v40.p (6, fiveR, l, x, s, ()) := fun l x s h h2 => ⟨s5, (show l.length ≤ 1000 by omega), (show s.length ≤ 1000 by omega)⟩
  have p32 : ∀ (l : List Int) (x : Int), l.length ≤ 12 → v32.p (6, fiveR, l, x, ()) := fun l x h => ⟨s5, (show l.length ≤ 1000 by omega)⟩
  have p18 : ∀ (l : List Int) (x : Int), l.length ≤ 12 → v18.p (6, fiveR, l, x, ()) := fun l x h => ⟨s5, (show l.length ≤ 1000 by omega)⟩
  have p20 : ∀ (l : List Int), l.length ≤ 12 → v20.p (6, fiveR, l, ()) := fun l h => ⟨s5, (show l.length ≤ 1000 by omega)⟩
  have p23 : ∀ (l : List Int), l.length ≤ 12 → v23.p (6, fiveR, l, ()) := fun l h => ⟨s5, (show l.length ≤ 1000 by omega)⟩
  have p17 : ∀ (l m : List Int), l.length ≤ 12 → m.length ≤ 12 → v17.p (l, m, ()) := fun l m h h2 => ⟨(show l.length ≤ 1152921504606846976 by omega), (show m.length ≤ 1152921504606846976 by omega)⟩
  have p22 : ∀ (l m : List (List Int)), l.length ≤ 12 → m.length ≤ 12 → l.all shortB = true → m.all shortB = true → v22.p (l, m, ()) := fun l m h h2 h3 h4 => ⟨(show l.length ≤ 2000 by omega), (show m.length ≤ 2000 by omega), fun x hx => of_decide_eq_true (List.all_eq_true.1 h3 x hx), fun x hx => of_decide_eq_true (List.all_eq_true.1 h4 x hx)⟩
  refine ⟨trivial, trivial, trivial, p2 _ (by decide), trivial, p2 _ (by decide), trivial, p13 _ (by decide), trivial, p13 _ (by decide), trivial, trivial, p33 _ _ _ (by decide) (by decide), trivial, trivial, p33 _ _ _ (by decide) (by decide), trivial, trivial, p33 _ _ _ (by decide) (by decide), trivial, trivial, p33 _ _ _ (by decide) (by decide), trivial, p33 _ _ _ (by decide) (by decide), trivial, p32 _ _ (by decide), trivial, p32 _ _ (by decide), trivial, p18 _ _ (by decide), trivial, p20 _ (by decide), trivial, p23 _ (by decide), s5, s6, s5, s5, trivial, p17 _ _ (by decide) (by decide), trivial, p40 _ _ _ (by decide) hst, trivial, trivial, trivial, trivial, trivial, p22 _ _ (by decide) (by decide) (by decide) (by decide), ?_⟩
  rw [br_bt]
  exact ⟨fun _ => ⟨trivial, trivial, p22 _ _ (by decide) (by decide) (by decide) (by decide), trivial, p17 _ _ (by decide) (by decide), hk⟩, fun h => absurd h (by decide)⟩
end Go.Abs.Label
end

section
/- Conditions and their equations, printed by a program. -/
open Go.Proofs
set_option maxRecDepth 100000
set_option linter.unusedVariables false
namespace Go.Abs.Label
end Go.Abs.Label
end

section
/- The label's statements: which guilds are valid, what follows, what is banned. -/
open Go.Proofs
set_option maxRecDepth 100000
set_option linter.unusedVariables false
namespace Go.Abs.Label
theorem br_yes {b : Bool} {p q : Prop} (h : b = true) (hp : p) : br b p q := by subst h; exact hp
theorem br_no {b : Bool} {p q : Prop} (h : b = false) (hq : q) : br b p q := by subst h; exact hq
end Go.Abs.Label
end

section
/- Plain laws of labels: reasons, keys, what is taken, idle rules: two ways agree. -/
open Go.Proofs
set_option maxRecDepth 100000
set_option linter.unusedVariables false
namespace Go.Abs.Label

/-! ### what follows -/
theorem pow10 {w : Int} (h : w ≤ 10) : 2 ^ w.toNat ≤ 1024 := Nat.pow_le_pow_right (n := 2) (j := 10) (by omega) (by omega)
theorem clo_mono {w : Int} {rs : List (List Int × Int)} (hg : Gd w rs) {a b : Nat} (h : subB a b = true) : subB (clo w rs a) (clo w rs b) = true := by
  obtain ⟨h1, _⟩ := guild_spec hg
  exact clo_least (clo_closed (by omega) (gd_w hg) b) (sub_trans h (clo_sub w rs b))
theorem clo_clo {w : Int} {rs : List (List Int × Int)} (hg : Gd w rs) (a : Nat) : clo w rs (clo w rs a) = clo w rs a := by
  obtain ⟨h1, _⟩ := guild_spec hg
  exact sub_antisymm (clo_least (clo_closed (by omega) (gd_w hg) a) (le_refl_sub _)) (clo_sub _ _ _)
theorem clo_into {w : Int} {rs : List (List Int × Int)} (hg : Gd w rs) {a b : Nat} (h : subB a (clo w rs b) = true) : subB (clo w rs a) (clo w rs b) = true := by
  have := clo_mono hg h
  rwa [clo_clo hg] at this
theorem ban_iff {w : Int} {rs : List (List Int × Int)} {b : Nat} : banned w rs b = true ↔ ∃ r ∈ rs, r.2 < 0 ∧ subB (bitsL r.1) (clo w rs b) = true := by
  unfold banned
  rw [List.any_eq_true]
  simp only [banR, Bool.and_eq_true, decide_eq_true_eq]
theorem ban_mono {w : Int} {rs : List (List Int × Int)} (hg : Gd w rs) {a b : Nat} (h : subB a (clo w rs b) = true) (hb : banned w rs a = true) : banned w rs b = true := by
  obtain ⟨r, h1, h2, h3⟩ := ban_iff.1 hb
  exact ban_iff.2 ⟨r, h1, h2, sub_trans h3 (clo_into hg h)⟩
/-! ### the parts of a label, two ways -/
/-! ### reasons -/
end Go.Abs.Label
end

section
/- Plain laws of labels: keys, what is taken, idle rules: two ways agree. -/
open Go.Proofs
set_option maxRecDepth 100000
set_option linter.unusedVariables false
namespace Go.Abs.Label

/-! ### keys -/
/-! ### what is taken -/
theorem best_fold {bet : List Int → List Int → Bool} (hO : Order bet) : ∀ (L : List (List Int)) (b : List Int),
    (L.foldl (fun b y => if bet y b then y else b) b = b ∨ L.foldl (fun b y => if bet y b then y else b) b ∈ L) ∧ bet b (L.foldl (fun b y => if bet y b then y else b) b) = false ∧ ∀ y ∈ L, bet y (L.foldl (fun b y => if bet y b then y else b) b) = false
  | [], b => ⟨.inl rfl, hO.irr b, by simp⟩
  | x :: L, b => by
    rw [List.foldl_cons]
    obtain ⟨h1, h2, h3⟩ := best_fold hO L (if bet x b then x else b)
    generalize L.foldl (fun b y => if bet y b then y else b) (if bet x b then x else b) = r at h1 h2 h3 ⊢
    by_cases hx : bet x b = true
    · rw [if_pos hx] at h1 h2
      refine ⟨.inr (h1.elim (fun e => by rw [e]; simp) (fun h => List.mem_cons_of_mem _ h)), ?_, fun y hy => ?_⟩
      · rw [← Bool.not_eq_true]
        intro hb
        rw [hO.tr _ _ _ hx hb] at h2; cases h2
      · rcases List.mem_cons.1 hy with rfl | hy
        · exact h2
        · exact h3 y hy
    · rw [if_neg hx] at h1 h2
      refine ⟨h1.imp_right (fun h => List.mem_cons_of_mem _ h), h2, fun y hy => ?_⟩
      rcases List.mem_cons.1 hy with rfl | hy
      · rw [← Bool.not_eq_true]
        intro hb
        rcases hO.tot b y with e | e | e
        · subst e; rw [hb] at h2; cases h2
        · rw [hO.tr _ _ _ e hb] at h2; cases h2
        · exact hx e
      · exact h3 y hy
end Go.Abs.Label
end

section
/- Plain laws of labels: idle rules, two ways; steps lead to what follows. -/
open Go.Proofs
set_option maxRecDepth 100000
set_option linter.unusedVariables false
namespace Go.Abs.Label

/-! ### fewer rules -/
theorem closed_less {rs rs2 : List (List Int × Int)} {c : Nat} (h : ∀ r ∈ rs2, r ∈ rs) (hc : ClosedR rs c) : ClosedR rs2 c := fun r hr => hc r (h r hr)
theorem clo_less {w : Int} {rs rs2 : List (List Int × Int)} (hg : Gd w rs) (h : ∀ r ∈ rs2, r ∈ rs) (b : Nat) : subB (clo w rs2 b) (clo w rs b) = true := by
  obtain ⟨h1, _⟩ := guild_spec hg
  exact clo_least (closed_less h (clo_closed (by omega) (gd_w hg) b)) (clo_sub _ _ _)
theorem ban_less {w : Int} {rs rs2 : List (List Int × Int)} (hg : Gd w rs) (h : ∀ r ∈ rs2, r ∈ rs) {b : Nat} (hb : banned w rs2 b = true) : banned w rs b = true := by
  obtain ⟨r, h1, h2, h3⟩ := ban_iff.1 hb
  exact ban_iff.2 ⟨r, h r h1, h2, sub_trans h3 (clo_less hg h b)⟩
theorem without_mem {rs : List (List Int × Int)} {r : Int} (h0 : 0 ≤ r) (h : r < rs.length) {y : List Int × Int} : y ∈ rs ↔ y ∈ without rs r ∨ y = ruleAt rs r := by
  have hr : r.toNat < rs.length := by omega
  rw [rule_at h0 hr]
  unfold without
  have e : rs = rs.take r.toNat ++ rs[r.toNat] :: rs.drop (r.toNat + 1) := by
    rw [← List.drop_eq_getElem_cons hr, List.take_append_drop]
  conv => lhs; rw [e]
  simp only [List.mem_append, List.mem_cons]
  constructor
  · rintro (h | h | h)
    · exact .inl (.inl h)
    · exact .inr h
    · exact .inl (.inr h)
  · rintro ((h | h) | h)
    · exact .inl h
    · exact .inr (.inr h)
    · exact .inr (.inl h)

/-- Without a rule all is as with it, if what it tells follows from its If by the others. -/
theorem idle_same {w : Int} {rs : List (List Int × Int)} {r : Int} (hg : Gd w rs) (h0 : 0 ≤ r) (h : r < rs.length) (hi : idleOf w rs r = true) (b : Nat) : clo w rs b = clo w (without rs r) b ∧ banned w rs b = banned w (without rs r) b := by
  obtain ⟨hw1, _⟩ := guild_spec hg
  have hg2 := gd_without hg r
  have hin : ∀ y ∈ without rs r, y ∈ rs := fun y hy => (without_mem h0 h).2 (.inl hy)
  unfold idleOf at hi
  rw [show rs.getD r.toNat ([], 0) = ruleAt rs r from rfl] at hi
  have hc2 := clo_closed (w := w) (by omega) (gd_w hg2) b
  have hcl : ClosedR rs (clo w (without rs r) b) := by
    intro y hy hy0 hys
    rcases (without_mem h0 h).1 hy with hy | rfl
    · exact hc2 y hy hy0 hys
    · rw [if_neg (by omega)] at hi
      exact sub_iff.1 (clo_into hg2 hys) _ hi
  have e : clo w rs b = clo w (without rs r) b := sub_antisymm (clo_least hcl (clo_sub _ _ _)) (clo_less hg hin b)
  refine ⟨e, ?_⟩
  rw [Bool.eq_iff_iff]
  refine ⟨fun hb => ?_, ban_less hg hin⟩
  obtain ⟨y, hy, hy0, hys⟩ := ban_iff.1 hb
  rw [e] at hys
  rcases (without_mem h0 h).1 hy with hy | rfl
  · exact ban_iff.2 ⟨y, hy, hy0, hys⟩
  · rw [if_pos hy0] at hi
    exact ban_mono hg2 hys hi
/-! ### steps -/
/-! the steps in order -/
end Go.Abs.Label
end

section
/- Plain laws of labels: the steps that are returned lead to what follows, and none can be left out. -/
open Go.Proofs
set_option maxRecDepth 100000
set_option linter.unusedVariables false
namespace Go.Abs.Label

/-- Whether a word follows, or a label is banned. -/
def isS (w : Int) (rs : List (List Int × Int)) (b : Nat) (word : Int) : Bool := if 0 ≤ word then (clo w rs b).testBit word.toNat else banned w rs b
end Go.Abs.Label
end

section
/- The label's statements: reasons and keys; what is taken, how many are closed, idle rules; steps; closed labels. -/
open Go.Proofs
set_option maxRecDepth 100000
set_option linter.unusedVariables false
namespace Go.Abs.Label

theorem p22 {a b : List (List Int)} (ha : a.length ≤ 1024 ∧ ∀ y ∈ a, y.length ≤ 10) (hb : b.length ≤ 1024 ∧ ∀ y ∈ b, y.length ≤ 10) : v22.p (a, b, ()) :=
  ⟨(show a.length ≤ 2000 by omega), (show b.length ≤ 2000 by omega), fun y hy => Nat.le_trans (ha.2 y hy) (by decide), fun y hy => Nat.le_trans (hb.2 y hy) (by decide)⟩
theorem p17 {a b : List Int} (ha : a.length ≤ 1000) (hb : b.length ≤ 1000) : v17.p (a, b, ()) :=
  ⟨(show a.length ≤ 1152921504606846976 by omega), (show b.length ≤ 1152921504606846976 by omega)⟩

theorem bestT_len {n : Nat} {L : List (List Int)} (h : ∀ y ∈ L, y.length ≤ n) : (bestT L).length ≤ n := by
  cases L with
  | nil => exact Nat.zero_le _
  | cons x L =>
    obtain ⟨c1, _, _⟩ := best_fold (bet := betT) order_betL L x
    show (L.foldl (fun b y => if betT y b then y else b) x).length ≤ n
    rcases c1 with e | e
    · rw [e]; exact h x (List.mem_cons_self ..)
    · exact h _ (List.mem_cons_of_mem _ e)
theorem take_len (w : Int) (rs : List (List Int × Int)) (l : List Int) : (takeL w rs l).length ≤ 10 := by
  unfold takeL
  split
  · refine bestT_len (fun y hy => ?_)
    obtain ⟨i, _, rfl⟩ := List.mem_map.1 hy
    exact listed_len _ 10
  · exact Nat.zero_le _

theorem fine_gd {w : Int} {rs : List (List Int × Int)} (h : fine w rs = true) : Gd w rs := by
  unfold fine geIs at h
  rw [Bool.and_eq_true] at h
  exact of_decide_eq_true h.2
theorem listedI_list (bits : Int) {w : Int} (h : 0 ≤ w) : isList (listedI bits w) w = true := isList_listed _ h
theorem br_false' (b : Bool) (p q : Prop) : br ((Bool.not b) == false) p q ↔ (b = true → p) ∧ (b = false → q) := by
  rw [br_bf]
  cases b <;> simp
end Go.Abs.Label
end

section
/- The label's other statements: errors of steps, lists in order, words that are turned; steps. -/
open Go.Proofs
set_option maxRecDepth 100000
set_option linter.unusedVariables false
namespace Go.Abs.Label

theorem bneS (a : Int) : ((a != a) == false) = true := by simp
end Go.Abs.Label
end

section
/- The label's other statements: one more word, one more rule; what is taken; idle rules. -/
open Go.Proofs
set_option maxRecDepth 100000
set_option linter.unusedVariables false
namespace Go.Abs.Label

theorem closL_of {w : Int} {rs : List (List Int × Int)} (hg : Gd w rs) : closL w rs = closN w rs := by
  unfold closL; rw [if_pos hg]
end Go.Abs.Label
end

section
/- The label's other statements: idle rules; the examples. -/
open Go.Proofs
set_option maxRecDepth 100000
set_option linter.unusedVariables false
namespace Go.Abs.Label

theorem closL_same {w : Int} {rs R : List (List Int × Int)} (hg : Gd w rs) (hR : Gd w R) (h : ∀ b, clo w rs b = clo w R b ∧ banned w rs b = banned w R b) : closL w rs = closL w R := by
  rw [closL_of hg, closL_of hR]
  unfold closN
  congr 3
  funext i
  unfold clsI
  rw [fromI_nat, fromI_nat, banI_nat, banI_nat, (h i).1, (h i).2]
theorem rule_at' {rs : List (List Int × Int)} {i : Nat} (h : i < rs.length) : rs.getD i ([], 0) = rs[i] := by
  rw [List.getD_eq_getElem?_getD, List.getElem?_eq_getElem h]; rfl

theorem k208 (hG : Good Try.prog (envOf [(19, mkC [v29]), (20, mkC [v31]), (21, mkC [v30]), (31, mkC [v74]), (32, mkC [v27]), (23, mkC [v25]), (13, mkC [v10])])) : v208.Kept Try.prog 8 := by
  rintro ⟨w, rs, which, bits, ⟨⟩⟩ hpre k hk
  change Int at w
  change List (List Int × Int) at rs
  change Int at which bits
  refine aspec hmix hG Try.func8 txp8 (Eq.mpr (eq208 w rs which bits k) ?_)
  replace hk : k (rBo true) [] := hk
  unfold vc208
  obtain ⟨hwh, hbt⟩ := hpre
  have hbt : 0 ≤ bits ∧ bits < 65536 := hbt
  have hwh : 0 ≤ which ∧ which < 256 := hwh
  refine ⟨trivial, ?_⟩
  rw [br_false']
  refine ⟨fun h => ?_, fun _ => ⟨trivial, hk⟩⟩
  have hg := fine_gd h
  obtain ⟨hw1, hw2, hrl, hrr⟩ := guild_spec hg
  rw [br_beq]
  refine ⟨fun _ => ⟨trivial, hk⟩, fun hn => ?_⟩
  have hm1 := Int.emod_nonneg which hn
  have hm2 := Int.emod_lt_of_pos which (show (0 : Int) < (rs.length : Int) by omega)
  obtain ⟨r, hr⟩ : ∃ r : Nat, HMod.hMod which (rs.length : Int) = (r : Int) := Int.eq_ofNat_of_zero_le hm1
  have hrn : r < rs.length := by omega
  have hl := listedI_list bits (w := w) (by omega)
  obtain ⟨l, hle⟩ : ∃ l, listedI bits w = l := ⟨_, rfl⟩
  rw [hle] at hl
  have hX := gd_without hg (r : Int)
  have h30 : v30.p (w, rs, bits, ()) := ⟨hg, hbt⟩
  have sm := gd_small hg
  have eE : idleErr w rs (r : Int) = 0 := by
    unfold idleErr
    rw [if_neg (by simpa using hg), if_pos ⟨by omega, by omega⟩]
  have eI : idleB w rs (r : Int) = idleOf w rs (r : Int) := by unfold idleB; rw [eE]; rfl
  have hg0 : guildErr w rs = 0 := hg
  have hX0 : guildErr w (without rs (r : Int)) = 0 := hX
  simp only [hle, hr, eE, eI, hg0, hX0, Int.toNat_natCast]
  have lI : isList rs[r].1 w = true := (hrr _ (List.getElem_mem hrn)).2.1
  have tI := (hrr _ (List.getElem_mem hrn)).2.2
  have hb := bits_ltw hl
  have hIf := bits_ltw lI
  have hp := pow10 hw2
  have eT : idleOf w rs (r : Int) = if rs[r].2 < 0 then banned w (without rs (r : Int)) (bitsL rs[r].1) else (clo w (without rs (r : Int)) (bitsL rs[r].1)).testBit rs[r].2.toNat := by
    unfold idleOf
    rw [Int.toNat_natCast, rule_at' hrn]
  have last : ∃ h6 : ((0 : Int) ≤ (r : Int)) ∧ (r < rs.length),
      br (decide (rs[r].2 ≥ 0)) ((0 ≤ rs[r].2) ∧ br ((idleOf w rs (r : Int) == (bitsA .and .i64 (shrA .i64 (fromI w (without rs (r : Int)) (bitsI rs[r].1)) rs[r].2) 1 == 1)) == true) (v10.p () ∧ k (AVal.bool true) []) (k (AVal.bool false) []))
        (br ((idleOf w rs (r : Int) == banI w (without rs (r : Int)) (bitsI rs[r].1)) == true) (v10.p () ∧ k (AVal.bool true) []) (k (AVal.bool false) [])) := by
    refine ⟨⟨by omega, hrn⟩, ?_⟩
    rw [br_decide]
    refine ⟨fun h => ⟨h, br_yes ?_ ⟨trivial, hk⟩⟩, fun h => br_yes ?_ ⟨trivial, hk⟩⟩
    · have ht : ∃ T : Nat, rs[r].2 = (T : Int) := ⟨rs[r].2.toNat, by omega⟩
      have e1 : fromI w (without rs (r : Int)) (bitsI rs[r].1) = ((clo w (without rs (r : Int)) (bitsL rs[r].1) : Nat) : Int) := fromI_nat _ _ _
      have hc := clo_ltw hX hIf
      rw [eT, if_neg (by omega), e1]
      generalize rs[r].2 = t at ht ⊢
      obtain ⟨T, rfl⟩ := ht
      rw [bit_test _ _ (by omega), Int.toNat_natCast]
      simp
    · have e1 : banI w (without rs (r : Int)) (bitsI rs[r].1) = banned w (without rs (r : Int)) (bitsL rs[r].1) := banI_nat _ _ _
      rw [eT, if_pos (by omega), e1]
      simp
  have h31 : ∀ R l, Gd w R → isList l w = true → v31.p (w, R, l, ()) := fun R l h1 h2 => ⟨h1, h2⟩
  refine ⟨fits64 (by omega) (by omega), ⟨by omega, by omega⟩, ⟨(show rs.length ≤ 1000 by omega), (show (0 : Int) ≤ (r : Int) by omega), (show (r : Int) < (rs.length : Int) by omega)⟩, sm, h30, h31 _ _ hg hl, h30, h31 _ _ hX hl, ⟨by omega, hrn⟩, h31 _ _ hX lI, sm, gd_small hX, br_yes rfl (br_yes rfl (br_yes rfl ?_))⟩
  rw [br_bt]
  refine ⟨fun hi => ?_, fun _ => last⟩
  have same := idle_same hg (show (0 : Int) ≤ (r : Int) by omega) (by omega) hi
  have e1 : fromI w rs (bitsI l) = fromI w (without rs (r : Int)) (bitsI l) := by
    have a1 : fromI w rs (bitsI l) = ((clo w rs (bitsL l) : Nat) : Int) := fromI_nat _ _ _
    have a2 : fromI w (without rs (r : Int)) (bitsI l) = ((clo w (without rs (r : Int)) (bitsL l) : Nat) : Int) := fromI_nat _ _ _
    rw [a1, a2, (same _).1]
  have e2 : banI w rs (bitsI l) = banI w (without rs (r : Int)) (bitsI l) := by
    have a1 : banI w rs (bitsI l) = banned w rs (bitsL l) := banI_nat _ _ _
    have a2 : banI w (without rs (r : Int)) (bitsI l) = banned w (without rs (r : Int)) (bitsL l) := banI_nat _ _ _
    rw [a1, a2, (same _).2]
  rw [e1, e2, closL_same hg hX same]
  exact br_yes (bneS _) (br_yes (by simp) (br_no (by simp) last))

end Go.Abs.Label
end

section
/- The contracts put together (printed by a program). -/
open Go.Proofs
set_option maxRecDepth 100000
namespace Go.Abs.Label
theorem hc11 : HasCode Try.prog 11 := hasCode Try.func11 (by kernel_rfl) (by kernel_rfl)
theorem g8 : Keeps Try.prog 11 [v8] := keeps1 hc11 (k8 good_nil)
theorem hc26 : HasCode Try.prog 26 := hasCode Try.func26 (by kernel_rfl) (by kernel_rfl)
theorem g56 : Keeps Try.prog 26 [v56] := keeps1 hc26 (k56 good_nil)
theorem hc51 : HasCode Try.prog 51 := hasCode Try.func51 (by kernel_rfl) (by kernel_rfl)
theorem g16 : Keeps Try.prog 51 [v16] := keeps1 hc51 (k16 (g56.add good_nil))
theorem hc19 : HasCode Try.prog 19 := hasCode Try.func19 (by kernel_rfl) (by kernel_rfl)
theorem g29 : Keeps Try.prog 19 [v29] := keeps1 hc19 (k29 (g8.add (g16.add good_nil)))
theorem hc75 : HasCode Try.prog 75 := hasCode Try.func75 (by kernel_rfl) (by kernel_rfl)
theorem g82 : Keeps Try.prog 75 [v82] := keeps1 hc75 (k82 good_nil)
theorem hc91 : HasCode Try.prog 91 := hasCode Try.func91 (by kernel_rfl) (by kernel_rfl)
theorem g96 : Keeps Try.prog 91 [v96] := keeps1 hc91 (k96 (g82.add good_nil))
theorem hc74 : HasCode Try.prog 74 := hasCode Try.func74 (by kernel_rfl) (by kernel_rfl)
theorem g81 : Keeps Try.prog 74 [v81] := keeps1 hc74 (k81 (g96.add good_nil))
theorem hc43 : HasCode Try.prog 43 := hasCode Try.func43 (by kernel_rfl) (by kernel_rfl)
theorem g50 : Keeps Try.prog 43 [v50] := keeps1 hc43 (k50 (g81.add good_nil))
theorem hc70 : HasCode Try.prog 70 := hasCode Try.func70 (by kernel_rfl) (by kernel_rfl)
theorem g52 : Keeps Try.prog 70 [v52] := keeps1 hc70 (k52 good_nil)
theorem hc77 : HasCode Try.prog 77 := hasCode Try.func77 (by kernel_rfl) (by kernel_rfl)
theorem g83a : Keeps Try.prog 77 [v83a] := keeps1 hc77 (k83a (g52.add good_nil))
theorem hc72 : HasCode Try.prog 72 := hasCode Try.func72 (by kernel_rfl) (by kernel_rfl)
theorem g54 : Keeps Try.prog 72 [v54] := keeps1 hc72 (k54 (g50.add good_nil))
theorem hc71 : HasCode Try.prog 71 := hasCode Try.func71 (by kernel_rfl) (by kernel_rfl)
theorem g53 : Keeps Try.prog 71 [v53] := keeps1 hc71 (k53 (g54.add good_nil))
theorem g83b : Keeps Try.prog 77 [v83b] := keeps1 hc77 (k83b (g53.add good_nil))
theorem hc73 : HasCode Try.prog 73 := hasCode Try.func73 (by kernel_rfl) (by kernel_rfl)
theorem g55 : Keeps Try.prog 73 [v55] := keeps1 hc73 (k55 (g50.add good_nil))
theorem g83c : Keeps Try.prog 77 [v83c] := keeps1 hc77 (k83c (g55.add good_nil))
theorem hc69 : HasCode Try.prog 69 := hasCode Try.func69 (by kernel_rfl) (by kernel_rfl)
theorem g51a_51b_51c : Keeps Try.prog 69 [v51a, v51b, v51c] := ⟨hc69.code, fun v' hm => by simp at hm; rcases hm with rfl | rfl | rfl; exact (k51a (g83a.add good_nil)); exact (k51b (g83b.add good_nil)); exact (k51c (g83c.add good_nil))⟩
theorem hc40 : HasCode Try.prog 40 := hasCode Try.func40 (by kernel_rfl) (by kernel_rfl)
theorem g15 : Keeps Try.prog 40 [v15] := keeps1 hc40 (k15 (g50.add (g51a_51b_51c.add good_nil)))
theorem hc50 : HasCode Try.prog 50 := hasCode Try.func50 (by kernel_rfl) (by kernel_rfl)
theorem g57 : Keeps Try.prog 50 [v57] := keeps1 hc50 (k57 good_nil)
theorem hc49 : HasCode Try.prog 49 := hasCode Try.func49 (by kernel_rfl) (by kernel_rfl)
theorem g73 : Keeps Try.prog 49 [v73] := keeps1 hc49 (k73 (g57.add good_nil))
theorem hc42 : HasCode Try.prog 42 := hasCode Try.func42 (by kernel_rfl) (by kernel_rfl)
theorem g42 : Keeps Try.prog 42 [v42] := keeps1 hc42 (k42 (g15.add (g54.add (g73.add good_nil))))
theorem hc76 : HasCode Try.prog 76 := hasCode Try.func76 (by kernel_rfl) (by kernel_rfl)
theorem g78 : Keeps Try.prog 76 [v78] := keeps1 hc76 (k78 good_nil)
theorem hc100 : HasCode Try.prog 100 := hasCode Try.func100 (by kernel_rfl) (by kernel_rfl)
theorem g101 : Keeps Try.prog 100 [v101] := keeps1 hc100 (k101 good_nil)
theorem hc88 : HasCode Try.prog 88 := hasCode Try.func88 (by kernel_rfl) (by kernel_rfl)
theorem g87 : Keeps Try.prog 88 [v87] := keeps1 hc88 (k87 (g101.add good_nil))
theorem hc61 : HasCode Try.prog 61 := hasCode Try.func61 (by kernel_rfl) (by kernel_rfl)
theorem g66 : Keeps Try.prog 61 [v66] := keeps1 hc61 (k66 (g87.add good_nil))
theorem hc83 : HasCode Try.prog 83 := hasCode Try.func83 (by kernel_rfl) (by kernel_rfl)
theorem g79 : Keeps Try.prog 83 [v79] := keeps1 hc83 (k79 (g73.add (g66.add good_nil)))
theorem hc48 : HasCode Try.prog 48 := hasCode Try.func48 (by kernel_rfl) (by kernel_rfl)
theorem g59 : Keeps Try.prog 48 [v59] := keeps1 hc48 (k59 good_nil)
theorem hc53 : HasCode Try.prog 53 := hasCode Try.func53 (by kernel_rfl) (by kernel_rfl)
theorem g43 : Keeps Try.prog 53 [v43] := keeps1 hc53 (k43 (g78.add (g57.add (g79.add (g59.add good_nil)))))
theorem hc62 : HasCode Try.prog 62 := hasCode Try.func62 (by kernel_rfl) (by kernel_rfl)
theorem g44 : Keeps Try.prog 62 [v44] := keeps1 hc62 (k44 good_nil)
theorem hc35 : HasCode Try.prog 35 := hasCode Try.func35 (by kernel_rfl) (by kernel_rfl)
theorem g11 : Keeps Try.prog 35 [v11] := keeps1 hc35 (k11 (g42.add (g43.add (g44.add good_nil))))
theorem hc84 : HasCode Try.prog 84 := hasCode Try.func84 (by kernel_rfl) (by kernel_rfl)
theorem g80 : Keeps Try.prog 84 [v80] := keeps1 hc84 (k80 (g73.add (g59.add good_nil)))
theorem g83d : Keeps Try.prog 77 [v83d] := keeps1 hc77 (k83d (g80.add good_nil))
theorem g51d : Keeps Try.prog 69 [v51d] := keeps1 hc69 (k51d (g83d.add good_nil))
theorem hc54 : HasCode Try.prog 54 := hasCode Try.func54 (by kernel_rfl) (by kernel_rfl)
theorem g48 : Keeps Try.prog 54 [v48] := keeps1 hc54 (k48 (g43.add (g79.add (g59.add (g80.add (g51d.add good_nil))))))
theorem hc37 : HasCode Try.prog 37 := hasCode Try.func37 (by kernel_rfl) (by kernel_rfl)
theorem g13 : Keeps Try.prog 37 [v13] := keeps1 hc37 (k13 (g42.add (g48.add good_nil)))
theorem hc25 : HasCode Try.prog 25 := hasCode Try.func25 (by kernel_rfl) (by kernel_rfl)
theorem g47 : Keeps Try.prog 25 [v47] := keeps1 hc25 (k47 good_nil)
theorem hc20 : HasCode Try.prog 20 := hasCode Try.func20 (by kernel_rfl) (by kernel_rfl)
theorem g31 : Keeps Try.prog 20 [v31] := keeps1 hc20 (k31 (g11.add (g13.add (g56.add (g47.add good_nil)))))
theorem hc22 : HasCode Try.prog 22 := hasCode Try.func22 (by kernel_rfl) (by kernel_rfl)
theorem g35 : Keeps Try.prog 22 [v35] := keeps1 hc22 (k35 good_nil)
theorem hc21 : HasCode Try.prog 21 := hasCode Try.func21 (by kernel_rfl) (by kernel_rfl)
theorem g30 : Keeps Try.prog 21 [v30] := keeps1 hc21 (k30 (g35.add good_nil))
theorem hc31 : HasCode Try.prog 31 := hasCode Try.func31 (by kernel_rfl) (by kernel_rfl)
theorem g74 : Keeps Try.prog 31 [v74] := keeps1 hc31 (k74 good_nil)
theorem hc66 : HasCode Try.prog 66 := hasCode Try.func66 (by kernel_rfl) (by kernel_rfl)
theorem g72 : Keeps Try.prog 66 [v72] := keeps1 hc66 (k72 (g90 good_nil))
theorem hc32 : HasCode Try.prog 32 := hasCode Try.func32 (by kernel_rfl) (by kernel_rfl)
theorem g27 : Keeps Try.prog 32 [v27] := keeps1 hc32 (k27 (g42.add (g50.add (g72.add (g73.add (g48.add (g43.add (g57.add (g59.add good_nil)))))))))
theorem hc52 : HasCode Try.prog 52 := hasCode Try.func52 (by kernel_rfl) (by kernel_rfl)
theorem g67 : Keeps Try.prog 52 [v67] := keeps1 hc52 (k67 good_nil)
theorem hc23 : HasCode Try.prog 23 := hasCode Try.func23 (by kernel_rfl) (by kernel_rfl)
theorem g25 : Keeps Try.prog 23 [v25] := keeps1 hc23 (k25 (g42.add (g67.add (g43.add (g48.add good_nil)))))
theorem hc68 : HasCode Try.prog 68 := hasCode Try.func68 (by kernel_rfl) (by kernel_rfl)
theorem g77 : Keeps Try.prog 68 [v77] := keeps1 hc68 (k77 good_nil)
theorem hc34 : HasCode Try.prog 34 := hasCode Try.func34 (by kernel_rfl) (by kernel_rfl)
theorem g37 : Keeps Try.prog 34 [v37] := keeps1 hc34 (k37 (g77.add (g76 good_nil)))
theorem hc41 : HasCode Try.prog 41 := hasCode Try.func41 (by kernel_rfl) (by kernel_rfl)
theorem g38 : Keeps Try.prog 41 [v38] := keeps1 hc41 (k38 (g37.add (g77.add (g76 good_nil))))
theorem hc36 : HasCode Try.prog 36 := hasCode Try.func36 (by kernel_rfl) (by kernel_rfl)
theorem g39 : Keeps Try.prog 36 [v39] := keeps1 hc36 (k39 good_nil)
theorem hc16 : HasCode Try.prog 16 := hasCode Try.func16 (by kernel_rfl) (by kernel_rfl)
theorem g33 : Keeps Try.prog 16 [v33] := keeps1 hc16 (k33 (g42.add (g50.add (g73.add (g59.add (g57.add good_nil))))))
theorem hc78 : HasCode Try.prog 78 := hasCode Try.func78 (by kernel_rfl) (by kernel_rfl)
theorem g91 : Keeps Try.prog 78 [v91] := keeps1 hc78 (k91 (g73.add (g59.add good_nil)))
theorem g83e : Keeps Try.prog 77 [v83e] := keeps1 hc77 (k83e (g91.add good_nil))
theorem hc79 : HasCode Try.prog 79 := hasCode Try.func79 (by kernel_rfl) (by kernel_rfl)
theorem g92 : Keeps Try.prog 79 [v92] := keeps1 hc79 (k92 good_nil)
theorem hc80 : HasCode Try.prog 80 := hasCode Try.func80 (by kernel_rfl) (by kernel_rfl)
theorem g93 : Keeps Try.prog 80 [v93] := keeps1 hc80 (k93 good_nil)
theorem hc95 : HasCode Try.prog 95 := hasCode Try.func95 (by kernel_rfl) (by kernel_rfl)
theorem g105 : Keeps Try.prog 95 [v105] := keeps1 hc95 (k105 good_nil)
theorem hc94 : HasCode Try.prog 94 := hasCode Try.func94 (by kernel_rfl) (by kernel_rfl)
theorem g104 : Keeps Try.prog 94 [v104] := keeps1 hc94 (k104 good_nil)
theorem hc81 : HasCode Try.prog 81 := hasCode Try.func81 (by kernel_rfl) (by kernel_rfl)
theorem g94 : Keeps Try.prog 81 [v94] := keeps1 hc81 (k94 (g105.add (g104.add (g44.add (g33.add good_nil)))))
theorem hc44 : HasCode Try.prog 44 := hasCode Try.func44 (by kernel_rfl) (by kernel_rfl)
theorem g75 : Keeps Try.prog 44 [v75] := keeps1 hc44 (k75 (g78.add (g57.add (g59.add (g79.add (g83e.add (g73.add (g92.add (g93.add (g94.add good_nil))))))))))
theorem hc14 : HasCode Try.prog 14 := hasCode Try.func14 (by kernel_rfl) (by kernel_rfl)
theorem g32 : Keeps Try.prog 14 [v32] := keeps1 hc14 (k32 (g42.add (g50.add (g75.add good_nil))))
theorem hc55 : HasCode Try.prog 55 := hasCode Try.func55 (by kernel_rfl) (by kernel_rfl)
theorem g58 : Keeps Try.prog 55 [v58] := keeps1 hc55 (k58 (g43.add (g59.add good_nil)))
theorem hc87 : HasCode Try.prog 87 := hasCode Try.func87 (by kernel_rfl) (by kernel_rfl)
theorem g86 : Keeps Try.prog 87 [v86] := keeps1 hc87 (k86 (g59.add good_nil))
theorem hc98 : HasCode Try.prog 98 := hasCode Try.func98 (by kernel_rfl) (by kernel_rfl)
theorem g99 : Keeps Try.prog 98 [v99] := keeps1 hc98 (k99 (g86.add good_nil))
theorem hc86 : HasCode Try.prog 86 := hasCode Try.func86 (by kernel_rfl) (by kernel_rfl)
theorem g85 : Keeps Try.prog 86 [v85] := keeps1 hc86 (k85 (g99.add good_nil))
theorem hc57 : HasCode Try.prog 57 := hasCode Try.func57 (by kernel_rfl) (by kernel_rfl)
theorem g61a : Keeps Try.prog 57 [v61a] := keeps1 hc57 (k61a (g58.add (g67.add (g66.add (g86.add (g85.add good_nil))))))
theorem hc101 : HasCode Try.prog 101 := hasCode Try.func101 (by kernel_rfl) (by kernel_rfl)
theorem g102 : Keeps Try.prog 101 [v102] := keeps1 hc101 (k102 good_nil)
theorem hc89 : HasCode Try.prog 89 := hasCode Try.func89 (by kernel_rfl) (by kernel_rfl)
theorem g89 : Keeps Try.prog 89 [v89] := keeps1 hc89 (k89 (g102.add good_nil))
theorem hc65 : HasCode Try.prog 65 := hasCode Try.func65 (by kernel_rfl) (by kernel_rfl)
theorem g70 : Keeps Try.prog 65 [v70] := keeps1 hc65 (k70 (g89.add good_nil))
theorem hc85 : HasCode Try.prog 85 := hasCode Try.func85 (by kernel_rfl) (by kernel_rfl)
theorem g84 : Keeps Try.prog 85 [v84] := keeps1 hc85 (k84 (g70.add good_nil))
theorem hc56 : HasCode Try.prog 56 := hasCode Try.func56 (by kernel_rfl) (by kernel_rfl)
theorem g60 : Keeps Try.prog 56 [v60] := keeps1 hc56 (k60 (g44.add (g84.add good_nil)))
theorem hc24 : HasCode Try.prog 24 := hasCode Try.func24 (by kernel_rfl) (by kernel_rfl)
theorem g18 : Keeps Try.prog 24 [v18] := keeps1 hc24 (k18 (g42.add (g50.add (g57.add (g58.add (g61a.add (g60.add good_nil)))))))
theorem hc58 : HasCode Try.prog 58 := hasCode Try.func58 (by kernel_rfl) (by kernel_rfl)
theorem g63 : Keeps Try.prog 58 [v63] := keeps1 hc58 (k63 (g43.add good_nil))
theorem g61b : Keeps Try.prog 57 [v61b] := keeps1 hc57 (k61b (g63.add (g67.add (g66.add (g86.add (g85.add good_nil))))))
theorem hc60 : HasCode Try.prog 60 := hasCode Try.func60 (by kernel_rfl) (by kernel_rfl)
theorem g65 : Keeps Try.prog 60 [v65] := keeps1 hc60 (k65 (g66.add good_nil))
theorem hc59 : HasCode Try.prog 59 := hasCode Try.func59 (by kernel_rfl) (by kernel_rfl)
theorem g64 : Keeps Try.prog 59 [v64] := keeps1 hc59 (k64 (g65.add good_nil))
theorem hc28 : HasCode Try.prog 28 := hasCode Try.func28 (by kernel_rfl) (by kernel_rfl)
theorem g20 : Keeps Try.prog 28 [v20] := keeps1 hc28 (k20 (g42.add (g43.add (g63.add (g61b.add (g64.add (g66.add (g60.add good_nil))))))))
theorem hc64 : HasCode Try.prog 64 := hasCode Try.func64 (by kernel_rfl) (by kernel_rfl)
theorem g69 : Keeps Try.prog 64 [v69] := keeps1 hc64 (k69 (g70.add good_nil))
theorem hc63 : HasCode Try.prog 63 := hasCode Try.func63 (by kernel_rfl) (by kernel_rfl)
theorem g68 : Keeps Try.prog 63 [v68] := keeps1 hc63 (k68 (g69.add good_nil))
theorem hc30 : HasCode Try.prog 30 := hasCode Try.func30 (by kernel_rfl) (by kernel_rfl)
theorem g23 : Keeps Try.prog 30 [v23] := keeps1 hc30 (k23 (g42.add (g48.add (g67.add (g44.add (g68.add good_nil))))))
theorem hc29 : HasCode Try.prog 29 := hasCode Try.func29 (by kernel_rfl) (by kernel_rfl)
theorem g17 : Keeps Try.prog 29 [v17] := keeps1 hc29 (k17 good_nil)
theorem hc45 : HasCode Try.prog 45 := hasCode Try.func45 (by kernel_rfl) (by kernel_rfl)
theorem g45 : Keeps Try.prog 45 [v45] := keeps1 hc45 (k45 (g16.add (g56.add good_nil)))
theorem hc17 : HasCode Try.prog 17 := hasCode Try.func17 (by kernel_rfl) (by kernel_rfl)
theorem g40 : Keeps Try.prog 17 [v40] := keeps1 hc17 (k40 (g45.add (g47.add good_nil)))
theorem hc39 : HasCode Try.prog 39 := hasCode Try.func39 (by kernel_rfl) (by kernel_rfl)
theorem g41 : Keeps Try.prog 39 [v41] := keeps1 hc39 (k41 good_nil)
theorem hc38 : HasCode Try.prog 38 := hasCode Try.func38 (by kernel_rfl) (by kernel_rfl)
theorem g22 : Keeps Try.prog 38 [v22] := keeps1 hc38 (k22 (g17.add good_nil))
theorem hc13 : HasCode Try.prog 13 := hasCode Try.func13 (by kernel_rfl) (by kernel_rfl)
theorem g10 : Keeps Try.prog 13 [v10] := keeps1 hc13 (k10 (g37.add (g38.add (g39.add (g11.add (g13.add (g33.add (g32.add (g18.add (g20.add (g23.add (g25.add (g27.add (g17.add (g40.add (g41.add (g22.add good_nil)))))))))))))))))
theorem hc8 : HasCode Try.prog 8 := hasCode Try.func8 (by kernel_rfl) (by kernel_rfl)
theorem g208 : Keeps Try.prog 8 [v208] := keeps1 hc8 (k208 (g29.add (g31.add (g30.add (g74.add (g27.add (g25.add (g10.add good_nil))))))))
end Go.Abs.Label
end

