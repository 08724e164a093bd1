/- Part 7 of the road to this seat's statements: lemmas about a small interpreter over the model's code, and about the functions that it is used on. No condition of its own. -/
import Derived.Test.YtondgnghncpbeaaProg
import Derived.Test.YtondgnghncpbeaaW6

section
/- The label's functions keep their contracts: the examples; what follows, as the statements ask it. -/
open Go.Proofs
set_option maxRecDepth 100000
set_option linter.unusedVariables false
namespace Go.Abs.Label

theorem k76t (hG : Good Try.prog (envOf [])) : v76t.Kept Try.prog 67 := by
  rintro ⟨w, rs, ⟨⟩⟩ hpre k hk
  change Int at w
  change List (List Int × Int) at rs
  refine aspec hmix hG Try.func67 tx76 (Eq.mpr (eq76t w rs k) ?_)
  replace hk : k (.agg [rI w, .imm tRu rs true]) [] := hk
  unfold vc76t
  exact hk

theorem guild_kept : ∀ us cs k, cGuild.run us cs k → ASpec Try.prog 67 us cs k := by
  rintro us cs k ⟨h1, h2⟩
  have h1 : guildPre us cs := h1
  unfold guildPre at h1
  split at h1
  · rename_i n l f _
    cases f with
    | false => exact k76 good_nil (n, l, ()) trivial k h2
    | true => exact k76t good_nil (n, l, ()) trivial k h2
  · exact h1.elim
theorem g76 {l : List (FuncId × Contract)} (hG : Good Try.prog (envOf l)) : Good Try.prog (envOf ((67, cGuild) :: l)) := by
  obtain ⟨c, hc⟩ := Option.isSome_iff_exists.1 (show Try.f67.body.isSome = true by kernel_rfl)
  exact good_cons hG Try.func67 hc (by kernel_rfl) guild_kept

theorem k37 (hG : Good Try.prog (envOf [(68, mkC [v77]), (67, cGuild)])) : v37.Kept Try.prog 34 := by
  rintro ⟨⟩ hpre k hk
  refine aspec hmix hG Try.func34 tx37 (Eq.mpr (eq37  k) ?_)
  replace hk : k (.agg [rI 6, .imm tRu fiveR true]) [] := hk
  unfold vc37
  exact ⟨trivial, trivial, trivial, trivial, trivial, trivial, hk⟩

theorem k38 (hG : Good Try.prog (envOf [(34, mkC [v37]), (68, mkC [v77]), (67, cGuild)])) : v38.Kept Try.prog 41 := by
  rintro ⟨⟩ hpre k hk
  refine aspec hmix hG Try.func41 tx38 (Eq.mpr (eq38  k) ?_)
  replace hk : k (.agg [rI 6, .imm tRu sixR false]) [] := hk
  unfold vc38
  exact ⟨trivial, trivial, by decide, by decide, trivial, hk⟩

/-! ### lists of words, and sets -/
theorem bits_listed {b n : Nat} (h : b < 2 ^ n) : bitsL (listed b n) = b := by
  apply Nat.eq_of_testBit_eq
  intro i
  rw [Bool.eq_iff_iff, bitsL_test]
  constructor
  · rintro ⟨x, hx, rfl⟩
    obtain ⟨j, rfl, _, hj⟩ := listed_mem.1 hx
    exact hj
  · intro hi
    have : i < n := by
      rcases Nat.lt_or_ge i n with h' | h'
      · exact h'
      · rw [Nat.testBit_lt_two_pow (Nat.lt_of_lt_of_le h (Nat.pow_le_pow_right (by omega) h'))] at hi
        cases hi
    exact ⟨(i : Int), listed_mem.2 ⟨i, rfl, this, hi⟩, rfl⟩
theorem lt_of_tests {b n : Nat} (h : ∀ i, b.testBit i = true → i < n) : b < 2 ^ n := by
  refine Nat.lt_pow_two_of_testBit b (fun i hi => ?_)
  cases hb : b.testBit i with
  | false => rfl
  | true => have := h i hb; omega
theorem bits_ltw {l : List Int} {w : Int} (h : isList l w = true) : bitsL l < 2 ^ w.toNat := by
  refine lt_of_tests (fun i hi => ?_)
  obtain ⟨x, hx, rfl⟩ := (bitsL_test l i).1 hi
  have := (isList_spec.1 h).1 x hx
  omega
theorem listed_bits {l : List Int} {w : Int} (h : isList l w = true) : listed (bitsL l) w.toNat = l := by
  refine sorted_ext (· < ·) (fun a => Int.lt_irrefl a) (fun a b c h1 h2 => Int.lt_trans h1 h2) _ _ (listed_sorted _ _) (isList_spec.1 h).2 (fun x => ?_)
  rw [listed_mem]
  constructor
  · rintro ⟨i, rfl, h1, h2⟩
    obtain ⟨y, hy, e⟩ := (bitsL_test l i).1 h2
    have := (isList_spec.1 h).1 y hy
    have : y = (i : Int) := by omega
    rw [← this]; exact hy
  · intro hx
    have := (isList_spec.1 h).1 x hx
    exact ⟨x.toNat, by omega, by omega, (bitsL_test l _).2 ⟨x, hx, rfl⟩⟩
theorem isList_len {l : List Int} {w : Int} (h : isList l w = true) : l.length ≤ w.toNat := by
  rw [← listed_bits h]; exact listed_len _ _
theorem isList_listed (b : Nat) {w : Int} (h : 0 ≤ w) : isList (listed b w.toNat) w = true := by
  have := listed_isList b w.toNat
  rwa [Int.toNat_of_nonneg h] at this
theorem clo_ltw {w : Int} {rs : List (List Int × Int)} (hg : Gd w rs) {b : Nat} (hb : b < 2 ^ w.toNat) : clo w rs b < 2 ^ w.toNat := by
  refine lt_of_tests (fun i hi => ?_)
  have hr : thensIn w.toNat rs := fun r hr => by have := gd_w hg r hr; have := guild_spec hg; omega
  rcases iter_new hr (w.toNat + 1) b hi with h | h
  · rcases Nat.lt_or_ge i w.toNat with h' | h'
    · exact h'
    · rw [Nat.testBit_lt_two_pow (Nat.lt_of_lt_of_le hb (Nat.pow_le_pow_right (by omega) h'))] at h
      cases h
  · exact h
theorem fol_bits {w : Int} {rs : List (List Int × Int)} {l : List Int} (hg : Gd w rs) (hl : isList l w = true) : folL w rs l = listed (clo w rs (bitsL l)) w.toNat := by
  unfold folL
  have h0 : labelErr w rs l = 0 := by
    unfold labelErr
    rw [if_neg (by simpa using hg), if_pos hl]
  rw [if_pos h0]
  unfold listedI fromI bitsI
  rw [Int.toNat_natCast, Int.toNat_natCast]

theorem k31 (hG : Good Try.prog (envOf [(35, mkC [v11]), (37, mkC [v13]), (26, mkC [v56]), (25, mkC [v47])])) : v31.Kept Try.prog 20 := by
  rintro ⟨w, rs, l, ⟨⟩⟩ hpre k hk
  change Int at w
  change List (List Int × Int) at rs
  change List Int at l
  refine aspec hmix hG Try.func20 tx31 (Eq.mpr (eq31 w rs l k) ?_)
  replace hk : k (.tup [rI (fromI w rs (bitsI l)), rBo (banI w rs (bitsI l)), rBo true]) [] := hk
  unfold vc31
  obtain ⟨hg, hl⟩ := hpre
  have hg : Gd w rs := hg
  have hl : isList l w = true := hl
  obtain ⟨hw1, hw2, hrl, _⟩ := guild_spec hg
  have h0 : labelErr w rs l = 0 := by
    unfold labelErr
    rw [if_neg (by simpa using hg), if_pos hl]
  obtain ⟨_, hl9, hbB⟩ := label_isB h0
  have hlen := isList_len hl
  have hls : isList (folL w rs l) w = true := by rw [fol_bits hg hl]; exact isList_listed _ (by omega)
  have hfl := isList_len hls
  have hbw := bits_ltw hl
  have hcw := clo_ltw hg hbw
  have ef : bitsI (folL w rs l) = fromI w rs (bitsI l) := by
    rw [fol_bits hg hl]
    unfold bitsI fromI
    rw [bits_listed hcw, Int.toNat_natCast]
  have eb : banL w rs l = banI w rs (bitsI l) := by unfold banL; rw [h0]; rfl
  have efB := gd_isB hg hbB
  refine ⟨⟨gd_small hg, (show l.length ≤ 1000 by omega)⟩, ⟨gd_small hg, (show l.length ≤ 1000 by omega)⟩, ?_⟩
  rw [h0, br_bf]
  refine ⟨fun _ => ?_, fun h => by cases h⟩
  rw [br_bf]
  refine ⟨fun _ => ⟨⟨(show (folL w rs l).length ≤ 1152921504606846976 by omega), (show (0 : Int) ≤ w by omega), (show w ≤ 1000 by omega)⟩, ?_⟩, fun h => by cases h⟩
  rw [hls, br_not]

  refine ⟨fun h => (by cases h), fun _ => ⟨⟨(show (folL w rs l).length ≤ 1000 by omega), list_inL (by omega) hls⟩, ⟨(show l.length ≤ 1000 by omega), hl9⟩, ?_⟩⟩
  have e3 : (bitsA .and .i64 (fromI w rs (bitsI l)) (bitsI l) == bitsI l) = true := by
    rw [and_has efB hbB]
    unfold hasI fromI bitsI
    rw [Int.toNat_natCast, Int.toNat_natCast]
    exact clo_sub _ _ _
  rw [ef, eb, e3]
  exact hk

def shortB (x : List Int) : Bool := decide (x.length ≤ 1000)
theorem k10 (hG : Good Try.prog (envOf [(34, mkC [v37]), (41, mkC [v38]), (36, mkC [v39]), (35, mkC [v11]), (37, mkC [v13]), (16, mkC [v33]), (14, mkC [v32]), (24, mkC [v18]), (28, mkC [v20]), (30, mkC [v23]), (23, mkC [v25]), (32, mkC [v27]), (29, mkC [v17]), (17, mkC [v40]), (39, mkC [v41]), (38, mkC [v22])])) : v10.Kept Try.prog 13 := by
  rintro ⟨⟩ hpre k hk
  refine aspec hmix hG Try.func13 tx10 (Eq.mpr (eq10  k) ?_)
  replace hk : k (rBo true) [] := hk
  unfold vc10
  have l5 : fiveR.length = 5 := rfl
  have s5 : smallG fiveR := by decide
  have s6 : smallG sixR := by decide
  have hr : reaL 6 fiveR [0, 1, 2, 3, 4, 5] 3 = [[0, 1], [0, 5], [2], [3]] := by
    have e1 : wordErr 6 fiveR [0, 1, 2, 3, 4, 5] 3 = 0 := by decide
    have e2 : (minE (goodsR 6 fiveR (andI 0 3) (bitsI [0, 1, 2, 3, 4, 5]))).map (fun e => listI e.2.1) = [[0, 1], [2], [3], [0, 5]] := by decide
    unfold reaL listsE
    rw [if_pos e1, e2]
    exact (sortLL_unique (by decide) (by decide)).symm
  have hkey : keyL 6 fiveR [0, 1, 2, 3, 4, 5] = [[0, 5]] := by
    have e1 : labelErr 6 fiveR [0, 1, 2, 3, 4, 5] = 0 := by decide
    have e2 : (fewE (minE (goodsK 6 fiveR (fromI 6 fiveR (bitsI [0, 1, 2, 3, 4, 5])) (bitsI [0, 1, 2, 3, 4, 5])))).map (fun e => listI e.2.1) = [[0, 5]] := by decide
    unfold keyL listsE
    rw [if_pos e1, e2]
    exact (sortLL_unique (by decide) (by decide)).symm
  have hst : (stepsL 6 fiveR [0, 5] 3).length ≤ 12 := by
    unfold stepsL
    split
    · exact stepL_len _ _ _ _
    · exact Nat.zero_le _
  have hfo : folL 6 fiveR [0, 5] = [0, 1, 2, 3, 4, 5] := by decide
  have hta : takeL 6 fiveR [2, 3, 4] = [4] := by decide
  have hid : idleB 6 fiveR 0 = false := by decide
  rw [hr, hkey, hfo, hta, hid]
  have p2 : ∀ l : List Int, l.length ≤ 12 → v11.p (6, fiveR, l, ()) := fun l h => ⟨s5, (show l.length ≤ 1000 by omega)⟩
  have p13 : ∀ l : List Int, l.length ≤ 12 → v13.p (6, fiveR, l, ()) := fun l h => ⟨s5, (show l.length ≤ 1000 by omega)⟩
  have p33 : ∀ (l : List Int) (x : Int) (s : List Int), l.length ≤ 12 → s.length ≤ 12 → v33.p (6, fiveR, l, x, s, ()) := fun l x s h h2 => ⟨s5, (show l.length ≤ 1000 by omega), (show s.length ≤ 1000 by omega)⟩
  have p40 : ∀ (l : List Int) (x : Int) (s : List Int), l.length ≤ 12 → s.length ≤ 12 → v40.p (6, fiveR, l, x, s, ()) := fun l x s h h2 => ⟨s5, (show l.length ≤ 1000 by omega), (show s.length ≤ 1000 by omega)⟩
  have p32 : ∀ (l : List Int) (x : Int), l.length ≤ 12 → v32.p (6, fiveR, l, x, ()) := fun l x h => ⟨s5, (show l.length ≤ 1000 by omega)⟩
  have p18 : ∀ (l : List Int) (x : Int), l.length ≤ 12 → v18.p (6, fiveR, l, x, ()) := fun l x h => ⟨s5, (show l.length ≤ 1000 by omega)⟩
  have p20 : ∀ (l : List Int), l.length ≤ 12 → v20.p (6, fiveR, l, ()) := fun l h => ⟨s5, (show l.length ≤ 1000 by omega)⟩
  have p23 : ∀ (l : List Int), l.length ≤ 12 → v23.p (6, fiveR, l, ()) := fun l h => ⟨s5, (show l.length ≤ 1000 by omega)⟩
  have p17 : ∀ (l m : List Int), l.length ≤ 12 → m.length ≤ 12 → v17.p (l, m, ()) := fun l m h h2 => ⟨(show l.length ≤ 1152921504606846976 by omega), (show m.length ≤ 1152921504606846976 by omega)⟩
  have p22 : ∀ (l m : List (List Int)), l.length ≤ 12 → m.length ≤ 12 → l.all shortB = true → m.all shortB = true → v22.p (l, m, ()) := fun l m h h2 h3 h4 => ⟨(show l.length ≤ 2000 by omega), (show m.length ≤ 2000 by omega), fun x hx => of_decide_eq_true (List.all_eq_true.1 h3 x hx), fun x hx => of_decide_eq_true (List.all_eq_true.1 h4 x hx)⟩
  refine ⟨trivial, trivial, trivial, p2 _ (by decide), trivial, p2 _ (by decide), trivial, p13 _ (by decide), trivial, p13 _ (by decide), trivial, trivial, p33 _ _ _ (by decide) (by decide), trivial, trivial, p33 _ _ _ (by decide) (by decide), trivial, trivial, p33 _ _ _ (by decide) (by decide), trivial, trivial, p33 _ _ _ (by decide) (by decide), trivial, p33 _ _ _ (by decide) (by decide), trivial, p32 _ _ (by decide), trivial, p32 _ _ (by decide), trivial, p18 _ _ (by decide), trivial, p20 _ (by decide), trivial, p23 _ (by decide), s5, s6, s5, s5, trivial, p17 _ _ (by decide) (by decide), trivial, p40 _ _ _ (by decide) hst, trivial, trivial, trivial, trivial, trivial, p22 _ _ (by decide) (by decide) (by decide) (by decide), ?_⟩
  rw [br_bt]
  exact ⟨fun _ => ⟨trivial, trivial, p22 _ _ (by decide) (by decide) (by decide) (by decide), trivial, p17 _ _ (by decide) (by decide), hk⟩, fun h => absurd h (by decide)⟩
end Go.Abs.Label
end

section
/- Conditions and their equations, printed by a program. -/
open Go.Proofs
set_option maxRecDepth 100000
set_option linter.unusedVariables false
namespace Go.Abs.Label
end Go.Abs.Label
end

section
/- The label's statements: which guilds are valid, what follows, what is banned. -/
open Go.Proofs
set_option maxRecDepth 100000
set_option linter.unusedVariables false
namespace Go.Abs.Label
theorem br_yes {b : Bool} {p q : Prop} (h : b = true) (hp : p) : br b p q := by subst h; exact hp
theorem br_no {b : Bool} {p q : Prop} (h : b = false) (hq : q) : br b p q := by subst h; exact hq
end Go.Abs.Label
end

section
/- Plain laws of labels: reasons, keys, what is taken, idle rules: two ways agree. -/
open Go.Proofs
set_option maxRecDepth 100000
set_option linter.unusedVariables false
namespace Go.Abs.Label

/-! ### what follows -/
theorem pow10 {w : Int} (h : w ≤ 10) : 2 ^ w.toNat ≤ 1024 := Nat.pow_le_pow_right (n := 2) (j := 10) (by omega) (by omega)
theorem clo_mono {w : Int} {rs : List (List Int × Int)} (hg : Gd w rs) {a b : Nat} (h : subB a b = true) : subB (clo w rs a) (clo w rs b) = true := by
  obtain ⟨h1, _⟩ := guild_spec hg
  exact clo_least (clo_closed (by omega) (gd_w hg) b) (sub_trans h (clo_sub w rs b))
theorem ban_iff {w : Int} {rs : List (List Int × Int)} {b : Nat} : banned w rs b = true ↔ ∃ r ∈ rs, r.2 < 0 ∧ subB (bitsL r.1) (clo w rs b) = true := by
  unfold banned
  rw [List.any_eq_true]
  simp only [banR, Bool.and_eq_true, decide_eq_true_eq]
theorem sub_antisymm' {a b : Nat} (h : a ≠ b) (h1 : subB a b = true) : ∃ i, b.testBit i = true ∧ a.testBit i = false := by
  refine Classical.byContradiction fun hn => h (sub_antisymm h1 (sub_iff.2 fun i hi => ?_))
  cases ha : a.testBit i with
  | true => rfl
  | false => exact absurd ⟨i, hi, ha⟩ hn
theorem test_pow {w : Nat} {b i : Nat} (hb : b < 2 ^ w) (h : b.testBit i = true) : i < w := by
  rcases Nat.lt_or_ge i w with h' | h'
  · exact h'
  · rw [Nat.testBit_lt_two_pow (Nat.lt_of_lt_of_le hb (Nat.pow_le_pow_right (by omega) h'))] at h
    cases h
theorem without_one {i j : Nat} (hi : i < 1024) : (∀ k, (andNot i (2 ^ j)).testBit k = (i.testBit k && decide (k ≠ j))) ∧ subB (andNot i (2 ^ j)) i = true ∧ andNot i (2 ^ j) < 1024 := by
  have h : ∀ k, (andNot i (2 ^ j)).testBit k = (i.testBit k && decide (k ≠ j)) := by
    intro k
    rcases Nat.lt_or_ge k 10 with hk | hk
    · rw [notI_test hk, Nat.testBit_two_pow]
      by_cases e : j = k
      · subst e; simp
      · simp [e, Ne.symm e]
    · have h1 : i.testBit k = false := Nat.testBit_lt_two_pow (Nat.lt_of_lt_of_le hi (Nat.pow_le_pow_right (n := 2) (by omega) hk))
      have h2 : (andNot i (2 ^ j)).testBit k = false := Nat.testBit_lt_two_pow (Nat.lt_of_lt_of_le (notI_lt hi) (Nat.pow_le_pow_right (n := 2) (by omega) hk))
      rw [h1, h2]; rfl
  refine ⟨h, sub_iff.2 fun k hk => ?_, notI_lt hi⟩
  rw [h, Bool.and_eq_true] at hk
  exact hk.1

/-! ### the parts of a label, two ways -/
theorem parts_range {s W : Nat} (hs : s < 2 ^ W) (p : Nat → Bool) : (partsN s).filter p = (List.range (2 ^ W)).filter (fun i => subB i s && p i) := by
  have e : partsN s = (List.range (2 ^ W)).filter (fun i => subB i s) := by
    show (List.range (s + 1)).filter (fun p => subB p s) = _
    obtain ⟨d, hd⟩ : ∃ d, 2 ^ W = (s + 1) + d := ⟨2 ^ W - (s + 1), by omega⟩
    rw [hd, @List.range_add (s + 1) d, List.filter_append]
    have : (List.map (fun x => s + 1 + x) (List.range d)).filter (fun i => subB i s) = [] := by
      rw [List.filter_eq_nil_iff]
      intro x hx h
      obtain ⟨y, _, rfl⟩ := List.mem_map.1 hx
      have := sub_le h
      omega
    rw [this, List.append_nil]
  rw [e, List.filter_filter]
  exact List.filter_congr (fun x _ => by rw [Bool.and_comm])
theorem goods_range {s W : Nat} (hs : s < 2 ^ W) (good : Int → Bool) : goodsI good (s : Int) = ((List.range (2 ^ W)).filter (fun i => subB i s && good (i : Int))).map Int.ofNat := by
  unfold goodsI
  rw [Int.toNat_natCast, List.filter_map, parts_range hs]
  rfl
theorem min_keys (G : List Int) : (minE G).map (fun e => e.2.1) = G.filter (fun y => !G.any (properB y)) := by
  unfold minE
  rw [show (fun e : Nat × Int × Int => !G.any (properB e.2.1)) = (fun y => !G.any (properB y)) ∘ (fun e => e.2.1) from rfl, ← List.filter_map, ents_keys]
theorem listI_w {w : Int} (hw : 0 ≤ w ∧ w ≤ 10) {i : Nat} (hi : i < 2 ^ w.toNat) : listI (i : Int) = listed i w.toNat := by
  unfold listI
  rw [Int.toNat_natCast]
  refine listed_stop 10 (by omega) (fun j h1 h2 => ?_)
  exact Nat.testBit_lt_two_pow (Nat.lt_of_lt_of_le hi (Nat.pow_le_pow_right (by omega) h1))
theorem proper_nat {i j : Nat} : properB (i : Int) (j : Int) = true ↔ i ≠ j ∧ subB j i = true := by
  unfold properB hasI
  rw [Int.toNat_natCast, Int.toNat_natCast]
  simp only [Bool.and_eq_true, decide_eq_true_eq]
  constructor
  · rintro ⟨h1, h2⟩; exact ⟨fun e => h1 (by rw [e]), h2⟩
  · rintro ⟨h1, h2⟩; exact ⟨fun e => h1 (by omega), h2⟩
/-- Those that are good and have no part that is: of the numbers below. -/
theorem min_nat (G : List Nat) : ((G.map Int.ofNat).filter (fun y => !(G.map Int.ofNat).any (properB y))) = (G.filter (fun i => !G.any (fun j => decide (i ≠ j) && subB j i))).map Int.ofNat := by
  rw [List.filter_map]
  congr 1
  refine List.filter_congr (fun i hi => ?_)
  show (!(G.map Int.ofNat).any (properB (i : Int))) = _
  congr 1
  rw [List.any_map]
  congr 1
  funext j
  show properB (i : Int) (j : Int) = _
  rw [Bool.eq_iff_iff, proper_nat]
  simp

/-! ### reasons -/
theorem reason_nat (w : Int) (rs : List (List Int × Int)) (x : Int) (i : Nat) : reasonOk w rs (andI 0 x) (i : Int) = hasW w rs x i := by
  unfold reasonOk
  rw [has_one' _ (fromI_nat w rs i)]
  rfl
theorem has_mono {w : Int} {rs : List (List Int × Int)} (hg : Gd w rs) {x : Int} {i j : Nat} (h : subB j i = true) (hj : hasW w rs x j = true) : hasW w rs x i = true :=
  sub_iff.1 (clo_mono hg h) _ hj
theorem least_iff {w : Int} {rs : List (List Int × Int)} (hg : Gd w rs) {x : Int} {s i : Nat} (hs : s < 2 ^ w.toNat) (hi : i < 2 ^ w.toNat) (his : subB i s = true) :
    (!((List.range (2 ^ w.toNat)).filter (fun i => subB i s && hasW w rs x i)).any (fun j => decide (i ≠ j) && subB j i)) = leastW w rs x i := by
  obtain ⟨hw1, hw2, _⟩ := guild_spec hg
  have hp := pow10 hw2
  rw [Bool.eq_iff_iff, Bool.not_eq_true', ← Bool.not_eq_true, List.any_eq_true]
  unfold leastW
  rw [List.all_eq_true]
  constructor
  · intro hn j hj
    rw [Bool.not_eq_true', ← Bool.not_eq_true, Bool.and_eq_true]
    rintro ⟨h1, h2⟩
    obtain ⟨g1, g2, g3⟩ := without_one (i := i) (j := j) (by omega)
    refine hn ⟨andNot i (2 ^ j), List.mem_filter.2 ⟨List.mem_range.2 ?_, ?_⟩, ?_⟩
    · exact Nat.lt_of_le_of_lt (sub_le g2) hi
    · rw [Bool.and_eq_true]; exact ⟨sub_trans g2 his, h2⟩
    · rw [Bool.and_eq_true, decide_eq_true_eq]
      refine ⟨fun e => ?_, g2⟩
      have := g1 j
      rw [← e, h1] at this
      simp at this
  · rintro h ⟨j, hj, hb⟩
    rw [Bool.and_eq_true, decide_eq_true_eq] at hb
    obtain ⟨hj1, hj2⟩ := List.mem_filter.1 hj
    rw [Bool.and_eq_true] at hj2
    obtain ⟨b, h1, h2⟩ := sub_antisymm' (Ne.symm hb.1) hb.2
    have hbw := test_pow hi h1
    have := h b (List.mem_range.2 hbw)
    rw [h1, Bool.true_and, Bool.not_eq_true'] at this
    obtain ⟨g1, g2, g3⟩ := without_one (i := i) (j := b) (by omega)
    have h3 : subB j (andNot i (2 ^ b)) = true := sub_iff.2 fun k hk => by
      rw [g1, sub_iff.1 hb.2 k hk]
      simp only [Bool.true_and, decide_eq_true_eq]
      intro e; subst e; rw [h2] at hk; cases hk
    rw [has_mono hg h3 hj2.2] at this
    cases this

theorem wordErr_ok {w : Int} {rs : List (List Int × Int)} {l : List Int} {x : Int} (h : wordErr w rs l x = 0) : Gd w rs ∧ isList l w = true ∧ 0 ≤ x ∧ x < w := by
  unfold wordErr at h
  split at h
  · rename_i h1; exact absurd h h1
  · rename_i h1
    obtain ⟨h2, h3⟩ := label_ok (Decidable.byContradiction h1)
    split at h
    · rename_i h4; exact ⟨h2, h3, h4⟩
    · cases h
theorem reaL_eq (w : Int) (rs : List (List Int × Int)) (l : List Int) (x : Int) : reaL w rs l x = reaL2 w rs l x := by
  unfold reaL reaL2
  by_cases h : wordErr w rs l x = 0
  · rw [if_pos h, if_pos h]
    obtain ⟨hg, hl, hx⟩ := wordErr_ok h
    obtain ⟨hw1, hw2, _⟩ := guild_spec hg
    have hs := bits_ltw hl
    unfold listsE reaRef
    congr 1
    rw [show (fun e : Nat × Int × Int => listI e.2.1) = listI ∘ (fun e => e.2.1) from rfl, ← List.map_map, min_keys]
    unfold goodsR bitsI
    rw [goods_range hs, min_nat, List.map_map, List.filter_filter]
    have e1 : (List.range (2 ^ w.toNat)).filter (fun a => (!((List.range (2 ^ w.toNat)).filter (fun i => subB i (bitsL l) && reasonOk w rs (andI 0 x) (i : Int))).any (fun j => decide (a ≠ j) && subB j a)) && (subB a (bitsL l) && reasonOk w rs (andI 0 x) (a : Int))) = (List.range (2 ^ w.toNat)).filter (reaG w rs (bitsL l) x) := by
      refine List.filter_congr (fun i hi => ?_)
      have hi := List.mem_range.1 hi
      simp only [reason_nat]
      unfold reaG
      cases hsub : subB i (bitsL l) with
      | false => simp
      | true =>
        rw [least_iff hg hs hi hsub]
        cases hasW w rs x i <;> simp
    rw [e1]
    refine List.map_congr_left (fun i hi => ?_)
    have hi := List.mem_range.1 (List.mem_filter.1 hi).1
    exact listI_w ⟨by omega, hw2⟩ hi
  · rw [if_neg h, if_neg h]
end Go.Abs.Label
end

section
/- Plain laws of labels: keys, what is taken, idle rules: two ways agree. -/
open Go.Proofs
set_option maxRecDepth 100000
set_option linter.unusedVariables false
namespace Go.Abs.Label

/-! ### keys -/
/-! ### what is taken -/
theorem best_fold {bet : List Int → List Int → Bool} (hO : Order bet) : ∀ (L : List (List Int)) (b : List Int),
    (L.foldl (fun b y => if bet y b then y else b) b = b ∨ L.foldl (fun b y => if bet y b then y else b) b ∈ L) ∧ bet b (L.foldl (fun b y => if bet y b then y else b) b) = false ∧ ∀ y ∈ L, bet y (L.foldl (fun b y => if bet y b then y else b) b) = false
  | [], b => ⟨.inl rfl, hO.irr b, by simp⟩
  | x :: L, b => by
    rw [List.foldl_cons]
    obtain ⟨h1, h2, h3⟩ := best_fold hO L (if bet x b then x else b)
    generalize L.foldl (fun b y => if bet y b then y else b) (if bet x b then x else b) = r at h1 h2 h3 ⊢
    by_cases hx : bet x b = true
    · rw [if_pos hx] at h1 h2
      refine ⟨.inr (h1.elim (fun e => by rw [e]; simp) (fun h => List.mem_cons_of_mem _ h)), ?_, fun y hy => ?_⟩
      · rw [← Bool.not_eq_true]
        intro hb
        rw [hO.tr _ _ _ hx hb] at h2; cases h2
      · rcases List.mem_cons.1 hy with rfl | hy
        · exact h2
        · exact h3 y hy
    · rw [if_neg hx] at h1 h2
      refine ⟨h1.imp_right (fun h => List.mem_cons_of_mem _ h), h2, fun y hy => ?_⟩
      rcases List.mem_cons.1 hy with rfl | hy
      · rw [← Bool.not_eq_true]
        intro hb
        rcases hO.tot b y with e | e | e
        · subst e; rw [hb] at h2; cases h2
        · rw [hO.tr _ _ _ e hb] at h2; cases h2
        · exact hx e
      · exact h3 y hy
end Go.Abs.Label
end

section
/- Plain laws of labels: idle rules, two ways; steps lead to what follows. -/
open Go.Proofs
set_option maxRecDepth 100000
set_option linter.unusedVariables false
namespace Go.Abs.Label

/-! ### fewer rules -/
/-! ### steps -/
/-! the steps in order -/
end Go.Abs.Label
end

section
/- Plain laws of labels: the steps that are returned lead to what follows, and none can be left out. -/
open Go.Proofs
set_option maxRecDepth 100000
set_option linter.unusedVariables false
namespace Go.Abs.Label

/-- Whether a word follows, or a label is banned. -/
def isS (w : Int) (rs : List (List Int × Int)) (b : Nat) (word : Int) : Bool := if 0 ≤ word then (clo w rs b).testBit word.toNat else banned w rs b
theorem label_err {w : Int} {rs : List (List Int × Int)} {l : List Int} (hg : Gd w rs) (hl : isList l w = true) : labelErr w rs l = 0 := by
  unfold labelErr
  rw [if_neg (by simpa using hg), if_pos hl]
end Go.Abs.Label
end

section
/- The label's statements: reasons and keys; what is taken, how many are closed, idle rules; steps; closed labels. -/
open Go.Proofs
set_option maxRecDepth 100000
set_option linter.unusedVariables false
namespace Go.Abs.Label

theorem p22 {a b : List (List Int)} (ha : a.length ≤ 1024 ∧ ∀ y ∈ a, y.length ≤ 10) (hb : b.length ≤ 1024 ∧ ∀ y ∈ b, y.length ≤ 10) : v22.p (a, b, ()) :=
  ⟨(show a.length ≤ 2000 by omega), (show b.length ≤ 2000 by omega), fun y hy => Nat.le_trans (ha.2 y hy) (by decide), fun y hy => Nat.le_trans (hb.2 y hy) (by decide)⟩
theorem p17 {a b : List Int} (ha : a.length ≤ 1000) (hb : b.length ≤ 1000) : v17.p (a, b, ()) :=
  ⟨(show a.length ≤ 1152921504606846976 by omega), (show b.length ≤ 1152921504606846976 by omega)⟩

theorem bestT_len {n : Nat} {L : List (List Int)} (h : ∀ y ∈ L, y.length ≤ n) : (bestT L).length ≤ n := by
  cases L with
  | nil => exact Nat.zero_le _
  | cons x L =>
    obtain ⟨c1, _, _⟩ := best_fold (bet := betT) order_betL L x
    show (L.foldl (fun b y => if betT y b then y else b) x).length ≤ n
    rcases c1 with e | e
    · rw [e]; exact h x (List.mem_cons_self ..)
    · exact h _ (List.mem_cons_of_mem _ e)
theorem take_len (w : Int) (rs : List (List Int × Int)) (l : List Int) : (takeL w rs l).length ≤ 10 := by
  unfold takeL
  split
  · refine bestT_len (fun y hy => ?_)
    obtain ⟨i, _, rfl⟩ := List.mem_map.1 hy
    exact listed_len _ 10
  · exact Nat.zero_le _

theorem fine_gd {w : Int} {rs : List (List Int × Int)} (h : fine w rs = true) : Gd w rs := by
  unfold fine geIs at h
  rw [Bool.and_eq_true] at h
  exact of_decide_eq_true h.2
theorem listedI_list (bits : Int) {w : Int} (h : 0 ≤ w) : isList (listedI bits w) w = true := isList_listed _ h
theorem land_w {a b : Nat} (ha : a < 1024) (hb : b < 1024) : bitsA .and .i64 (a : Int) (b : Int) = ((a &&& b : Nat) : Int) := land_nat a b (by omega) (by omega)
end Go.Abs.Label
end

section
/- The label's other statements: errors of steps, lists in order, words that are turned; steps. -/
open Go.Proofs
set_option maxRecDepth 100000
set_option linter.unusedVariables false
namespace Go.Abs.Label

theorem before_drop : ∀ (i : Nat) (a b : List Int), i ≤ a.length → i ≤ b.length → a.take i = b.take i → before a b = before (a.drop i) (b.drop i)
  | 0, a, b, _, _, _ => rfl
  | i + 1, [], b, h, _, _ => by simp at h
  | i + 1, x :: a, [], _, h, _ => by simp at h
  | i + 1, x :: a, y :: b, h1, h2, h3 => by
    simp only [List.take_succ_cons, List.cons.injEq] at h3
    simp only [List.length_cons] at h1 h2
    simp only [List.drop_succ_cons, before]
    rw [if_pos h3.1]
    exact before_drop i a b (by omega) (by omega) h3.2
theorem k227 (hG : Good Try.prog (envOf [])) : v227.Kept Try.prog 27 := by
  rintro ⟨a, b, ⟨⟩⟩ hpre k hk
  change List Int at a b
  refine aspec hmix hG Try.func27 txp27 (Eq.mpr (eq227 a b k) ?_)
  replace hk : k (rBo (before a b)) [] := hk
  unfold vc227
  have ha : a.length ≤ 1000 := hpre.1
  have hb : b.length ≤ 1000 := hpre.2
  refine Loop.upto (fun i => (a, b, (i : Int), ())) (fun i => i ≤ b.length ∧ a.take i = b.take i) a.length rfl ⟨Nat.zero_le _, rfl⟩ ?_ ?_
  · intro i K hi hp hK
    obtain ⟨hp1, hp2⟩ := hp
    dsimp only
    rw [br_true]
    refine ⟨fun _ => ?_, fun h => absurd (show (i : Int) < (a.length : Int) by omega) h⟩
    rw [br_decide]
    have hbe := before_drop i a b (by omega) hp1 hp2
    refine ⟨fun h => ?_, fun h => ?_⟩
    · have hib : i < b.length := by omega
      have ea : a.drop i = a[i] :: a.drop (i + 1) := List.drop_eq_getElem_cons hi
      have eb : b.drop i = b[i] :: b.drop (i + 1) := List.drop_eq_getElem_cons hib
      refine ⟨⟨by omega, by simpa using hi⟩, ⟨by omega, by simpa using hib⟩, ?_⟩
      simp only [Int.toNat_natCast]
      rw [br_bne]
      refine ⟨fun hne => ⟨⟨by omega, hi⟩, ⟨by omega, hib⟩, ?_⟩, fun he => ⟨fits64 (by omega) (by omega), ?_⟩⟩
      · rw [hbe, ea, eb, before, if_neg hne] at hk
        exact hk
      · refine hK ⟨by omega, ?_⟩
        rw [List.take_succ_eq_append_getElem hi, List.take_succ_eq_append_getElem hib, hp2, he]
    · have hib : b.length = i := by omega
      have eb : b.drop i = [] := List.drop_eq_nil_of_le (by omega)
      have ea : a.drop i = a[i] :: a.drop (i + 1) := List.drop_eq_getElem_cons hi
      rw [hbe, ea, eb, before] at hk
      rw [decide_eq_false (by omega)]
      exact hk
  · intro K hp
    obtain ⟨hp1, hp2⟩ := hp
    dsimp only
    rw [br_true]
    refine ⟨fun h => absurd h (by omega), fun _ => ?_⟩
    have hbe := before_drop a.length a b (Nat.le_refl _) hp1 hp2
    rw [hbe, List.drop_length] at hk
    cases hd : b.drop a.length with
    | nil =>
      have := congrArg List.length hd
      rw [List.length_drop] at this
      simp only [List.length_nil] at this
      rw [hd, before] at hk
      rw [decide_eq_false (by omega)]; exact hk
    | cons y m =>
      have := congrArg List.length hd
      rw [List.length_drop] at this
      simp only [List.length_cons] at this
      rw [hd, before] at hk
      rw [decide_eq_true (by omega)]; exact hk

theorem turn_lt {w d bits : Nat} (hw : 0 < w) : ∀ (l : List Nat) (o : Nat), o < 2 ^ w → l.foldl (turnS w d bits) o < 2 ^ w
  | [], o, h => h
  | i :: l, o, h => by
    refine turn_lt hw l _ ?_
    unfold turnS
    split
    · exact Nat.or_lt_two_pow h (Nat.pow_lt_pow_right (by omega) (Nat.mod_lt _ hw))
    · exact h
theorem pow10n {w : Nat} (h : w ≤ 10) : 2 ^ w ≤ 1024 := Nat.pow_le_pow_right (n := 2) (j := 10) (by omega) (by omega)
theorem bneS (a : Int) : ((a != a) == false) = true := by simp
end Go.Abs.Label
end

section
/- The label's other statements: one more word, one more rule; what is taken; idle rules. -/
open Go.Proofs
set_option maxRecDepth 100000
set_option linter.unusedVariables false
namespace Go.Abs.Label

theorem bits_listed_mod (b n : Nat) : bitsL (listed b n) = b % 2 ^ n := by
  have e : listed b n = listed (b % 2 ^ n) n := by
    unfold listed
    congr 1
    refine List.filter_congr (fun i hi => ?_)
    have := List.mem_range.1 hi
    rw [Nat.testBit_mod_two_pow, decide_eq_true this, Bool.true_and]
  rw [e, bits_listed (Nat.mod_lt _ (Nat.two_pow_pos _))]
theorem bitsI_listedN (b n : Nat) : bitsI (listedI (b : Int) (n : Int)) = ((b % 2 ^ n : Nat) : Int) := by
  unfold bitsI listedI
  rw [Int.toNat_natCast, Int.toNat_natCast, bits_listed_mod]
theorem bitsI_listedL {b n : Nat} (h : b < 2 ^ n) : bitsI (listedI (b : Int) (n : Int)) = (b : Int) := by
  rw [bitsI_listedN, Nat.mod_eq_of_lt h]
theorem and_of_sub {a b : Nat} (h : subB a b = true) : a &&& b = a := by
  refine sub_antisymm (sub_iff.2 fun i hi => ?_) (sub_iff.2 fun i hi => ?_)
  · rw [Nat.testBit_and, Bool.and_eq_true] at hi; exact hi.1
  · rw [Nat.testBit_and, hi, sub_iff.1 h i hi]; rfl
theorem land_sub {a b : Nat} (ha : a < 1024) (hb : b < 1024) (h : subB a b = true) : bitsA .and .i64 (a : Int) (b : Int) = (a : Int) := by
  rw [land_w ha hb, and_of_sub h]
end Go.Abs.Label
end

section
/- The label's other statements: idle rules; the examples. -/
open Go.Proofs
set_option maxRecDepth 100000
set_option linter.unusedVariables false
namespace Go.Abs.Label

end Go.Abs.Label
end

section
/- The label's other statements: words by other numbers, rules in another order. -/
open Go.Proofs
set_option maxRecDepth 100000
set_option linter.unusedVariables false
namespace Go.Abs.Label

theorem subset_len : ∀ (A B : List Nat), A.Nodup → (∀ x ∈ A, x ∈ B) → A.length ≤ B.length
  | [], B, _, _ => Nat.zero_le _
  | a :: A, B, hn, h => by
    obtain ⟨h1, h2⟩ := List.nodup_cons.1 hn
    have hm := h a (List.mem_cons_self ..)
    have := subset_len A (B.erase a) h2 (fun x hx => (List.mem_erase_of_ne (fun e => h1 (by rw [← e]; exact hx))).2 (h x (List.mem_cons_of_mem _ hx)))
    rw [List.length_erase_of_mem hm] at this
    have := List.length_pos_of_mem hm
    simp only [List.length_cons]; omega
theorem map_nodup {f : Nat → Nat} {A : List Nat} (hA : A.Nodup) (h : ∀ x ∈ A, ∀ y ∈ A, f x = f y → x = y) : (A.map f).Nodup := by
  unfold List.Nodup
  rw [List.pairwise_map]
  exact List.Pairwise.imp_of_mem (fun hx hy hne e => hne (h _ hx _ hy e)) hA
theorem range_nodup (n : Nat) (p : Nat → Bool) : ((List.range n).filter p).Nodup := List.Nodup.sublist List.filter_sublist List.nodup_range

/-- Where a number comes, so much later, round. -/
theorem rot {W d i : Nat} (hi : i < W) (hd : d < W) : (i + d) % W = if i + d < W then i + d else i + d - W := by
  split
  · exact Nat.mod_eq_of_lt (by assumption)
  · rw [Nat.mod_eq_sub_mod (by omega), Nat.mod_eq_of_lt (by omega)]
theorem rot_inj {W d i j : Nat} (hi : i < W) (hj : j < W) (hd : d < W) (h : (i + d) % W = (j + d) % W) : i = j := by
  rw [rot hi hd, rot hj hd] at h
  split at h <;> split at h <;> omega
theorem rot_sur {W d j : Nat} (hj : j < W) (hd : d < W) : ∃ i, i < W ∧ (i + d) % W = j := by
  by_cases h : d ≤ j
  · exact ⟨j - d, by omega, by rw [rot (by omega) hd, if_pos (by omega)]; omega⟩
  · exact ⟨j + W - d, by omega, by rw [rot (by omega) hd, if_neg (by omega)]; omega⟩

theorem turn_gen {W d b : Nat} (j : Nat) : ∀ (l : List Nat) (o : Nat), (l.foldl (turnS W d b) o).testBit j = true ↔ o.testBit j = true ∨ ∃ i ∈ l, b.testBit i = true ∧ (i + d) % W = j
  | [], o => by simp
  | x :: l, o => by
    rw [List.foldl_cons, turn_gen j l]
    unfold turnS
    constructor
    · rintro (h | ⟨i, h1, h2⟩)
      · split at h
        · rename_i hx
          rw [Nat.testBit_or, Bool.or_eq_true, Nat.testBit_two_pow, decide_eq_true_eq] at h
          rcases h with h | h
          · exact .inl h
          · exact .inr ⟨x, List.mem_cons_self .., hx, h⟩
        · exact .inl h
      · exact .inr ⟨i, List.mem_cons_of_mem _ h1, h2⟩
    · rintro (h | ⟨i, h1, h2, h3⟩)
      · left; split
        · rw [Nat.testBit_or, h]; rfl
        · exact h
      · rcases List.mem_cons.1 h1 with rfl | h1
        · left
          rw [if_pos h2, Nat.testBit_or, Nat.testBit_two_pow, decide_eq_true h3, Bool.or_true]
        · exact .inr ⟨i, h1, h2, h3⟩
theorem turn_test {W d b : Nat} (j : Nat) : (turnN W b d).testBit j = true ↔ ∃ i, i < W ∧ b.testBit i = true ∧ (i + d) % W = j := by
  unfold turnN
  rw [turn_gen]
  simp only [Nat.zero_testBit, Bool.false_eq_true, false_or, List.mem_range]
theorem turn_at {W d b i : Nat} (hi : i < W) (hd : d < W) : (turnN W b d).testBit ((i + d) % W) = b.testBit i := by
  rw [Bool.eq_iff_iff, turn_test]
  constructor
  · rintro ⟨k, h1, h2, h3⟩
    rw [← rot_inj h1 hi hd h3]; exact h2
  · exact fun h => ⟨i, hi, h, rfl⟩
theorem turn_lt2 {W d : Nat} (b : Nat) (hW : 0 < W) : turnN W b d < 2 ^ W := turn_lt hW _ _ (Nat.two_pow_pos _)
theorem turn_sub {W d a b : Nat} (hd : d < W) (ha : a < 2 ^ W) : subB (turnN W a d) (turnN W b d) = true ↔ subB a b = true := by
  rw [sub_iff, sub_iff]
  constructor
  · intro h i hi
    have hW := test_pow ha hi
    have := h ((i + d) % W) (by rw [turn_at hW hd]; exact hi)
    rwa [turn_at hW hd] at this
  · intro h j hj
    obtain ⟨i, h1, h2, h3⟩ := (turn_test j).1 hj
    exact (turn_test j).2 ⟨i, h1, h i h2, h3⟩
/-- The words that come there. -/
def unturn (W d e : Nat) : Nat := turnN W e ((W - d) % W)
theorem back_rot {W d i : Nat} (hi : i < W) (hd : d < W) : ((i + d) % W + (W - d) % W) % W = i := by
  have h1 : (W - d) % W < W := Nat.mod_lt _ (by omega)
  have h2 : (i + d) % W < W := Nat.mod_lt _ (by omega)
  rw [rot h2 h1, rot hi hd]
  by_cases h0 : d = 0
  · subst h0
    rw [Nat.sub_zero, Nat.mod_self]
    simp [hi]
  · rw [Nat.mod_eq_of_lt (show W - d < W by omega)]
    split <;> split <;> omega
theorem back_at {W d e i : Nat} (hi : i < W) (hd : d < W) : (unturn W d e).testBit i = e.testBit ((i + d) % W) := by
  have h2 : (i + d) % W < W := Nat.mod_lt _ (by omega)
  have := turn_at (b := e) h2 (Nat.mod_lt (W - d) (show 0 < W by omega))
  rw [back_rot hi hd] at this
  exact this
theorem turn_back {W d e : Nat} (hd : d < W) (he : e < 2 ^ W) : turnN W (unturn W d e) d = e := by
  apply Nat.eq_of_testBit_eq
  intro j
  rw [Bool.eq_iff_iff, turn_test]
  constructor
  · rintro ⟨i, h1, h2, rfl⟩
    rwa [back_at h1 hd] at h2
  · intro h
    have hj := test_pow he h
    obtain ⟨i, h1, h2⟩ := rot_sur hj hd
    exact ⟨i, h1, by rw [back_at h1 hd, h2]; exact h, h2⟩
theorem turn_inj {W d a b : Nat} (hd : d < W) (ha : a < 2 ^ W) (hb : b < 2 ^ W) (h : turnN W a d = turnN W b d) : a = b :=
  sub_antisymm ((turn_sub hd ha).1 (by rw [h]; exact le_refl_sub _)) ((turn_sub hd hb).1 (by rw [h]; exact le_refl_sub _))

/-! ### a guild that is turned -/
def turnR (W d : Nat) (r : List Int × Int) : List Int × Int := (listed (turnN W (bitsL r.1) d) W, if 0 ≤ r.2 then (((r.2.toNat + d) % W : Nat) : Int) else r.2)
/-- The rules of a turned guild. -/
structure Turned (W d : Nat) (rs R : List (List Int × Int)) : Prop where
  dl : d < W
  gd : Gd (W : Int) rs
  gd2 : Gd (W : Int) R
  mem : ∀ y, y ∈ R ↔ ∃ r ∈ rs, y = turnR W d r
section
variable {W d : Nat} {rs R : List (List Int × Int)} (T : Turned W d rs R)
include T
theorem Turned.wp : 0 < W := Nat.lt_of_le_of_lt (Nat.zero_le _) T.dl
theorem Turned.bits (r : List Int × Int) : bitsL (turnR W d r).1 = turnN W (bitsL r.1) d := bits_listed (turn_lt2 _ T.wp)
theorem Turned.ifs {r : List Int × Int} (hr : r ∈ rs) : bitsL r.1 < 2 ^ W := by
  have := bits_ltw ((guild_spec T.gd).2.2.2 r hr).2.1
  simpa using this
theorem Turned.clo {b : Nat} (hb : b < 2 ^ W) : clo (W : Int) R (turnN W b d) = turnN W (Label.clo (W : Int) rs b) d := by
  have hc : Label.clo (W : Int) rs b < 2 ^ W := by simpa using clo_ltw T.gd (b := b) (by simpa using hb)
  have hcl := clo_closed (w := (W : Int)) (by omega) (gd_w T.gd) b
  refine clo_unique ((turn_sub T.dl hb).2 (clo_sub _ _ _)) ?_ ?_ (by omega) (gd_w T.gd2)
  · intro y hy h0 hs
    obtain ⟨r, hr, rfl⟩ := (T.mem y).1 hy
    rw [T.bits, turn_sub T.dl (T.ifs hr)] at hs
    by_cases h2 : 0 ≤ r.2
    · have h3 := hcl r hr h2 hs
      have hw : r.2.toNat < W := by have := gd_w T.gd r hr; omega
      have e : (turnR W d r).2 = (((r.2.toNat + d) % W : Nat) : Int) := by unfold turnR; rw [if_pos h2]
      rw [e, Int.toNat_natCast, turn_at hw T.dl]
      exact h3
    · have e : (turnR W d r).2 = r.2 := by unfold turnR; rw [if_neg h2]
      rw [e] at h0; exact absurd h0 h2
  · intro e he hs
    have hm : e % 2 ^ W < 2 ^ W := Nat.mod_lt _ (Nat.two_pow_pos _)
    have hme : ∀ i, i < W → (e % 2 ^ W).testBit i = e.testBit i := fun i hi => by rw [Nat.testBit_mod_two_pow, decide_eq_true hi, Bool.true_and]
    have hmsub : subB (e % 2 ^ W) e = true := sub_iff.2 fun i hi => by rw [Nat.testBit_mod_two_pow, Bool.and_eq_true] at hi; exact hi.2
    have htb := turn_back T.dl hm
    have hcl2 : ClosedR rs (unturn W d (e % 2 ^ W)) := by
      intro r hr h2 hs2
      have hw : r.2.toNat < W := by have := gd_w T.gd r hr; omega
      have h3 := (turn_sub T.dl (T.ifs hr)).2 hs2
      rw [htb] at h3
      have e2 : (turnR W d r).2 = (((r.2.toNat + d) % W : Nat) : Int) := by unfold turnR; rw [if_pos h2]
      have h4 := he _ ((T.mem _).2 ⟨r, hr, rfl⟩) (by rw [e2]; omega) (by rw [T.bits]; exact sub_trans h3 hmsub)
      rw [e2, Int.toNat_natCast] at h4
      rw [back_at hw T.dl, hme _ (Nat.mod_lt _ T.wp)]
      exact h4
    have hb2 : subB b (unturn W d (e % 2 ^ W)) = true := by
      rw [← turn_sub T.dl hb, htb]
      refine sub_iff.2 fun i hi => ?_
      rw [hme i (test_pow (turn_lt2 _ T.wp) hi)]
      exact sub_iff.1 hs i hi
    have := (turn_sub (W := W) (d := d) T.dl hc).2 (clo_least hcl2 hb2)
    rw [htb] at this
    exact sub_trans this hmsub
theorem Turned.ban {b : Nat} (hb : b < 2 ^ W) : banned (W : Int) R (turnN W b d) = banned (W : Int) rs b := by
  rw [Bool.eq_iff_iff, ban_iff, ban_iff, T.clo hb]
  constructor
  · rintro ⟨y, hy, h1, h2⟩
    obtain ⟨r, hr, rfl⟩ := (T.mem y).1 hy
    rw [T.bits, turn_sub T.dl (T.ifs hr)] at h2
    refine ⟨r, hr, ?_, h2⟩
    unfold turnR at h1
    dsimp only at h1
    split at h1
    · omega
    · exact h1
  · rintro ⟨r, hr, h1, h2⟩
    refine ⟨_, (T.mem _).2 ⟨r, hr, rfl⟩, ?_, by rw [T.bits, turn_sub T.dl (T.ifs hr)]; exact h2⟩
    unfold turnR
    dsimp only
    rw [if_neg (by omega)]; exact h1
theorem Turned.cls {i : Nat} (hi : i < 2 ^ W) : clsI (W : Int) R ((turnN W i d : Nat) : Int) = clsI (W : Int) rs (i : Int) := by
  unfold clsI
  have hc : Label.clo (W : Int) rs i < 2 ^ W := by simpa using clo_ltw T.gd (b := i) (by simpa using hi)
  rw [fromI_nat, fromI_nat, banI_nat, banI_nat, T.clo hi, T.ban hi]
  congr 1
  refine decide_eq_decide.2 ⟨fun h => ?_, fun h => ?_⟩
  · have := turn_inj T.dl hc hi (by omega)
    omega
  · have : Label.clo (W : Int) rs i = i := by omega
    rw [this]
theorem Turned.closN : Label.closN (W : Int) rs = Label.closN (W : Int) R := by
  have a1 : ((List.range (2 ^ W)).filter (fun i : Nat => clsI (W : Int) rs (i : Int))).length ≤ ((List.range (2 ^ W)).filter (fun i : Nat => clsI (W : Int) R (i : Int))).length := by
    have := subset_len (((List.range (2 ^ W)).filter (fun i : Nat => clsI (W : Int) rs (i : Int))).map (fun i => turnN W i d)) ((List.range (2 ^ W)).filter (fun i : Nat => clsI (W : Int) R (i : Int)))
      (map_nodup (range_nodup _ _) (fun x hx y hy e => turn_inj T.dl (List.mem_range.1 (List.mem_filter.1 hx).1) (List.mem_range.1 (List.mem_filter.1 hy).1) e))
      (fun y hy => by
        obtain ⟨x, hx, rfl⟩ := List.mem_map.1 hy
        obtain ⟨x1, x2⟩ := List.mem_filter.1 hx
        exact List.mem_filter.2 ⟨List.mem_range.2 (turn_lt2 _ T.wp), by rw [T.cls (List.mem_range.1 x1)]; exact x2⟩)
    rwa [List.length_map] at this
  have a2 : ((List.range (2 ^ W)).filter (fun i : Nat => clsI (W : Int) R (i : Int))).length ≤ ((List.range (2 ^ W)).filter (fun i : Nat => clsI (W : Int) rs (i : Int))).length := by
    have hbl : ∀ e, unturn W d e < 2 ^ W := fun e => turn_lt2 _ T.wp
    have := subset_len (((List.range (2 ^ W)).filter (fun i : Nat => clsI (W : Int) R (i : Int))).map (fun i => unturn W d i)) ((List.range (2 ^ W)).filter (fun i : Nat => clsI (W : Int) rs (i : Int)))
      (map_nodup (range_nodup _ _) (fun x hx y hy e => by
        rw [← turn_back T.dl (List.mem_range.1 (List.mem_filter.1 hx).1), e, turn_back T.dl (List.mem_range.1 (List.mem_filter.1 hy).1)]))
      (fun y hy => by
        obtain ⟨x, hx, rfl⟩ := List.mem_map.1 hy
        obtain ⟨x1, x2⟩ := List.mem_filter.1 hx
        refine List.mem_filter.2 ⟨List.mem_range.2 (hbl _), ?_⟩
        have := T.cls (hbl x)
        rw [turn_back T.dl (List.mem_range.1 x1)] at this
        rw [← this]; exact x2)
    rwa [List.length_map] at this
  unfold Label.closN
  rw [Int.toNat_natCast]
  omega
end
end Go.Abs.Label
end

section
/- The label's other statements: reasons. -/
open Go.Proofs
set_option maxRecDepth 100000
set_option linter.unusedVariables false
namespace Go.Abs.Label

theorem nodup_listed {W : Nat} {P : List Nat} (hn : P.Nodup) (h : ∀ p ∈ P, p < 2 ^ W) : (P.map (fun p => listed p W)).Nodup := by
  unfold List.Nodup
  rw [List.pairwise_map]
  exact List.Pairwise.imp_of_mem (fun hx hy hne e => hne (by rw [← bits_listed (h _ hx), ← bits_listed (h _ hy), e])) hn
theorem sortLL_before {L : List (List Int)} (hn : L.Nodup) {i j : Nat} (hij : i < j) (hj : j < (sortLL L).length) : before ((sortLL L)[i]'(by omega)) ((sortLL L)[j]) = true := by
  have h1 := List.pairwise_iff_getElem.1 (sortLL_pair L) i j (by omega) hj hij
  have h2 : (sortLL L).Nodup := (sortLL_perm L).nodup_iff.2 hn
  have h3 := List.pairwise_iff_getElem.1 h2 i j (by omega) hj hij
  generalize (sortLL L)[i]'(by omega) = a at h1 h3 ⊢
  generalize (sortLL L)[j] = b at h1 h3 ⊢
  unfold cmpL at h1
  rw [if_neg (fun e => h3 e.symm)] at h1
  rcases before_total a b with e | e | e
  · exact absurd e h3
  · exact e
  · rw [if_pos e] at h1
    exact absurd (by decide) h1
theorem zero_test (a i : Nat) (ha : a < 9223372036854775808) : (bitsA .and .i64 (shrA .i64 (a : Int) (i : Int)) 1 == 0) = Bool.not (a.testBit i) := by
  rw [← bit_test a i ha]
  rw [shr_nat a i ha]
  have hlt : a >>> i < 9223372036854775808 := Nat.lt_of_le_of_lt (Nat.shiftRight_le _ _) ha
  rw [show (1 : Int) = ((1 : Nat) : Int) from rfl, land_nat _ 1 hlt (by omega)]
  have h5 := Nat.and_one_is_mod (a >>> i)
  have h6 := Nat.mod_two_eq_zero_or_one (a >>> i)
  rcases h6 with h6 | h6 <;> rw [h5, h6] <;> rfl
theorem has_min {w : Int} {rs : List (List Int × Int)} {x : Int} : ∀ (n s : Nat), s ≤ n → hasW w rs x s = true → ∃ p, subB p s = true ∧ hasW w rs x p = true ∧ ∀ q, subB q p = true → hasW w rs x q = true → q = p := by
  intro n
  induction n with
  | zero =>
    intro s hs h
    have : s = 0 := by omega
    subst this
    exact ⟨0, le_refl_sub _, h, fun q hq _ => by have := sub_le hq; omega⟩
  | succ n ih =>
    intro s hs h
    by_cases hm : ∀ q, subB q s = true → hasW w rs x q = true → q = s
    · exact ⟨s, le_refl_sub _, h, hm⟩
    · obtain ⟨q, hq⟩ := Classical.not_forall.1 hm
      have h1 : subB q s = true := Classical.byContradiction fun c => hq (fun a => absurd a c)
      have h2 : hasW w rs x q = true := Classical.byContradiction fun c => hq (fun _ a => absurd a c)
      have h3 : q ≠ s := fun c => hq (fun _ _ => c)
      have := sub_le h1
      obtain ⟨p, p1, p2, p3⟩ := ih q (by omega) h2
      exact ⟨p, sub_trans p1 h1, p2, p3⟩
theorem getD_at2 {r : List (List Int)} {i : Nat} (h : i < r.length) : r.getD i [] = r[i] := by
  rw [List.getD_eq_getElem?_getD, List.getElem?_eq_getElem h]; rfl
def inS (c : Bool) (r : List (List Int)) (y : Nat) : Nat → Bool
  | 0 => c
  | i + 1 => inS c r y i && (bitsL (r.getD i [])).testBit y
theorem inS_all {c : Bool} {r : List (List Int)} {y : Nat} : ∀ n, inS c r y n = true ↔ c = true ∧ ∀ i, i < n → (bitsL (r.getD i [])).testBit y = true
  | 0 => by simp [inS]
  | n + 1 => by
    unfold inS
    rw [Bool.and_eq_true, inS_all n]
    constructor
    · rintro ⟨⟨h1, h2⟩, h3⟩
      refine ⟨h1, fun i hi => ?_⟩
      rcases Nat.lt_or_ge i n with h | h
      · exact h2 i h
      · have : i = n := by omega
        rw [this]; exact h3
    · rintro ⟨h1, h2⟩
      exact ⟨⟨h1, fun i hi => h2 i (by omega)⟩, h2 n (by omega)⟩
/-- What is said of the reasons. -/
structure ReaSpec (W : Nat) (rs : List (List Int × Int)) (x : Int) (A : Nat) (r : List (List Int)) : Prop where
  at_ : ∀ i (h : i < r.length), isList r[i] (W : Int) = true ∧ bitsL r[i] < 2 ^ W ∧ subB (bitsL r[i]) A = true ∧ hasW W rs x (bitsL r[i]) = true ∧ ∀ q, subB q (bitsL r[i]) = true → hasW W rs x q = true → q = bitsL r[i]
  before : ∀ i j (hi : i < r.length) (hj : j < r.length), i < j → before r[i] r[j] = true
  inj : ∀ i j (hi : i < r.length) (hj : j < r.length), i < j → bitsL r[i] ≠ bitsL r[j]
  all : ∀ p, subB p A = true → hasW W rs x p = true → (∀ q, subB q p = true → hasW W rs x q = true → q = p) → ∃ i, ∃ h : i < r.length, bitsL r[i] = p
  len : r.length ≤ 2 ^ W
theorem rea_spec {W : Nat} {rs : List (List Int × Int)} {l : List Int} {x : Int} (hg : Gd (W : Int) rs) (hl : isList l (W : Int) = true) (hx : 0 ≤ x ∧ x < W) : ReaSpec W rs x (bitsL l) (reaL W rs l x) := by
  have hA : bitsL l < 2 ^ W := by simpa using bits_ltw hl
  have hw10 := (guild_spec hg).2.1
  have hp := pow10n (w := W) (by omega)
  have h0 : wordErr W rs l x = 0 := by unfold wordErr; rw [if_neg (by have := label_err hg hl; omega), if_pos hx]
  have e : reaL W rs l x = sortLL (((List.range (2 ^ W)).filter (reaG W rs (bitsL l) x)).map (fun i => listed i W)) := by
    rw [reaL_eq]; unfold reaL2; rw [if_pos h0]; unfold reaRef; rw [Int.toNat_natCast]
  have hmem : ∀ p, p ∈ (List.range (2 ^ W)).filter (reaG W rs (bitsL l) x) ↔ subB p (bitsL l) = true ∧ hasW W rs x p = true ∧ ∀ q, subB q p = true → hasW W rs x q = true → q = p := by
    intro p
    rw [List.mem_filter, List.mem_range]
    unfold reaG
    rw [Bool.and_eq_true, Bool.and_eq_true]
    constructor
    · rintro ⟨h1, h2, h3, h4⟩
      refine ⟨h2, h3, fun q q1 q2 => Classical.byContradiction fun hne => ?_⟩
      obtain ⟨b, b1, b2⟩ := sub_antisymm' hne q1
      unfold leastW at h4
      rw [List.all_eq_true] at h4
      have h5 := h4 b (List.mem_range.2 (by rw [Int.toNat_natCast]; exact test_pow h1 b1))
      obtain ⟨g1, g2, g3⟩ := without_one (i := p) (j := b) (by omega)
      have : subB q (andNot p (2 ^ b)) = true := sub_iff.2 fun k hk => by
        rw [g1, sub_iff.1 q1 k hk]
        simp only [Bool.true_and, decide_eq_true_eq]
        intro e; subst e; rw [b2] at hk; cases hk
      rw [b1, has_mono hg this q2] at h5
      cases h5
    · rintro ⟨h2, h3, h4⟩
      refine ⟨lt_of_tests (fun i hi => test_pow hA (sub_iff.1 h2 i hi)), h2, h3, ?_⟩
      unfold leastW
      rw [List.all_eq_true]
      intro b _
      rw [Bool.not_eq_true', ← Bool.not_eq_true, Bool.and_eq_true]
      rintro ⟨b1, b2⟩
      have hp2 : p < 2 ^ W := lt_of_tests (fun i hi => test_pow hA (sub_iff.1 h2 i hi))
      obtain ⟨g1, g2, g3⟩ := without_one (i := p) (j := b) (by omega)
      have := h4 _ g2 b2
      have h5 := g1 b
      rw [this, b1] at h5
      simp at h5
  have hlt : ∀ p ∈ (List.range (2 ^ W)).filter (reaG W rs (bitsL l) x), p < 2 ^ W := fun p hp => List.mem_range.1 (List.mem_filter.1 hp).1
  have hnd := range_nodup (2 ^ W) (reaG W rs (bitsL l) x)
  have hll : ((List.range (2 ^ W)).filter (reaG W rs (bitsL l) x)).length ≤ 2 ^ W := by
    have := List.length_filter_le (reaG W rs (bitsL l) x) (List.range (2 ^ W))
    rwa [List.length_range] at this
  rw [e]
  generalize (List.range (2 ^ W)).filter (reaG W rs (bitsL l) x) = P at hmem hlt hnd hll
  have hnd2 := nodup_listed hnd hlt
  have hget : ∀ i (h : i < (sortLL (P.map (fun i => listed i W))).length), ∃ p ∈ P, (sortLL (P.map (fun i => listed i W)))[i] = listed p W := fun i h => by
    obtain ⟨p, h1, h2⟩ := List.mem_map.1 ((sortLL_perm _).subset (List.getElem_mem h))
    exact ⟨p, h1, h2.symm⟩
  refine ⟨fun i h => ?_, fun i j hi hj hij => sortLL_before hnd2 hij hj, fun i j hi hj hij he => ?_, fun p h1 h2 h3 => ?_, ?_⟩
  · obtain ⟨p, h1, h2⟩ := hget i h
    rw [h2, bits_listed (hlt p h1)]
    obtain ⟨a, b, c⟩ := (hmem p).1 h1
    exact ⟨by simpa using isList_listed p (w := (W : Int)) (by omega), hlt p h1, a, b, c⟩
  · have := sortLL_before hnd2 hij hj
    obtain ⟨p, h1, h2⟩ := hget i hi
    obtain ⟨q, h3, h4⟩ := hget j hj
    rw [h2, h4, bits_listed (hlt p h1), bits_listed (hlt q h3)] at he
    rw [h2, h4, he, before_irrefl] at this
    cases this
  · have hin : p ∈ P := (hmem p).2 ⟨h1, h2, h3⟩
    have : listed p W ∈ sortLL (P.map (fun i => listed i W)) := (sortLL_perm _).mem_iff.2 (List.mem_map.2 ⟨p, hin, rfl⟩)
    obtain ⟨i, h, e⟩ := List.mem_iff_getElem.1 this
    exact ⟨i, h, by rw [e, bits_listed (hlt p hin)]⟩
  · rw [(sortLL_perm _).length_eq, List.length_map]; exact hll

theorem k205 (hG : Good Try.prog (envOf [(19, mkC [v29]), (20, mkC [v31]), (21, mkC [v30]), (24, mkC [v18]), (25, mkC [v47]), (26, mkC [v56]), (22, mkC [v35]), (13, mkC [v10]), (27, mkC [v227])])) : v205.Kept Try.prog 5 := by
  rintro ⟨w, rs, bits, one, two, ⟨⟩⟩ hpre k hk
  change Int at w
  change List (List Int × Int) at rs
  change Int at bits one two
  refine aspec hmix hG Try.func5 txp5 (Eq.mpr (eq205 w rs bits one two k) ?_)
  replace hk : k (rBo true) [] := hk
  unfold vc205
  obtain ⟨hbt, hon, htw⟩ := hpre
  have hbt : 0 ≤ bits ∧ bits < 65536 := hbt
  have hon : 0 ≤ one ∧ one < 256 := hon
  have htw : 0 ≤ two ∧ two < 256 := htw
  refine ⟨trivial, ?_⟩
  rw [br_not]
  refine ⟨fun _ => ⟨trivial, hk⟩, fun h => ?_⟩
  have hg := fine_gd h
  obtain ⟨hw1, hw2, hrl, _⟩ := guild_spec hg
  obtain ⟨W, rfl⟩ := Int.eq_ofNat_of_zero_le (show 0 ≤ w by omega)
  obtain ⟨X, hX⟩ : ∃ X : Nat, HMod.hMod one (W : Int) = (X : Int) := Int.eq_ofNat_of_zero_le (Int.emod_nonneg _ (by omega))
  have hXW : X < W := by have := Int.emod_lt_of_pos one (show (0 : Int) < W by omega); omega
  obtain ⟨Y, hY⟩ : ∃ Y : Nat, HMod.hMod two (W : Int) = (Y : Int) := Int.eq_ofNat_of_zero_le (Int.emod_nonneg _ (by omega))
  have hYW : Y < W := by have := Int.emod_lt_of_pos two (show (0 : Int) < W by omega); omega
  have hl := listedI_list bits (w := (W : Int)) (by omega)
  have h30 : v30.p ((W : Int), rs, bits, ()) := ⟨hg, hbt⟩
  obtain ⟨l, hle⟩ : ∃ l, listedI bits (W : Int) = l := ⟨_, rfl⟩
  rw [hle] at hl
  have hA : bitsL l < 2 ^ W := by simpa using bits_ltw hl
  have hp := pow10n (w := W) (by omega)
  have hll := isList_len hl
  rw [Int.toNat_natCast] at hll
  obtain ⟨hp1, hp2⟩ := pow_w (W := W) (by omega)
  have h0 : wordErr W rs l X = 0 := by unfold wordErr; rw [if_neg (by have := label_err hg hl; omega), if_pos (by omega)]
  have S := rea_spec (x := (X : Int)) hg hl (by omega)
  have eb : bitsI l = ((bitsL l : Nat) : Int) := rfl
  have hcl : clo (W : Int) rs (bitsL l) < 2 ^ W := by simpa using clo_ltw hg (b := bitsL l) (by simpa using hA)
  have hasA : (clo (W : Int) rs (bitsL l)).testBit X = hasW W rs X (bitsL l) := by unfold hasW; rw [Int.toNat_natCast]
  have sm := gd_small hg
  simp only [hle, hX, hY, h0, eb, fromI_nat]
  generalize reaL (W : Int) rs l (X : Int) = r at S
  obtain ⟨hr, hbef, hinj, hall, hlen⟩ := S
  have hne : hasW W rs X (bitsL l) = true ↔ 0 < r.length := by
    constructor
    · intro h
      obtain ⟨p, p1, p2, p3⟩ := has_min _ _ (Nat.le_refl _) h
      obtain ⟨i, hi, _⟩ := hall p p1 p2 p3
      omega
    · intro h
      obtain ⟨_, _, f3, f4, _⟩ := hr 0 h
      exact has_mono hg f3 f4
  refine ⟨h30, fits64 (by omega) (by omega), ⟨by omega, by omega⟩, fits64 (by omega) (by omega), ⟨by omega, by omega⟩, ⟨hg, hl⟩, ⟨sm, (show l.length ≤ 1000 by omega)⟩, ⟨(show l.length ≤ 1000 by omega), list_inL hw2 hl⟩, br_yes rfl ⟨by omega, br_yes ?_ ⟨by omega, br_no ?_ ?_⟩⟩⟩
  · rw [hp1, decide_eq_false (by omega)]; rfl
  · have et : (bitsA .and .i64 (shrA .i64 ((clo (W : Int) rs (bitsL l) : Nat) : Int) (X : Int)) 1 == 1) = hasW W rs X (bitsL l) := by rw [← hasA]; exact bit_test _ _ (by omega)
    rw [et]
    cases hc : hasW W rs X (bitsL l) with
    | true =>
      have := hne.1 hc
      rw [decide_eq_true (by omega)]; rfl
    | false =>
      have : ¬ 0 < r.length := fun h => by rw [hne.2 h] at hc; cases hc
      rw [decide_eq_false (by omega)]; rfl
  refine Loop.upto (fun i => ((X : Int), (Y : Int), ((bitsL l : Nat) : Int), inS (decide (((r.length : Nat) : Int) > 0)) r Y i, (i : Int), (W : Int), rs, r, ())) (fun i => True) r.length rfl trivial ?_ ?_
  · intro i K hi _ hK
    have hK := hK trivial
    dsimp only
    rw [br_decide]
    refine ⟨fun _ => ?_, fun h => absurd (show (i : Int) < (r.length : Int) by omega) h⟩
    simp only [Int.toNat_natCast]
    obtain ⟨f1, f2, f3, f4, f5⟩ := hr i hi
    have hri := isList_len f1
    rw [Int.toNat_natCast] at hri
    have h47 : v47.p (r[i], ()) := ⟨(show (r[i]).length ≤ 1000 by omega), list_inL hw2 f1⟩
    have eI : bitsI r[i] = ((bitsL r[i] : Nat) : Int) := rfl
    have hci : clo (W : Int) rs (bitsL r[i]) < 2 ^ W := by simpa using clo_ltw hg (b := bitsL r[i]) (by simpa using f2)
    have hrl2 : ∀ k (hk : k < r.length), (r[k]).length ≤ 1000 := fun k hk => by
      have := isList_len (hr k hk).1
      rw [Int.toNat_natCast] at this
      omega
    simp only [eI, fromI_nat, land_sub (a := bitsL r[i]) (b := bitsL l) (by omega) (by omega) f3]
    refine ⟨⟨by omega, hi⟩, hi, ⟨(show (r[i]).length ≤ 1152921504606846976 by omega), (show (0 : Int) ≤ (W : Int) by omega), (show (W : Int) ≤ 1000 by omega)⟩, br_no (by rw [f1]; rfl) ⟨⟨by omega, hi⟩, hi, h47, ⟨by omega, hi⟩, hi, ⟨hg, f1⟩, br_yes (bneS _) ⟨by omega, br_yes ?_ ?_⟩⟩⟩
    · have et := bit_test (clo (W : Int) rs (bitsL r[i])) X (by omega)
      have f4' : (clo (W : Int) rs (bitsL r[i])).testBit X = true := by unfold hasW at f4; rw [Int.toNat_natCast] at f4; exact f4
      rw [f4'] at et
      rw [eq_of_beq et]; rfl
    rw [br_true]
    refine ⟨fun h => ?_, fun h => ?_⟩
    · obtain ⟨j, hj⟩ : ∃ j : Nat, i = j + 1 := ⟨i - 1, by omega⟩
      have ej : Int.toNat ((i : Int) - 1) = j := by omega
      simp only [ej]
      have hjr : j < r.length := by omega
      refine ⟨fits64 (by omega) (by omega), ⟨by omega, hjr⟩, hjr, ⟨by omega, hi⟩, hi, ⟨hrl2 j hjr, hrl2 i hi⟩, br_no (by rw [hbef j i hjr hi (by omega)]; rfl) ?_⟩
      refine Loop.upto (fun k => ((X : Int), (Y : Int), ((bitsL l : Nat) : Int), inS (decide (((r.length : Nat) : Int) > 0)) r Y i, (i : Int), ((bitsL r[i] : Nat) : Int), (k : Int), (W : Int), rs, r, ())) (fun k => True) i rfl trivial ?_ ?_
      · intro k K2 hk2 _ hK2
        have hK2 := hK2 trivial
        dsimp only
        rw [br_decide]
        refine ⟨fun _ => ?_, fun h => absurd (show (k : Int) < (i : Int) by omega) h⟩
        simp only [Int.toNat_natCast]
        have hkr : k < r.length := by omega
        obtain ⟨g1, g2, g3, g4, g5⟩ := hr k hkr
        have eK : bitsI r[k] = ((bitsL r[k] : Nat) : Int) := rfl
        have hne : bitsL r[i] ≠ bitsL r[k] := fun e => absurd (hinj k i hkr hi hk2) (by rw [e]; simp)
        simp only [eK, land_w (a := bitsL r[i]) (b := bitsL r[k]) (by omega) (by omega)]
        refine ⟨⟨by omega, hkr⟩, hkr, ⟨hrl2 k hkr, list_inL hw2 g1⟩, br_yes ?_ (br_no ?_ ⟨fits64 (by omega) (by omega), hK2⟩)⟩
        · have : bitsL r[i] &&& bitsL r[k] ≠ bitsL r[i] := fun e => hne (g5 _ (decide_eq_true (by rw [Nat.and_comm]; exact e)) f4)
          have h3 : (((bitsL r[i] &&& bitsL r[k] : Nat) : Int) == ((bitsL r[i] : Nat) : Int)) = false := by simp; omega
          rw [h3]; rfl
        · have : bitsL r[i] &&& bitsL r[k] ≠ bitsL r[k] := fun e => hne (f5 _ (decide_eq_true e) g4).symm
          have h3 : (((bitsL r[i] &&& bitsL r[k] : Nat) : Int) == ((bitsL r[k] : Nat) : Int)) = false := by simp; omega
          exact h3
      · intro K2 _
        dsimp only
        rw [br_decide]
        refine ⟨fun h => absurd h (by omega), fun _ => ?_⟩
        have et : (bitsA .and .i64 (shrA .i64 ((bitsL r[i] : Nat) : Int) (Y : Int)) 1 == 1) = (bitsL r[i]).testBit Y := bit_test _ _ (by omega)
        rw [et, br_bt]
        refine ⟨fun h => ⟨by omega, fits64 (by omega) (by omega), ?_⟩, fun h => ⟨fits64 (by omega) (by omega), ?_⟩⟩
        · have e : inS (decide (((r.length : Nat) : Int) > 0)) r Y (i + 1) = (bitsL r[i]).testBit Y := by
            show (inS (decide (((r.length : Nat) : Int) > 0)) r Y i && (bitsL (r.getD i [])).testBit Y) = _
            rw [h, Bool.true_and, getD_at2 hi]
          rw [e] at hK; exact hK
        · have e : inS (decide (((r.length : Nat) : Int) > 0)) r Y (i + 1) = false := by
            show (inS (decide (((r.length : Nat) : Int) > 0)) r Y i && (bitsL (r.getD i [])).testBit Y) = _
            rw [h, Bool.false_and]
          rw [e] at hK; exact hK
    · skip
      refine Loop.upto (fun k => ((X : Int), (Y : Int), ((bitsL l : Nat) : Int), inS (decide (((r.length : Nat) : Int) > 0)) r Y i, (i : Int), ((bitsL r[i] : Nat) : Int), (k : Int), (W : Int), rs, r, ())) (fun k => True) i rfl trivial ?_ ?_
      · intro k K2 hk2 _ hK2
        have hK2 := hK2 trivial
        dsimp only
        rw [br_decide]
        refine ⟨fun _ => ?_, fun h => absurd (show (k : Int) < (i : Int) by omega) h⟩
        simp only [Int.toNat_natCast]
        have hkr : k < r.length := by omega
        obtain ⟨g1, g2, g3, g4, g5⟩ := hr k hkr
        have eK : bitsI r[k] = ((bitsL r[k] : Nat) : Int) := rfl
        have hne : bitsL r[i] ≠ bitsL r[k] := fun e => absurd (hinj k i hkr hi hk2) (by rw [e]; simp)
        simp only [eK, land_w (a := bitsL r[i]) (b := bitsL r[k]) (by omega) (by omega)]
        refine ⟨⟨by omega, hkr⟩, hkr, ⟨hrl2 k hkr, list_inL hw2 g1⟩, br_yes ?_ (br_no ?_ ⟨fits64 (by omega) (by omega), hK2⟩)⟩
        · have : bitsL r[i] &&& bitsL r[k] ≠ bitsL r[i] := fun e => hne (g5 _ (decide_eq_true (by rw [Nat.and_comm]; exact e)) f4)
          have h3 : (((bitsL r[i] &&& bitsL r[k] : Nat) : Int) == ((bitsL r[i] : Nat) : Int)) = false := by simp; omega
          rw [h3]; rfl
        · have : bitsL r[i] &&& bitsL r[k] ≠ bitsL r[k] := fun e => hne (f5 _ (decide_eq_true e) g4).symm
          have h3 : (((bitsL r[i] &&& bitsL r[k] : Nat) : Int) == ((bitsL r[k] : Nat) : Int)) = false := by simp; omega
          exact h3
      · intro K2 _
        dsimp only
        rw [br_decide]
        refine ⟨fun h => absurd h (by omega), fun _ => ?_⟩
        have et : (bitsA .and .i64 (shrA .i64 ((bitsL r[i] : Nat) : Int) (Y : Int)) 1 == 1) = (bitsL r[i]).testBit Y := bit_test _ _ (by omega)
        rw [et, br_bt]
        refine ⟨fun h => ⟨by omega, fits64 (by omega) (by omega), ?_⟩, fun h => ⟨fits64 (by omega) (by omega), ?_⟩⟩
        · have e : inS (decide (((r.length : Nat) : Int) > 0)) r Y (i + 1) = (bitsL r[i]).testBit Y := by
            show (inS (decide (((r.length : Nat) : Int) > 0)) r Y i && (bitsL (r.getD i [])).testBit Y) = _
            rw [h, Bool.true_and, getD_at2 hi]
          rw [e] at hK; exact hK
        · have e : inS (decide (((r.length : Nat) : Int) > 0)) r Y (i + 1) = false := by
            show (inS (decide (((r.length : Nat) : Int) > 0)) r Y i && (bitsL (r.getD i [])).testBit Y) = _
            rw [h, Bool.false_and]
          rw [e] at hK; exact hK
  · intro K _
    dsimp only
    rw [br_decide]
    refine ⟨fun h => absurd h (by omega), fun _ => ?_⟩
    have hin := inS_all (c := decide (((r.length : Nat) : Int) > 0)) (r := r) (y := Y) r.length
    generalize hI : inS (decide (((r.length : Nat) : Int) > 0)) r Y r.length = I at hin ⊢
    have hlen0 : (((r.length : Nat) : Int) == 0) = decide (r.length = 0) := by
      by_cases h : r.length = 0 <;> simp [h]
    have et : (bitsA .and .i64 (shrA .i64 ((bitsL l : Nat) : Int) (Y : Int)) 1 == 1) = (bitsL l).testBit Y := bit_test _ _ (by omega)
    have hnoA : (bitsL l).testBit Y = false → 0 < r.length → I = false := fun hA0 h0 => by
      cases hc : I with
      | false => rfl
      | true =>
        have := (hin.1 hc).2 0 h0
        rw [getD_at2 h0] at this
        have := sub_iff.1 (hr 0 h0).2.2.1 Y this
        rw [hA0] at this; cases this
    rw [hlen0, br_bf]
    refine ⟨fun hz => ?_, fun hz => br_no (by rw [hz]; rfl) ⟨trivial, hk⟩⟩
    have hz1 : r.length ≠ 0 := of_decide_eq_false hz
    have hdec : (bitsA .and .i64 (shrA .i64 ((bitsL l : Nat) : Int) (Y : Int)) 1 == 0) = Bool.not ((bitsL l).testBit Y) := zero_test _ _ (by omega)
    refine ⟨by omega, ?_⟩
    rw [hdec]
    cases hAY : (bitsL l).testBit Y with
    | false =>
      refine br_yes rfl (br_yes (by rw [hz]; rfl) (br_yes ?_ ⟨trivial, hk⟩))
      rw [hnoA hAY (by omega)]; rfl
    | true =>
      obtain ⟨g1, g2, g3⟩ := without_one (i := bitsL l) (j := Y) (by omega)
      have hY2 : 2 ^ Y < 2 ^ W := Nat.pow_lt_pow_right (by omega) hYW
      have eN : bitsA .andNot .i64 ((bitsL l : Nat) : Int) (shlA .i64 1 (Y : Int)) = ((andNot (bitsL l) (2 ^ Y) : Nat) : Int) := by
        rw [one_shl _ (by omega)]; exact notI_nat (by omega) (by omega)
      have ltN : andNot (bitsL l) (2 ^ Y) < 2 ^ W := Nat.lt_of_le_of_lt (sub_le g2) hA
      have hcN : clo (W : Int) rs (andNot (bitsL l) (2 ^ Y)) < 2 ^ W := by simpa using clo_ltw hg (b := andNot (bitsL l) (2 ^ Y)) (by simpa using ltN)
      have hzN : (bitsA .and .i64 (shrA .i64 ((clo (W : Int) rs (andNot (bitsL l) (2 ^ Y)) : Nat) : Int) (X : Int)) 1 == 0) = Bool.not (hasW W rs X (andNot (bitsL l) (2 ^ Y))) := by
        rw [zero_test _ _ (by omega)]; unfold hasW; rw [Int.toNat_natCast]
      refine br_no rfl ⟨by omega, ?_⟩
      rw [eN, bitsI_listedL ltN, fromI_nat, hzN]
      refine ⟨⟨(show (0 : Int) ≤ ((andNot (bitsL l) (2 ^ Y) : Nat) : Int) by omega), (show ((andNot (bitsL l) (2 ^ Y) : Nat) : Int) < 65536 by omega), (show (0 : Int) ≤ (W : Int) by omega), (show (W : Int) ≤ 40 by omega)⟩, ⟨hg, listedI_list _ (by omega)⟩, by omega, br_yes ?_ ⟨trivial, hk⟩⟩
      have hfin : I = Bool.not (hasW W rs X (andNot (bitsL l) (2 ^ Y))) := by
        cases hc : hasW W rs X (andNot (bitsL l) (2 ^ Y)) with
        | true =>
          obtain ⟨p, p1, p2, p3⟩ := has_min _ _ (Nat.le_refl _) hc
          obtain ⟨i, hi, he⟩ := hall p (sub_trans p1 g2) p2 p3
          cases hI2 : I with
          | false => rfl
          | true =>
            have := (hin.1 hI2).2 i hi
            rw [getD_at2 hi, he] at this
            have := sub_iff.1 p1 Y this
            rw [g1 Y] at this
            simp at this
        | false =>
          refine hin.2 ⟨decide_eq_true (by omega), fun i hi => ?_⟩
          rw [getD_at2 hi]
          cases ht : (bitsL r[i]).testBit Y with
          | true => rfl
          | false =>
            obtain ⟨_, _, f3, f4, _⟩ := hr i hi
            have : subB (bitsL r[i]) (andNot (bitsL l) (2 ^ Y)) = true := sub_iff.2 fun k hk => by
              rw [g1, sub_iff.1 f3 k hk]
              simp only [Bool.true_and, decide_eq_true_eq]
              intro e; subst e; rw [ht] at hk; cases hk
            rw [has_mono hg this f4] at hc; cases hc
      rw [hfin]; simp
end Go.Abs.Label
end

section
/- The contracts put together (printed by a program). -/
open Go.Proofs
set_option maxRecDepth 100000
namespace Go.Abs.Label
theorem hc11 : HasCode Try.prog 11 := hasCode Try.func11 (by kernel_rfl) (by kernel_rfl)
theorem g8 : Keeps Try.prog 11 [v8] := keeps1 hc11 (k8 good_nil)
theorem hc26 : HasCode Try.prog 26 := hasCode Try.func26 (by kernel_rfl) (by kernel_rfl)
theorem g56 : Keeps Try.prog 26 [v56] := keeps1 hc26 (k56 good_nil)
theorem hc51 : HasCode Try.prog 51 := hasCode Try.func51 (by kernel_rfl) (by kernel_rfl)
theorem g16 : Keeps Try.prog 51 [v16] := keeps1 hc51 (k16 (g56.add good_nil))
theorem hc19 : HasCode Try.prog 19 := hasCode Try.func19 (by kernel_rfl) (by kernel_rfl)
theorem g29 : Keeps Try.prog 19 [v29] := keeps1 hc19 (k29 (g8.add (g16.add good_nil)))
theorem hc75 : HasCode Try.prog 75 := hasCode Try.func75 (by kernel_rfl) (by kernel_rfl)
theorem g82 : Keeps Try.prog 75 [v82] := keeps1 hc75 (k82 good_nil)
theorem hc91 : HasCode Try.prog 91 := hasCode Try.func91 (by kernel_rfl) (by kernel_rfl)
theorem g96 : Keeps Try.prog 91 [v96] := keeps1 hc91 (k96 (g82.add good_nil))
theorem hc74 : HasCode Try.prog 74 := hasCode Try.func74 (by kernel_rfl) (by kernel_rfl)
theorem g81 : Keeps Try.prog 74 [v81] := keeps1 hc74 (k81 (g96.add good_nil))
theorem hc43 : HasCode Try.prog 43 := hasCode Try.func43 (by kernel_rfl) (by kernel_rfl)
theorem g50 : Keeps Try.prog 43 [v50] := keeps1 hc43 (k50 (g81.add good_nil))
theorem hc70 : HasCode Try.prog 70 := hasCode Try.func70 (by kernel_rfl) (by kernel_rfl)
theorem g52 : Keeps Try.prog 70 [v52] := keeps1 hc70 (k52 good_nil)
theorem hc77 : HasCode Try.prog 77 := hasCode Try.func77 (by kernel_rfl) (by kernel_rfl)
theorem g83a : Keeps Try.prog 77 [v83a] := keeps1 hc77 (k83a (g52.add good_nil))
theorem hc72 : HasCode Try.prog 72 := hasCode Try.func72 (by kernel_rfl) (by kernel_rfl)
theorem g54 : Keeps Try.prog 72 [v54] := keeps1 hc72 (k54 (g50.add good_nil))
theorem hc71 : HasCode Try.prog 71 := hasCode Try.func71 (by kernel_rfl) (by kernel_rfl)
theorem g53 : Keeps Try.prog 71 [v53] := keeps1 hc71 (k53 (g54.add good_nil))
theorem g83b : Keeps Try.prog 77 [v83b] := keeps1 hc77 (k83b (g53.add good_nil))
theorem hc73 : HasCode Try.prog 73 := hasCode Try.func73 (by kernel_rfl) (by kernel_rfl)
theorem g55 : Keeps Try.prog 73 [v55] := keeps1 hc73 (k55 (g50.add good_nil))
theorem g83c : Keeps Try.prog 77 [v83c] := keeps1 hc77 (k83c (g55.add good_nil))
theorem hc69 : HasCode Try.prog 69 := hasCode Try.func69 (by kernel_rfl) (by kernel_rfl)
theorem g51a_51b_51c : Keeps Try.prog 69 [v51a, v51b, v51c] := ⟨hc69.code, fun v' hm => by simp at hm; rcases hm with rfl | rfl | rfl; exact (k51a (g83a.add good_nil)); exact (k51b (g83b.add good_nil)); exact (k51c (g83c.add good_nil))⟩
theorem hc40 : HasCode Try.prog 40 := hasCode Try.func40 (by kernel_rfl) (by kernel_rfl)
theorem g15 : Keeps Try.prog 40 [v15] := keeps1 hc40 (k15 (g50.add (g51a_51b_51c.add good_nil)))
theorem hc50 : HasCode Try.prog 50 := hasCode Try.func50 (by kernel_rfl) (by kernel_rfl)
theorem g57 : Keeps Try.prog 50 [v57] := keeps1 hc50 (k57 good_nil)
theorem hc49 : HasCode Try.prog 49 := hasCode Try.func49 (by kernel_rfl) (by kernel_rfl)
theorem g73 : Keeps Try.prog 49 [v73] := keeps1 hc49 (k73 (g57.add good_nil))
theorem hc42 : HasCode Try.prog 42 := hasCode Try.func42 (by kernel_rfl) (by kernel_rfl)
theorem g42 : Keeps Try.prog 42 [v42] := keeps1 hc42 (k42 (g15.add (g54.add (g73.add good_nil))))
theorem hc76 : HasCode Try.prog 76 := hasCode Try.func76 (by kernel_rfl) (by kernel_rfl)
theorem g78 : Keeps Try.prog 76 [v78] := keeps1 hc76 (k78 good_nil)
theorem hc100 : HasCode Try.prog 100 := hasCode Try.func100 (by kernel_rfl) (by kernel_rfl)
theorem g101 : Keeps Try.prog 100 [v101] := keeps1 hc100 (k101 good_nil)
theorem hc88 : HasCode Try.prog 88 := hasCode Try.func88 (by kernel_rfl) (by kernel_rfl)
theorem g87 : Keeps Try.prog 88 [v87] := keeps1 hc88 (k87 (g101.add good_nil))
theorem hc61 : HasCode Try.prog 61 := hasCode Try.func61 (by kernel_rfl) (by kernel_rfl)
theorem g66 : Keeps Try.prog 61 [v66] := keeps1 hc61 (k66 (g87.add good_nil))
theorem hc83 : HasCode Try.prog 83 := hasCode Try.func83 (by kernel_rfl) (by kernel_rfl)
theorem g79 : Keeps Try.prog 83 [v79] := keeps1 hc83 (k79 (g73.add (g66.add good_nil)))
theorem hc48 : HasCode Try.prog 48 := hasCode Try.func48 (by kernel_rfl) (by kernel_rfl)
theorem g59 : Keeps Try.prog 48 [v59] := keeps1 hc48 (k59 good_nil)
theorem hc53 : HasCode Try.prog 53 := hasCode Try.func53 (by kernel_rfl) (by kernel_rfl)
theorem g43 : Keeps Try.prog 53 [v43] := keeps1 hc53 (k43 (g78.add (g57.add (g79.add (g59.add good_nil)))))
theorem hc62 : HasCode Try.prog 62 := hasCode Try.func62 (by kernel_rfl) (by kernel_rfl)
theorem g44 : Keeps Try.prog 62 [v44] := keeps1 hc62 (k44 good_nil)
theorem hc35 : HasCode Try.prog 35 := hasCode Try.func35 (by kernel_rfl) (by kernel_rfl)
theorem g11 : Keeps Try.prog 35 [v11] := keeps1 hc35 (k11 (g42.add (g43.add (g44.add good_nil))))
theorem hc84 : HasCode Try.prog 84 := hasCode Try.func84 (by kernel_rfl) (by kernel_rfl)
theorem g80 : Keeps Try.prog 84 [v80] := keeps1 hc84 (k80 (g73.add (g59.add good_nil)))
theorem g83d : Keeps Try.prog 77 [v83d] := keeps1 hc77 (k83d (g80.add good_nil))
theorem g51d : Keeps Try.prog 69 [v51d] := keeps1 hc69 (k51d (g83d.add good_nil))
theorem hc54 : HasCode Try.prog 54 := hasCode Try.func54 (by kernel_rfl) (by kernel_rfl)
theorem g48 : Keeps Try.prog 54 [v48] := keeps1 hc54 (k48 (g43.add (g79.add (g59.add (g80.add (g51d.add good_nil))))))
theorem hc37 : HasCode Try.prog 37 := hasCode Try.func37 (by kernel_rfl) (by kernel_rfl)
theorem g13 : Keeps Try.prog 37 [v13] := keeps1 hc37 (k13 (g42.add (g48.add good_nil)))
theorem hc25 : HasCode Try.prog 25 := hasCode Try.func25 (by kernel_rfl) (by kernel_rfl)
theorem g47 : Keeps Try.prog 25 [v47] := keeps1 hc25 (k47 good_nil)
theorem hc20 : HasCode Try.prog 20 := hasCode Try.func20 (by kernel_rfl) (by kernel_rfl)
theorem g31 : Keeps Try.prog 20 [v31] := keeps1 hc20 (k31 (g11.add (g13.add (g56.add (g47.add good_nil)))))
theorem hc22 : HasCode Try.prog 22 := hasCode Try.func22 (by kernel_rfl) (by kernel_rfl)
theorem g35 : Keeps Try.prog 22 [v35] := keeps1 hc22 (k35 good_nil)
theorem hc21 : HasCode Try.prog 21 := hasCode Try.func21 (by kernel_rfl) (by kernel_rfl)
theorem g30 : Keeps Try.prog 21 [v30] := keeps1 hc21 (k30 (g35.add good_nil))
theorem hc55 : HasCode Try.prog 55 := hasCode Try.func55 (by kernel_rfl) (by kernel_rfl)
theorem g58 : Keeps Try.prog 55 [v58] := keeps1 hc55 (k58 (g43.add (g59.add good_nil)))
theorem hc52 : HasCode Try.prog 52 := hasCode Try.func52 (by kernel_rfl) (by kernel_rfl)
theorem g67 : Keeps Try.prog 52 [v67] := keeps1 hc52 (k67 good_nil)
theorem hc87 : HasCode Try.prog 87 := hasCode Try.func87 (by kernel_rfl) (by kernel_rfl)
theorem g86 : Keeps Try.prog 87 [v86] := keeps1 hc87 (k86 (g59.add good_nil))
theorem hc98 : HasCode Try.prog 98 := hasCode Try.func98 (by kernel_rfl) (by kernel_rfl)
theorem g99 : Keeps Try.prog 98 [v99] := keeps1 hc98 (k99 (g86.add good_nil))
theorem hc86 : HasCode Try.prog 86 := hasCode Try.func86 (by kernel_rfl) (by kernel_rfl)
theorem g85 : Keeps Try.prog 86 [v85] := keeps1 hc86 (k85 (g99.add good_nil))
theorem hc57 : HasCode Try.prog 57 := hasCode Try.func57 (by kernel_rfl) (by kernel_rfl)
theorem g61a : Keeps Try.prog 57 [v61a] := keeps1 hc57 (k61a (g58.add (g67.add (g66.add (g86.add (g85.add good_nil))))))
theorem hc101 : HasCode Try.prog 101 := hasCode Try.func101 (by kernel_rfl) (by kernel_rfl)
theorem g102 : Keeps Try.prog 101 [v102] := keeps1 hc101 (k102 good_nil)
theorem hc89 : HasCode Try.prog 89 := hasCode Try.func89 (by kernel_rfl) (by kernel_rfl)
theorem g89 : Keeps Try.prog 89 [v89] := keeps1 hc89 (k89 (g102.add good_nil))
theorem hc65 : HasCode Try.prog 65 := hasCode Try.func65 (by kernel_rfl) (by kernel_rfl)
theorem g70 : Keeps Try.prog 65 [v70] := keeps1 hc65 (k70 (g89.add good_nil))
theorem hc85 : HasCode Try.prog 85 := hasCode Try.func85 (by kernel_rfl) (by kernel_rfl)
theorem g84 : Keeps Try.prog 85 [v84] := keeps1 hc85 (k84 (g70.add good_nil))
theorem hc56 : HasCode Try.prog 56 := hasCode Try.func56 (by kernel_rfl) (by kernel_rfl)
theorem g60 : Keeps Try.prog 56 [v60] := keeps1 hc56 (k60 (g44.add (g84.add good_nil)))
theorem hc24 : HasCode Try.prog 24 := hasCode Try.func24 (by kernel_rfl) (by kernel_rfl)
theorem g18 : Keeps Try.prog 24 [v18] := keeps1 hc24 (k18 (g42.add (g50.add (g57.add (g58.add (g61a.add (g60.add good_nil)))))))
theorem hc68 : HasCode Try.prog 68 := hasCode Try.func68 (by kernel_rfl) (by kernel_rfl)
theorem g77 : Keeps Try.prog 68 [v77] := keeps1 hc68 (k77 good_nil)
theorem hc34 : HasCode Try.prog 34 := hasCode Try.func34 (by kernel_rfl) (by kernel_rfl)
theorem g37 : Keeps Try.prog 34 [v37] := keeps1 hc34 (k37 (g77.add (g76 good_nil)))
theorem hc41 : HasCode Try.prog 41 := hasCode Try.func41 (by kernel_rfl) (by kernel_rfl)
theorem g38 : Keeps Try.prog 41 [v38] := keeps1 hc41 (k38 (g37.add (g77.add (g76 good_nil))))
theorem hc36 : HasCode Try.prog 36 := hasCode Try.func36 (by kernel_rfl) (by kernel_rfl)
theorem g39 : Keeps Try.prog 36 [v39] := keeps1 hc36 (k39 good_nil)
theorem hc16 : HasCode Try.prog 16 := hasCode Try.func16 (by kernel_rfl) (by kernel_rfl)
theorem g33 : Keeps Try.prog 16 [v33] := keeps1 hc16 (k33 (g42.add (g50.add (g73.add (g59.add (g57.add good_nil))))))
theorem hc78 : HasCode Try.prog 78 := hasCode Try.func78 (by kernel_rfl) (by kernel_rfl)
theorem g91 : Keeps Try.prog 78 [v91] := keeps1 hc78 (k91 (g73.add (g59.add good_nil)))
theorem g83e : Keeps Try.prog 77 [v83e] := keeps1 hc77 (k83e (g91.add good_nil))
theorem hc79 : HasCode Try.prog 79 := hasCode Try.func79 (by kernel_rfl) (by kernel_rfl)
theorem g92 : Keeps Try.prog 79 [v92] := keeps1 hc79 (k92 good_nil)
theorem hc80 : HasCode Try.prog 80 := hasCode Try.func80 (by kernel_rfl) (by kernel_rfl)
theorem g93 : Keeps Try.prog 80 [v93] := keeps1 hc80 (k93 good_nil)
theorem hc95 : HasCode Try.prog 95 := hasCode Try.func95 (by kernel_rfl) (by kernel_rfl)
theorem g105 : Keeps Try.prog 95 [v105] := keeps1 hc95 (k105 good_nil)
theorem hc94 : HasCode Try.prog 94 := hasCode Try.func94 (by kernel_rfl) (by kernel_rfl)
theorem g104 : Keeps Try.prog 94 [v104] := keeps1 hc94 (k104 good_nil)
theorem hc81 : HasCode Try.prog 81 := hasCode Try.func81 (by kernel_rfl) (by kernel_rfl)
theorem g94 : Keeps Try.prog 81 [v94] := keeps1 hc81 (k94 (g105.add (g104.add (g44.add (g33.add good_nil)))))
theorem hc44 : HasCode Try.prog 44 := hasCode Try.func44 (by kernel_rfl) (by kernel_rfl)
theorem g75 : Keeps Try.prog 44 [v75] := keeps1 hc44 (k75 (g78.add (g57.add (g59.add (g79.add (g83e.add (g73.add (g92.add (g93.add (g94.add good_nil))))))))))
theorem hc14 : HasCode Try.prog 14 := hasCode Try.func14 (by kernel_rfl) (by kernel_rfl)
theorem g32 : Keeps Try.prog 14 [v32] := keeps1 hc14 (k32 (g42.add (g50.add (g75.add good_nil))))
theorem hc58 : HasCode Try.prog 58 := hasCode Try.func58 (by kernel_rfl) (by kernel_rfl)
theorem g63 : Keeps Try.prog 58 [v63] := keeps1 hc58 (k63 (g43.add good_nil))
theorem g61b : Keeps Try.prog 57 [v61b] := keeps1 hc57 (k61b (g63.add (g67.add (g66.add (g86.add (g85.add good_nil))))))
theorem hc60 : HasCode Try.prog 60 := hasCode Try.func60 (by kernel_rfl) (by kernel_rfl)
theorem g65 : Keeps Try.prog 60 [v65] := keeps1 hc60 (k65 (g66.add good_nil))
theorem hc59 : HasCode Try.prog 59 := hasCode Try.func59 (by kernel_rfl) (by kernel_rfl)
theorem g64 : Keeps Try.prog 59 [v64] := keeps1 hc59 (k64 (g65.add good_nil))
theorem hc28 : HasCode Try.prog 28 := hasCode Try.func28 (by kernel_rfl) (by kernel_rfl)
theorem g20 : Keeps Try.prog 28 [v20] := keeps1 hc28 (k20 (g42.add (g43.add (g63.add (g61b.add (g64.add (g66.add (g60.add good_nil))))))))
theorem hc64 : HasCode Try.prog 64 := hasCode Try.func64 (by kernel_rfl) (by kernel_rfl)
theorem g69 : Keeps Try.prog 64 [v69] := keeps1 hc64 (k69 (g70.add good_nil))
theorem hc63 : HasCode Try.prog 63 := hasCode Try.func63 (by kernel_rfl) (by kernel_rfl)
theorem g68 : Keeps Try.prog 63 [v68] := keeps1 hc63 (k68 (g69.add good_nil))
theorem hc30 : HasCode Try.prog 30 := hasCode Try.func30 (by kernel_rfl) (by kernel_rfl)
theorem g23 : Keeps Try.prog 30 [v23] := keeps1 hc30 (k23 (g42.add (g48.add (g67.add (g44.add (g68.add good_nil))))))
theorem hc23 : HasCode Try.prog 23 := hasCode Try.func23 (by kernel_rfl) (by kernel_rfl)
theorem g25 : Keeps Try.prog 23 [v25] := keeps1 hc23 (k25 (g42.add (g67.add (g43.add (g48.add good_nil)))))
theorem hc66 : HasCode Try.prog 66 := hasCode Try.func66 (by kernel_rfl) (by kernel_rfl)
theorem g72 : Keeps Try.prog 66 [v72] := keeps1 hc66 (k72 (g90 good_nil))
theorem hc32 : HasCode Try.prog 32 := hasCode Try.func32 (by kernel_rfl) (by kernel_rfl)
theorem g27 : Keeps Try.prog 32 [v27] := keeps1 hc32 (k27 (g42.add (g50.add (g72.add (g73.add (g48.add (g43.add (g57.add (g59.add good_nil)))))))))
theorem hc29 : HasCode Try.prog 29 := hasCode Try.func29 (by kernel_rfl) (by kernel_rfl)
theorem g17 : Keeps Try.prog 29 [v17] := keeps1 hc29 (k17 good_nil)
theorem hc45 : HasCode Try.prog 45 := hasCode Try.func45 (by kernel_rfl) (by kernel_rfl)
theorem g45 : Keeps Try.prog 45 [v45] := keeps1 hc45 (k45 (g16.add (g56.add good_nil)))
theorem hc17 : HasCode Try.prog 17 := hasCode Try.func17 (by kernel_rfl) (by kernel_rfl)
theorem g40 : Keeps Try.prog 17 [v40] := keeps1 hc17 (k40 (g45.add (g47.add good_nil)))
theorem hc39 : HasCode Try.prog 39 := hasCode Try.func39 (by kernel_rfl) (by kernel_rfl)
theorem g41 : Keeps Try.prog 39 [v41] := keeps1 hc39 (k41 good_nil)
theorem hc38 : HasCode Try.prog 38 := hasCode Try.func38 (by kernel_rfl) (by kernel_rfl)
theorem g22 : Keeps Try.prog 38 [v22] := keeps1 hc38 (k22 (g17.add good_nil))
theorem hc13 : HasCode Try.prog 13 := hasCode Try.func13 (by kernel_rfl) (by kernel_rfl)
theorem g10 : Keeps Try.prog 13 [v10] := keeps1 hc13 (k10 (g37.add (g38.add (g39.add (g11.add (g13.add (g33.add (g32.add (g18.add (g20.add (g23.add (g25.add (g27.add (g17.add (g40.add (g41.add (g22.add good_nil)))))))))))))))))
theorem hc27 : HasCode Try.prog 27 := hasCode Try.func27 (by kernel_rfl) (by kernel_rfl)
theorem g227 : Keeps Try.prog 27 [v227] := keeps1 hc27 (k227 good_nil)
theorem hc5 : HasCode Try.prog 5 := hasCode Try.func5 (by kernel_rfl) (by kernel_rfl)
theorem g205 : Keeps Try.prog 5 [v205] := keeps1 hc5 (k205 (g29.add (g31.add (g30.add (g18.add (g47.add (g56.add (g35.add (g10.add (g227.add good_nil))))))))))
end Go.Abs.Label
end

