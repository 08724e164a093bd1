/- Part 7 of the road to this seat's statements: lemmas about a small interpreter over the model's code, and about the functions that it is used on. No condition of its own. -/
import Derived.Test.YtondgnghncpbeaaProg
import Derived.Test.YtondgnghncpbeaaW6

section
/- Conditions and their equations, printed by a program. -/
open Go.Proofs
set_option maxRecDepth 100000
set_option linter.unusedVariables false
namespace Go.Abs.Label
end Go.Abs.Label
end

section
/- The label's statements: which guilds are valid, what follows, what is banned. -/
open Go.Proofs
set_option maxRecDepth 100000
set_option linter.unusedVariables false
namespace Go.Abs.Label
theorem br_yes {b : Bool} {p q : Prop} (h : b = true) (hp : p) : br b p q := by subst h; exact hp
theorem eqbt (a : Int) : ((a == a) == true) = true := by simp
theorem eqBt (a : Bool) : ((a == a) == true) = true := by simp
end Go.Abs.Label
end

section
/- Plain laws of labels: reasons, keys, what is taken, idle rules: two ways agree. -/
open Go.Proofs
set_option maxRecDepth 100000
set_option linter.unusedVariables false
namespace Go.Abs.Label

/-! ### what follows -/
theorem ban_iff {w : Int} {rs : List (List Int × Int)} {b : Nat} : banned w rs b = true ↔ ∃ r ∈ rs, r.2 < 0 ∧ subB (bitsL r.1) (clo w rs b) = true := by
  unfold banned
  rw [List.any_eq_true]
  simp only [banR, Bool.and_eq_true, decide_eq_true_eq]
theorem test_pow {w : Nat} {b i : Nat} (hb : b < 2 ^ w) (h : b.testBit i = true) : i < w := by
  rcases Nat.lt_or_ge i w with h' | h'
  · exact h'
  · rw [Nat.testBit_lt_two_pow (Nat.lt_of_lt_of_le hb (Nat.pow_le_pow_right (by omega) h'))] at h
    cases h
/-! ### the parts of a label, two ways -/
/-! ### reasons -/
end Go.Abs.Label
end

section
/- Plain laws of labels: keys, what is taken, idle rules: two ways agree. -/
open Go.Proofs
set_option maxRecDepth 100000
set_option linter.unusedVariables false
namespace Go.Abs.Label

/-! ### keys -/
/-! ### what is taken -/
theorem best_fold {bet : List Int → List Int → Bool} (hO : Order bet) : ∀ (L : List (List Int)) (b : List Int),
    (L.foldl (fun b y => if bet y b then y else b) b = b ∨ L.foldl (fun b y => if bet y b then y else b) b ∈ L) ∧ bet b (L.foldl (fun b y => if bet y b then y else b) b) = false ∧ ∀ y ∈ L, bet y (L.foldl (fun b y => if bet y b then y else b) b) = false
  | [], b => ⟨.inl rfl, hO.irr b, by simp⟩
  | x :: L, b => by
    rw [List.foldl_cons]
    obtain ⟨h1, h2, h3⟩ := best_fold hO L (if bet x b then x else b)
    generalize L.foldl (fun b y => if bet y b then y else b) (if bet x b then x else b) = r at h1 h2 h3 ⊢
    by_cases hx : bet x b = true
    · rw [if_pos hx] at h1 h2
      refine ⟨.inr (h1.elim (fun e => by rw [e]; simp) (fun h => List.mem_cons_of_mem _ h)), ?_, fun y hy => ?_⟩
      · rw [← Bool.not_eq_true]
        intro hb
        rw [hO.tr _ _ _ hx hb] at h2; cases h2
      · rcases List.mem_cons.1 hy with rfl | hy
        · exact h2
        · exact h3 y hy
    · rw [if_neg hx] at h1 h2
      refine ⟨h1.imp_right (fun h => List.mem_cons_of_mem _ h), h2, fun y hy => ?_⟩
      rcases List.mem_cons.1 hy with rfl | hy
      · rw [← Bool.not_eq_true]
        intro hb
        rcases hO.tot b y with e | e | e
        · subst e; rw [hb] at h2; cases h2
        · rw [hO.tr _ _ _ e hb] at h2; cases h2
        · exact hx e
      · exact h3 y hy
end Go.Abs.Label
end

section
/- Plain laws of labels: idle rules, two ways; steps lead to what follows. -/
open Go.Proofs
set_option maxRecDepth 100000
set_option linter.unusedVariables false
namespace Go.Abs.Label

/-! ### fewer rules -/
/-! ### steps -/
/-! the steps in order -/
end Go.Abs.Label
end

section
/- Plain laws of labels: the steps that are returned lead to what follows, and none can be left out. -/
open Go.Proofs
set_option maxRecDepth 100000
set_option linter.unusedVariables false
namespace Go.Abs.Label

/-- Whether a word follows, or a label is banned. -/
def isS (w : Int) (rs : List (List Int × Int)) (b : Nat) (word : Int) : Bool := if 0 ≤ word then (clo w rs b).testBit word.toNat else banned w rs b
end Go.Abs.Label
end

section
/- The label's statements: reasons and keys; what is taken, how many are closed, idle rules; steps; closed labels. -/
open Go.Proofs
set_option maxRecDepth 100000
set_option linter.unusedVariables false
namespace Go.Abs.Label

theorem p22 {a b : List (List Int)} (ha : a.length ≤ 1024 ∧ ∀ y ∈ a, y.length ≤ 10) (hb : b.length ≤ 1024 ∧ ∀ y ∈ b, y.length ≤ 10) : v22.p (a, b, ()) :=
  ⟨(show a.length ≤ 2000 by omega), (show b.length ≤ 2000 by omega), fun y hy => Nat.le_trans (ha.2 y hy) (by decide), fun y hy => Nat.le_trans (hb.2 y hy) (by decide)⟩
theorem p17 {a b : List Int} (ha : a.length ≤ 1000) (hb : b.length ≤ 1000) : v17.p (a, b, ()) :=
  ⟨(show a.length ≤ 1152921504606846976 by omega), (show b.length ≤ 1152921504606846976 by omega)⟩

theorem bestT_len {n : Nat} {L : List (List Int)} (h : ∀ y ∈ L, y.length ≤ n) : (bestT L).length ≤ n := by
  cases L with
  | nil => exact Nat.zero_le _
  | cons x L =>
    obtain ⟨c1, _, _⟩ := best_fold (bet := betT) order_betL L x
    show (L.foldl (fun b y => if betT y b then y else b) x).length ≤ n
    rcases c1 with e | e
    · rw [e]; exact h x (List.mem_cons_self ..)
    · exact h _ (List.mem_cons_of_mem _ e)
theorem take_len (w : Int) (rs : List (List Int × Int)) (l : List Int) : (takeL w rs l).length ≤ 10 := by
  unfold takeL
  split
  · refine bestT_len (fun y hy => ?_)
    obtain ⟨i, _, rfl⟩ := List.mem_map.1 hy
    exact listed_len _ 10
  · exact Nat.zero_le _

theorem fine_gd {w : Int} {rs : List (List Int × Int)} (h : fine w rs = true) : Gd w rs := by
  unfold fine geIs at h
  rw [Bool.and_eq_true] at h
  exact of_decide_eq_true h.2
theorem listedI_list (bits : Int) {w : Int} (h : 0 ≤ w) : isList (listedI bits w) w = true := isList_listed _ h
end Go.Abs.Label
end

section
/- The label's other statements: errors of steps, lists in order, words that are turned; steps. -/
open Go.Proofs
set_option maxRecDepth 100000
set_option linter.unusedVariables false
namespace Go.Abs.Label

theorem out_in {lo hi y : Int} (h : lo ≤ y ∧ y ≤ hi) : outOf lo hi y = false := by unfold outOf; exact decide_eq_false (by omega)
theorem turn_lt {w d bits : Nat} (hw : 0 < w) : ∀ (l : List Nat) (o : Nat), o < 2 ^ w → l.foldl (turnS w d bits) o < 2 ^ w
  | [], o, h => h
  | i :: l, o, h => by
    refine turn_lt hw l _ ?_
    unfold turnS
    split
    · exact Nat.or_lt_two_pow h (Nat.pow_lt_pow_right (by omega) (Nat.mod_lt _ hw))
    · exact h
theorem pow10n {w : Nat} (h : w ≤ 10) : 2 ^ w ≤ 1024 := Nat.pow_le_pow_right (n := 2) (j := 10) (by omega) (by omega)
theorem k233 (hG : Good Try.prog (envOf [])) : v233.Kept Try.prog 33 := by
  rintro ⟨w, b, d, ⟨⟩⟩ hpre k hk
  change Int at w b d
  refine aspec hmix hG Try.func33 txp33 (Eq.mpr (eq233 w b d k) ?_)
  replace hk : k (rI (turnI w b d)) [] := hk
  unfold vc233
  obtain ⟨h1, h2, h3, h4, h5, h6⟩ := hpre
  have h1 : 1 ≤ w := h1
  have h2 : w ≤ 10 := h2
  have h3 : 0 ≤ b := h3
  have h4 : b < 65536 := h4
  have h5 : 0 ≤ d := h5
  have h6 : d < 65536 := h6
  obtain ⟨W, rfl⟩ := Int.eq_ofNat_of_zero_le (show 0 ≤ w by omega)
  obtain ⟨B, rfl⟩ := Int.eq_ofNat_of_zero_le h3
  obtain ⟨D, rfl⟩ := Int.eq_ofNat_of_zero_le h5
  refine Loop.upto (fun i => ((W : Int), (B : Int), (D : Int), ((((List.range i).foldl (turnS W D B) 0 : Nat)) : Int), (i : Int), ())) (fun i => True) W rfl trivial ?_ ?_
  · intro i K hi _ hK
    have hK := hK trivial
    dsimp only
    rw [br_decide]
    refine ⟨fun _ => ⟨by omega, ?_⟩, fun h => absurd (show (i : Int) < (W : Int) by omega) h⟩
    rw [bit_test B i (by omega)]
    have hlt := turn_lt (w := W) (d := D) (bits := B) (by omega) (List.range i) 0 (Nat.two_pow_pos _)
    have hp := pow10n (w := W) (by omega)
    rw [List.range_succ, List.foldl_append, List.foldl_cons, List.foldl_nil] at hK
    have hm : HMod.hMod ((i : Int) + (D : Int)) (W : Int) = (((i + D) % W : Nat) : Int) := by
      rw [Int.natCast_emod, Int.natCast_add]
    have hml : (i + D) % W < W := Nat.mod_lt _ (by omega)
    refine br_intro (fun h => ⟨fits64 (by omega) (by omega), ⟨by omega, by omega⟩, by rw [hm]; omega, fits64 (by omega) (by omega), ?_⟩) (fun h => ⟨fits64 (by omega) (by omega), ?_⟩)
    · rw [hm, one_shl _ (by omega), lor_nat _ _ (by omega) (pow_lt62 _ (by omega))]
      have e : turnS W D B ((List.range i).foldl (turnS W D B) 0) i = (List.range i).foldl (turnS W D B) 0 ||| 2 ^ ((i + D) % W) := by unfold turnS; rw [if_pos h]
      rw [e] at hK
      exact hK
    · have e : turnS W D B ((List.range i).foldl (turnS W D B) 0) i = (List.range i).foldl (turnS W D B) 0 := by unfold turnS; rw [if_neg (by simp [h])]
      rw [e] at hK
      exact hK
  · intro K _
    dsimp only
    rw [br_decide]
    exact ⟨fun h => absurd h (by omega), fun _ => hk⟩

end Go.Abs.Label
end

section
/- The label's other statements: one more word, one more rule; what is taken; idle rules. -/
open Go.Proofs
set_option maxRecDepth 100000
set_option linter.unusedVariables false
namespace Go.Abs.Label

theorem bits_listed_mod (b n : Nat) : bitsL (listed b n) = b % 2 ^ n := by
  have e : listed b n = listed (b % 2 ^ n) n := by
    unfold listed
    congr 1
    refine List.filter_congr (fun i hi => ?_)
    have := List.mem_range.1 hi
    rw [Nat.testBit_mod_two_pow, decide_eq_true this, Bool.true_and]
  rw [e, bits_listed (Nat.mod_lt _ (Nat.two_pow_pos _))]
theorem bitsI_listedN (b n : Nat) : bitsI (listedI (b : Int) (n : Int)) = ((b % 2 ^ n : Nat) : Int) := by
  unfold bitsI listedI
  rw [Int.toNat_natCast, Int.toNat_natCast, bits_listed_mod]
theorem bitsI_listedL {b n : Nat} (h : b < 2 ^ n) : bitsI (listedI (b : Int) (n : Int)) = (b : Int) := by
  rw [bitsI_listedN, Nat.mod_eq_of_lt h]
theorem closL_of {w : Int} {rs : List (List Int × Int)} (hg : Gd w rs) : closL w rs = closN w rs := by
  unfold closL; rw [if_pos hg]
end Go.Abs.Label
end

section
/- The label's other statements: idle rules; the examples. -/
open Go.Proofs
set_option maxRecDepth 100000
set_option linter.unusedVariables false
namespace Go.Abs.Label

theorem rule_at' {rs : List (List Int × Int)} {i : Nat} (h : i < rs.length) : rs.getD i ([], 0) = rs[i] := by
  rw [List.getD_eq_getElem?_getD, List.getElem?_eq_getElem h]; rfl

end Go.Abs.Label
end

section
/- The label's other statements: words by other numbers, rules in another order. -/
open Go.Proofs
set_option maxRecDepth 100000
set_option linter.unusedVariables false
namespace Go.Abs.Label

theorem subset_len : ∀ (A B : List Nat), A.Nodup → (∀ x ∈ A, x ∈ B) → A.length ≤ B.length
  | [], B, _, _ => Nat.zero_le _
  | a :: A, B, hn, h => by
    obtain ⟨h1, h2⟩ := List.nodup_cons.1 hn
    have hm := h a (List.mem_cons_self ..)
    have := subset_len A (B.erase a) h2 (fun x hx => (List.mem_erase_of_ne (fun e => h1 (by rw [← e]; exact hx))).2 (h x (List.mem_cons_of_mem _ hx)))
    rw [List.length_erase_of_mem hm] at this
    have := List.length_pos_of_mem hm
    simp only [List.length_cons]; omega
theorem map_nodup {f : Nat → Nat} {A : List Nat} (hA : A.Nodup) (h : ∀ x ∈ A, ∀ y ∈ A, f x = f y → x = y) : (A.map f).Nodup := by
  unfold List.Nodup
  rw [List.pairwise_map]
  exact List.Pairwise.imp_of_mem (fun hx hy hne e => hne (h _ hx _ hy e)) hA
theorem range_nodup (n : Nat) (p : Nat → Bool) : ((List.range n).filter p).Nodup := List.Nodup.sublist List.filter_sublist List.nodup_range

/-- Where a number comes, so much later, round. -/
theorem rot {W d i : Nat} (hi : i < W) (hd : d < W) : (i + d) % W = if i + d < W then i + d else i + d - W := by
  split
  · exact Nat.mod_eq_of_lt (by assumption)
  · rw [Nat.mod_eq_sub_mod (by omega), Nat.mod_eq_of_lt (by omega)]
theorem rot_inj {W d i j : Nat} (hi : i < W) (hj : j < W) (hd : d < W) (h : (i + d) % W = (j + d) % W) : i = j := by
  rw [rot hi hd, rot hj hd] at h
  split at h <;> split at h <;> omega
theorem rot_sur {W d j : Nat} (hj : j < W) (hd : d < W) : ∃ i, i < W ∧ (i + d) % W = j := by
  by_cases h : d ≤ j
  · exact ⟨j - d, by omega, by rw [rot (by omega) hd, if_pos (by omega)]; omega⟩
  · exact ⟨j + W - d, by omega, by rw [rot (by omega) hd, if_neg (by omega)]; omega⟩

theorem turn_gen {W d b : Nat} (j : Nat) : ∀ (l : List Nat) (o : Nat), (l.foldl (turnS W d b) o).testBit j = true ↔ o.testBit j = true ∨ ∃ i ∈ l, b.testBit i = true ∧ (i + d) % W = j
  | [], o => by simp
  | x :: l, o => by
    rw [List.foldl_cons, turn_gen j l]
    unfold turnS
    constructor
    · rintro (h | ⟨i, h1, h2⟩)
      · split at h
        · rename_i hx
          rw [Nat.testBit_or, Bool.or_eq_true, Nat.testBit_two_pow, decide_eq_true_eq] at h
          rcases h with h | h
          · exact .inl h
          · exact .inr ⟨x, List.mem_cons_self .., hx, h⟩
        · exact .inl h
      · exact .inr ⟨i, List.mem_cons_of_mem _ h1, h2⟩
    · rintro (h | ⟨i, h1, h2, h3⟩)
      · left; split
        · rw [Nat.testBit_or, h]; rfl
        · exact h
      · rcases List.mem_cons.1 h1 with rfl | h1
        · left
          rw [if_pos h2, Nat.testBit_or, Nat.testBit_two_pow, decide_eq_true h3, Bool.or_true]
        · exact .inr ⟨i, h1, h2, h3⟩
theorem turn_test {W d b : Nat} (j : Nat) : (turnN W b d).testBit j = true ↔ ∃ i, i < W ∧ b.testBit i = true ∧ (i + d) % W = j := by
  unfold turnN
  rw [turn_gen]
  simp only [Nat.zero_testBit, Bool.false_eq_true, false_or, List.mem_range]
theorem turn_at {W d b i : Nat} (hi : i < W) (hd : d < W) : (turnN W b d).testBit ((i + d) % W) = b.testBit i := by
  rw [Bool.eq_iff_iff, turn_test]
  constructor
  · rintro ⟨k, h1, h2, h3⟩
    rw [← rot_inj h1 hi hd h3]; exact h2
  · exact fun h => ⟨i, hi, h, rfl⟩
theorem turn_lt2 {W d : Nat} (b : Nat) (hW : 0 < W) : turnN W b d < 2 ^ W := turn_lt hW _ _ (Nat.two_pow_pos _)
theorem turn_mod (W d b : Nat) : turnN W (b % 2 ^ W) d = turnN W b d := by
  apply Nat.eq_of_testBit_eq
  intro j
  rw [Bool.eq_iff_iff, turn_test, turn_test]
  constructor <;> rintro ⟨i, h1, h2, h3⟩ <;> refine ⟨i, h1, ?_, h3⟩ <;> rw [Nat.testBit_mod_two_pow, decide_eq_true h1, Bool.true_and] at * <;> exact h2
theorem turn_sub {W d a b : Nat} (hd : d < W) (ha : a < 2 ^ W) : subB (turnN W a d) (turnN W b d) = true ↔ subB a b = true := by
  rw [sub_iff, sub_iff]
  constructor
  · intro h i hi
    have hW := test_pow ha hi
    have := h ((i + d) % W) (by rw [turn_at hW hd]; exact hi)
    rwa [turn_at hW hd] at this
  · intro h j hj
    obtain ⟨i, h1, h2, h3⟩ := (turn_test j).1 hj
    exact (turn_test j).2 ⟨i, h1, h i h2, h3⟩
/-- The words that come there. -/
def unturn (W d e : Nat) : Nat := turnN W e ((W - d) % W)
theorem back_rot {W d i : Nat} (hi : i < W) (hd : d < W) : ((i + d) % W + (W - d) % W) % W = i := by
  have h1 : (W - d) % W < W := Nat.mod_lt _ (by omega)
  have h2 : (i + d) % W < W := Nat.mod_lt _ (by omega)
  rw [rot h2 h1, rot hi hd]
  by_cases h0 : d = 0
  · subst h0
    rw [Nat.sub_zero, Nat.mod_self]
    simp [hi]
  · rw [Nat.mod_eq_of_lt (show W - d < W by omega)]
    split <;> split <;> omega
theorem back_at {W d e i : Nat} (hi : i < W) (hd : d < W) : (unturn W d e).testBit i = e.testBit ((i + d) % W) := by
  have h2 : (i + d) % W < W := Nat.mod_lt _ (by omega)
  have := turn_at (b := e) h2 (Nat.mod_lt (W - d) (show 0 < W by omega))
  rw [back_rot hi hd] at this
  exact this
theorem turn_back {W d e : Nat} (hd : d < W) (he : e < 2 ^ W) : turnN W (unturn W d e) d = e := by
  apply Nat.eq_of_testBit_eq
  intro j
  rw [Bool.eq_iff_iff, turn_test]
  constructor
  · rintro ⟨i, h1, h2, rfl⟩
    rwa [back_at h1 hd] at h2
  · intro h
    have hj := test_pow he h
    obtain ⟨i, h1, h2⟩ := rot_sur hj hd
    exact ⟨i, h1, by rw [back_at h1 hd, h2]; exact h, h2⟩
theorem turn_inj {W d a b : Nat} (hd : d < W) (ha : a < 2 ^ W) (hb : b < 2 ^ W) (h : turnN W a d = turnN W b d) : a = b :=
  sub_antisymm ((turn_sub hd ha).1 (by rw [h]; exact le_refl_sub _)) ((turn_sub hd hb).1 (by rw [h]; exact le_refl_sub _))

/-! ### a guild that is turned -/
def turnR (W d : Nat) (r : List Int × Int) : List Int × Int := (listed (turnN W (bitsL r.1) d) W, if 0 ≤ r.2 then (((r.2.toNat + d) % W : Nat) : Int) else r.2)
/-- The rules of a turned guild. -/
structure Turned (W d : Nat) (rs R : List (List Int × Int)) : Prop where
  dl : d < W
  gd : Gd (W : Int) rs
  gd2 : Gd (W : Int) R
  mem : ∀ y, y ∈ R ↔ ∃ r ∈ rs, y = turnR W d r
section
variable {W d : Nat} {rs R : List (List Int × Int)} (T : Turned W d rs R)
include T
theorem Turned.wp : 0 < W := Nat.lt_of_le_of_lt (Nat.zero_le _) T.dl
theorem Turned.bits (r : List Int × Int) : bitsL (turnR W d r).1 = turnN W (bitsL r.1) d := bits_listed (turn_lt2 _ T.wp)
theorem Turned.ifs {r : List Int × Int} (hr : r ∈ rs) : bitsL r.1 < 2 ^ W := by
  have := bits_ltw ((guild_spec T.gd).2.2.2 r hr).2.1
  simpa using this
theorem Turned.clo {b : Nat} (hb : b < 2 ^ W) : clo (W : Int) R (turnN W b d) = turnN W (Label.clo (W : Int) rs b) d := by
  have hc : Label.clo (W : Int) rs b < 2 ^ W := by simpa using clo_ltw T.gd (b := b) (by simpa using hb)
  have hcl := clo_closed (w := (W : Int)) (by omega) (gd_w T.gd) b
  refine clo_unique ((turn_sub T.dl hb).2 (clo_sub _ _ _)) ?_ ?_ (by omega) (gd_w T.gd2)
  · intro y hy h0 hs
    obtain ⟨r, hr, rfl⟩ := (T.mem y).1 hy
    rw [T.bits, turn_sub T.dl (T.ifs hr)] at hs
    by_cases h2 : 0 ≤ r.2
    · have h3 := hcl r hr h2 hs
      have hw : r.2.toNat < W := by have := gd_w T.gd r hr; omega
      have e : (turnR W d r).2 = (((r.2.toNat + d) % W : Nat) : Int) := by unfold turnR; rw [if_pos h2]
      rw [e, Int.toNat_natCast, turn_at hw T.dl]
      exact h3
    · have e : (turnR W d r).2 = r.2 := by unfold turnR; rw [if_neg h2]
      rw [e] at h0; exact absurd h0 h2
  · intro e he hs
    have hm : e % 2 ^ W < 2 ^ W := Nat.mod_lt _ (Nat.two_pow_pos _)
    have hme : ∀ i, i < W → (e % 2 ^ W).testBit i = e.testBit i := fun i hi => by rw [Nat.testBit_mod_two_pow, decide_eq_true hi, Bool.true_and]
    have hmsub : subB (e % 2 ^ W) e = true := sub_iff.2 fun i hi => by rw [Nat.testBit_mod_two_pow, Bool.and_eq_true] at hi; exact hi.2
    have htb := turn_back T.dl hm
    have hcl2 : ClosedR rs (unturn W d (e % 2 ^ W)) := by
      intro r hr h2 hs2
      have hw : r.2.toNat < W := by have := gd_w T.gd r hr; omega
      have h3 := (turn_sub T.dl (T.ifs hr)).2 hs2
      rw [htb] at h3
      have e2 : (turnR W d r).2 = (((r.2.toNat + d) % W : Nat) : Int) := by unfold turnR; rw [if_pos h2]
      have h4 := he _ ((T.mem _).2 ⟨r, hr, rfl⟩) (by rw [e2]; omega) (by rw [T.bits]; exact sub_trans h3 hmsub)
      rw [e2, Int.toNat_natCast] at h4
      rw [back_at hw T.dl, hme _ (Nat.mod_lt _ T.wp)]
      exact h4
    have hb2 : subB b (unturn W d (e % 2 ^ W)) = true := by
      rw [← turn_sub T.dl hb, htb]
      refine sub_iff.2 fun i hi => ?_
      rw [hme i (test_pow (turn_lt2 _ T.wp) hi)]
      exact sub_iff.1 hs i hi
    have := (turn_sub (W := W) (d := d) T.dl hc).2 (clo_least hcl2 hb2)
    rw [htb] at this
    exact sub_trans this hmsub
theorem Turned.ban {b : Nat} (hb : b < 2 ^ W) : banned (W : Int) R (turnN W b d) = banned (W : Int) rs b := by
  rw [Bool.eq_iff_iff, ban_iff, ban_iff, T.clo hb]
  constructor
  · rintro ⟨y, hy, h1, h2⟩
    obtain ⟨r, hr, rfl⟩ := (T.mem y).1 hy
    rw [T.bits, turn_sub T.dl (T.ifs hr)] at h2
    refine ⟨r, hr, ?_, h2⟩
    unfold turnR at h1
    dsimp only at h1
    split at h1
    · omega
    · exact h1
  · rintro ⟨r, hr, h1, h2⟩
    refine ⟨_, (T.mem _).2 ⟨r, hr, rfl⟩, ?_, by rw [T.bits, turn_sub T.dl (T.ifs hr)]; exact h2⟩
    unfold turnR
    dsimp only
    rw [if_neg (by omega)]; exact h1
theorem Turned.cls {i : Nat} (hi : i < 2 ^ W) : clsI (W : Int) R ((turnN W i d : Nat) : Int) = clsI (W : Int) rs (i : Int) := by
  unfold clsI
  have hc : Label.clo (W : Int) rs i < 2 ^ W := by simpa using clo_ltw T.gd (b := i) (by simpa using hi)
  rw [fromI_nat, fromI_nat, banI_nat, banI_nat, T.clo hi, T.ban hi]
  congr 1
  refine decide_eq_decide.2 ⟨fun h => ?_, fun h => ?_⟩
  · have := turn_inj T.dl hc hi (by omega)
    omega
  · have : Label.clo (W : Int) rs i = i := by omega
    rw [this]
theorem Turned.closN : Label.closN (W : Int) rs = Label.closN (W : Int) R := by
  have a1 : ((List.range (2 ^ W)).filter (fun i : Nat => clsI (W : Int) rs (i : Int))).length ≤ ((List.range (2 ^ W)).filter (fun i : Nat => clsI (W : Int) R (i : Int))).length := by
    have := subset_len (((List.range (2 ^ W)).filter (fun i : Nat => clsI (W : Int) rs (i : Int))).map (fun i => turnN W i d)) ((List.range (2 ^ W)).filter (fun i : Nat => clsI (W : Int) R (i : Int)))
      (map_nodup (range_nodup _ _) (fun x hx y hy e => turn_inj T.dl (List.mem_range.1 (List.mem_filter.1 hx).1) (List.mem_range.1 (List.mem_filter.1 hy).1) e))
      (fun y hy => by
        obtain ⟨x, hx, rfl⟩ := List.mem_map.1 hy
        obtain ⟨x1, x2⟩ := List.mem_filter.1 hx
        exact List.mem_filter.2 ⟨List.mem_range.2 (turn_lt2 _ T.wp), by rw [T.cls (List.mem_range.1 x1)]; exact x2⟩)
    rwa [List.length_map] at this
  have a2 : ((List.range (2 ^ W)).filter (fun i : Nat => clsI (W : Int) R (i : Int))).length ≤ ((List.range (2 ^ W)).filter (fun i : Nat => clsI (W : Int) rs (i : Int))).length := by
    have hbl : ∀ e, unturn W d e < 2 ^ W := fun e => turn_lt2 _ T.wp
    have := subset_len (((List.range (2 ^ W)).filter (fun i : Nat => clsI (W : Int) R (i : Int))).map (fun i => unturn W d i)) ((List.range (2 ^ W)).filter (fun i : Nat => clsI (W : Int) rs (i : Int)))
      (map_nodup (range_nodup _ _) (fun x hx y hy e => by
        rw [← turn_back T.dl (List.mem_range.1 (List.mem_filter.1 hx).1), e, turn_back T.dl (List.mem_range.1 (List.mem_filter.1 hy).1)]))
      (fun y hy => by
        obtain ⟨x, hx, rfl⟩ := List.mem_map.1 hy
        obtain ⟨x1, x2⟩ := List.mem_filter.1 hx
        refine List.mem_filter.2 ⟨List.mem_range.2 (hbl _), ?_⟩
        have := T.cls (hbl x)
        rw [turn_back T.dl (List.mem_range.1 x1)] at this
        rw [← this]; exact x2)
    rwa [List.length_map] at this
  unfold Label.closN
  rw [Int.toNat_natCast]
  omega
end
theorem gd_turned {W d : Nat} {rs R : List (List Int × Int)} (hd : d < W) (hg : Gd (W : Int) rs) (hl : R.length = rs.length) (hm : ∀ y, y ∈ R ↔ ∃ r ∈ rs, y = turnR W d r) : Turned W d rs R := by
  obtain ⟨h1, h2, h3, h4⟩ := guild_spec hg
  refine ⟨hd, hg, gd_of h1 h2 (by omega) (fun y hy => ?_), hm⟩
  obtain ⟨r, hr, rfl⟩ := (hm y).1 hy
  obtain ⟨a, b, c, e⟩ := h4 r hr
  refine ⟨?_, ?_, ?_⟩
  · refine decide_eq_false ?_
    have hb : bitsL r.1 < 2 ^ W := by simpa using bits_ltw b
    have e1 : (listed (turnN W (bitsL r.1) d) W).length ≤ (listed (bitsL r.1) W).length := by
      have := subset_len ((List.range W).filter (fun i => (turnN W (bitsL r.1) d).testBit i)) (((List.range W).filter (fun i => (bitsL r.1).testBit i)).map (fun i => (i + d) % W)) (range_nodup _ _) (fun y hy => by
        obtain ⟨y1, y2⟩ := List.mem_filter.1 hy
        obtain ⟨i, q1, q2, q3⟩ := (turn_test y).1 y2
        exact List.mem_map.2 ⟨i, List.mem_filter.2 ⟨List.mem_range.2 q1, q2⟩, q3⟩)
      unfold listed
      rw [List.length_map] at this
      rw [List.length_map, List.length_map]
      exact this
    have e2 : listed (bitsL r.1) W = r.1 := by simpa using listed_bits b
    rw [e2] at e1
    show ¬ (4 < (turnR W d r).1.length)
    show ¬ (4 < (listed (turnN W (bitsL r.1) d) W).length)
    omega
  · unfold ifBad
    have := isList_listed (turnN W (bitsL r.1) d) (w := (W : Int)) (by omega)
    rw [Int.toNat_natCast] at this
    rw [show (turnR W d r).1 = listed (turnN W (bitsL r.1) d) W from rfl, this]; rfl
  · refine out_in ?_
    unfold turnR
    dsimp only
    split
    · have := Nat.mod_lt (r.2.toNat + d) (show 0 < W by omega)
      omega
    · omega
def turnL (W d first : Nat) (rs : List (List Int × Int)) (i : Nat) : List (List Int × Int) := (List.range i).map (fun j => turnR W d (rs.getD ((j + first) % rs.length) ([], 0)))
theorem turnL_mem {W d first : Nat} {rs : List (List Int × Int)} (y : List Int × Int) : y ∈ turnL W d first rs rs.length ↔ ∃ r ∈ rs, y = turnR W d r := by
  unfold turnL
  rw [List.mem_map]
  constructor
  · rintro ⟨j, hj, rfl⟩
    have h1 := List.mem_range.1 hj
    have h2 := Nat.mod_lt (j + first) (show 0 < rs.length by omega)
    exact ⟨_, by rw [rule_at' h2]; exact List.getElem_mem _, rfl⟩
  · rintro ⟨r, hr, rfl⟩
    obtain ⟨q, hq, rfl⟩ := List.mem_iff_getElem.1 hr
    obtain ⟨j, h1, h2⟩ := rot_sur (d := first % rs.length) hq (Nat.mod_lt _ (by omega))
    rw [Nat.add_mod_mod] at h2
    exact ⟨j, List.mem_range.2 h1, by rw [h2, rule_at' hq]⟩
theorem turnL_succ {W d first : Nat} {rs : List (List Int × Int)} (i : Nat) : turnL W d first rs (i + 1) = turnL W d first rs i ++ [turnR W d (rs.getD ((i + first) % rs.length) ([], 0))] := by
  unfold turnL
  rw [List.range_succ, List.map_append]; rfl
theorem turnL_len {W d first : Nat} {rs : List (List Int × Int)} (i : Nat) : (turnL W d first rs i).length = i := by
  unfold turnL
  rw [List.length_map, List.length_range]

theorem k209 (hG : Good Try.prog (envOf [(19, mkC [v29]), (20, mkC [v31]), (21, mkC [v30]), (25, mkC [v47]), (22, mkC [v35]), (33, mkC [v233]), (23, mkC [v25]), (13, mkC [v10])])) : v209.Kept Try.prog 9 := by
  rintro ⟨w, rs, bits, more, first, ⟨⟩⟩ hpre k hk
  change Int at w
  change List (List Int × Int) at rs
  change Int at bits more first
  refine aspec hmix hG Try.func9 txp9 (Eq.mpr (eq209 w rs bits more first k) ?_)
  replace hk : k (rBo true) [] := hk
  unfold vc209
  obtain ⟨hbt, hmo, hfi⟩ := hpre
  have hbt : 0 ≤ bits ∧ bits < 65536 := hbt
  have hmo : 0 ≤ more ∧ more < 256 := hmo
  have hfi : 0 ≤ first ∧ first < 256 := hfi
  refine ⟨trivial, ?_⟩
  rw [br_not]
  refine ⟨fun _ => ⟨trivial, hk⟩, fun h => ?_⟩
  have hg := fine_gd h
  obtain ⟨hw1, hw2, hrl, hrr⟩ := guild_spec hg
  obtain ⟨W, rfl⟩ := Int.eq_ofNat_of_zero_le (show 0 ≤ w by omega)
  obtain ⟨B, rfl⟩ := Int.eq_ofNat_of_zero_le hbt.1
  obtain ⟨F, rfl⟩ := Int.eq_ofNat_of_zero_le hfi.1
  obtain ⟨D, hD⟩ : ∃ D : Nat, HMod.hMod more (W : Int) = (D : Int) := Int.eq_ofNat_of_zero_le (Int.emod_nonneg _ (by omega))
  have hDW : D < W := by have := Int.emod_lt_of_pos more (show (0 : Int) < W by omega); omega
  simp only [hD]
  refine ⟨fits64 (by omega) (by omega), ⟨by omega, by omega⟩, ?_⟩
  have hp := pow10n (w := W) (by omega)
  have h233 : ∀ b : Nat, b < 65536 → v233.p ((W : Int), (b : Int), (D : Int), ()) := fun b hb => ⟨hw1, hw2, (show (0 : Int) ≤ (b : Int) by omega), (show (b : Int) < 65536 by omega), (show (0 : Int) ≤ (D : Int) by omega), (show (D : Int) < 65536 by omega)⟩
  have h35 : ∀ n : Nat, n < 2 ^ W → v35.p ((n : Int), (W : Int), ()) := fun n hn => ⟨(show (0 : Int) ≤ (n : Int) by omega), (show (n : Int) < 65536 by omega), (show (0 : Int) ≤ (W : Int) by omega), (show (W : Int) ≤ 40 by omega)⟩
  have tI : ∀ b : Nat, turnI (W : Int) (b : Int) (D : Int) = ((turnN W b D : Nat) : Int) := fun b => by unfold turnI; rw [Int.toNat_natCast, Int.toNat_natCast, Int.toNat_natCast]
  have tl : ∀ b : Nat, turnN W b D < 2 ^ W := fun b => turn_lt2 b (by omega)
  have lI : ∀ b : Nat, listedI (b : Int) (W : Int) = listed b W := fun b => by unfold listedI; rw [Int.toNat_natCast, Int.toNat_natCast]
  refine Loop.upto (fun i => ((B : Int), (F : Int), (D : Int), (i : Int), (W : Int), rs, (W : Int), turnL W D F rs i, ())) (fun i => True) rs.length rfl trivial ?_ ?_
  · intro i K hi _ hK
    have hK := hK trivial
    dsimp only
    rw [br_decide]
    refine ⟨fun _ => ?_, fun h => absurd (show (i : Int) < (rs.length : Int) by omega) h⟩
    have hq : HMod.hMod ((i : Int) + (F : Int)) (rs.length : Int) = (((i + F) % rs.length : Nat) : Int) := by
      rw [Int.natCast_emod, Int.natCast_add]
    have hql : (i + F) % rs.length < rs.length := Nat.mod_lt _ (by omega)
    simp only [hq, Int.toNat_natCast]
    rw [turnL_succ, rule_at' hql] at hK
    refine ⟨fits64 (by omega) (by omega), fits64 (by omega) (by omega), ⟨by omega, by omega⟩, ⟨by omega, hql⟩, ?_⟩
    have hr := hrr _ (List.getElem_mem hql)
    have hlen := turnL_len (W := W) (d := D) (first := F) (rs := rs) i
    generalize rs[(i + F) % rs.length]'hql = r at hr hK ⊢
    obtain ⟨r1, r2, r3, r4⟩ := hr
    have hb : bitsL r.1 < 2 ^ W := by simpa using bits_ltw r2
    have h47 : v47.p (r.1, ()) := ⟨(show r.1.length ≤ 1000 by omega), list_inL hw2 r2⟩
    have eT : turnI (W : Int) (bitsI r.1) (D : Int) = ((turnN W (bitsL r.1) D : Nat) : Int) := tI _
    have h233' : v233.p ((W : Int), bitsI r.1, (D : Int), ()) := h233 _ (by omega)
    have hbig : ∀ y : List Int × Int, (turnL W D F rs i).length + [y].length ≤ big := fun y => by rw [hlen]; simp only [List.length_cons, List.length_nil, big]; omega
    rw [eT, lI]
    rw [br_decide]
    refine ⟨fun h => ?_, fun h => ?_⟩
    · have hmod : HMod.hMod (r.2 + (D : Int)) (W : Int) = (((r.2.toNat + D) % W : Nat) : Int) := by
        rw [Int.natCast_emod, Int.natCast_add, Int.toNat_of_nonneg h]
      rw [hmod]
      have eR : turnR W D r = (listed (turnN W (bitsL r.1) D) W, (((r.2.toNat + D) % W : Nat) : Int)) := by unfold turnR; rw [if_pos h]
      rw [eR] at hK
      exact ⟨fits64 (by omega) (by omega), ⟨by omega, by omega⟩, h47, h233', h35 _ (tl _), hbig _, fits64 (by omega) (by omega), hK⟩
    · have eR : turnR W D r = (listed (turnN W (bitsL r.1) D) W, r.2) := by unfold turnR; rw [if_neg (by omega)]
      rw [eR] at hK
      exact ⟨h47, h233', h35 _ (tl _), hbig _, fits64 (by omega) (by omega), hK⟩
  · intro K _
    dsimp only
    rw [br_decide]
    refine ⟨fun h => absurd h (by omega), fun _ => ?_⟩
    have T := gd_turned (d := D) hDW hg (turnL_len (first := F) _) turnL_mem
    generalize turnL W D F rs rs.length = R at T ⊢
    have hA : B % 2 ^ W < 2 ^ W := Nat.mod_lt _ (Nat.two_pow_pos _)
    have e1 : turnI (W : Int) (B : Int) (D : Int) = ((turnN W (B % 2 ^ W) D : Nat) : Int) := by rw [tI, turn_mod]
    have lB : isList (listedI (B : Int) (W : Int)) (W : Int) = true := listedI_list _ (by omega)
    have lT : isList (listedI ((turnN W (B % 2 ^ W) D : Nat) : Int) (W : Int)) (W : Int) = true := listedI_list _ (by omega)
    have h30 : v30.p ((W : Int), rs, (B : Int), ()) := ⟨hg, hbt⟩
    have c1 := T.clo hA
    have c2 := T.ban hA
    have hc : clo (W : Int) rs (B % 2 ^ W) < 2 ^ W := by simpa using clo_ltw hg (b := B % 2 ^ W) (by simpa using hA)
    have g1 : guildErr (W : Int) rs = 0 := hg
    have g2 : guildErr (W : Int) R = 0 := T.gd2
    simp only [e1, bitsI_listedN, bitsI_listedL (tl _), fromI_nat, banI_nat, c1, c2, tI, g1, g2, closL_of hg, closL_of T.gd2, T.closN]
    exact ⟨h30, ⟨hg, lB⟩, fits64 (by omega) (by omega), h233 _ (by omega), h35 _ (tl _), ⟨T.gd2, lT⟩, gd_small hg, gd_small T.gd2, h233 _ (by omega), br_yes (eqbt _) (br_yes (eqBt _) (br_yes rfl (br_yes rfl (br_yes (eqbt _) ⟨trivial, hk⟩))))⟩
end Go.Abs.Label
end

section
/- The contracts put together (printed by a program). -/
open Go.Proofs
set_option maxRecDepth 100000
namespace Go.Abs.Label
theorem hc11 : HasCode Try.prog 11 := hasCode Try.func11 (by kernel_rfl) (by kernel_rfl)
theorem g8 : Keeps Try.prog 11 [v8] := keeps1 hc11 (k8 good_nil)
theorem hc26 : HasCode Try.prog 26 := hasCode Try.func26 (by kernel_rfl) (by kernel_rfl)
theorem g56 : Keeps Try.prog 26 [v56] := keeps1 hc26 (k56 good_nil)
theorem hc51 : HasCode Try.prog 51 := hasCode Try.func51 (by kernel_rfl) (by kernel_rfl)
theorem g16 : Keeps Try.prog 51 [v16] := keeps1 hc51 (k16 (g56.add good_nil))
theorem hc19 : HasCode Try.prog 19 := hasCode Try.func19 (by kernel_rfl) (by kernel_rfl)
theorem g29 : Keeps Try.prog 19 [v29] := keeps1 hc19 (k29 (g8.add (g16.add good_nil)))
theorem hc75 : HasCode Try.prog 75 := hasCode Try.func75 (by kernel_rfl) (by kernel_rfl)
theorem g82 : Keeps Try.prog 75 [v82] := keeps1 hc75 (k82 good_nil)
theorem hc91 : HasCode Try.prog 91 := hasCode Try.func91 (by kernel_rfl) (by kernel_rfl)
theorem g96 : Keeps Try.prog 91 [v96] := keeps1 hc91 (k96 (g82.add good_nil))
theorem hc74 : HasCode Try.prog 74 := hasCode Try.func74 (by kernel_rfl) (by kernel_rfl)
theorem g81 : Keeps Try.prog 74 [v81] := keeps1 hc74 (k81 (g96.add good_nil))
theorem hc43 : HasCode Try.prog 43 := hasCode Try.func43 (by kernel_rfl) (by kernel_rfl)
theorem g50 : Keeps Try.prog 43 [v50] := keeps1 hc43 (k50 (g81.add good_nil))
theorem hc70 : HasCode Try.prog 70 := hasCode Try.func70 (by kernel_rfl) (by kernel_rfl)
theorem g52 : Keeps Try.prog 70 [v52] := keeps1 hc70 (k52 good_nil)
theorem hc77 : HasCode Try.prog 77 := hasCode Try.func77 (by kernel_rfl) (by kernel_rfl)
theorem g83a : Keeps Try.prog 77 [v83a] := keeps1 hc77 (k83a (g52.add good_nil))
theorem hc72 : HasCode Try.prog 72 := hasCode Try.func72 (by kernel_rfl) (by kernel_rfl)
theorem g54 : Keeps Try.prog 72 [v54] := keeps1 hc72 (k54 (g50.add good_nil))
theorem hc71 : HasCode Try.prog 71 := hasCode Try.func71 (by kernel_rfl) (by kernel_rfl)
theorem g53 : Keeps Try.prog 71 [v53] := keeps1 hc71 (k53 (g54.add good_nil))
theorem g83b : Keeps Try.prog 77 [v83b] := keeps1 hc77 (k83b (g53.add good_nil))
theorem hc73 : HasCode Try.prog 73 := hasCode Try.func73 (by kernel_rfl) (by kernel_rfl)
theorem g55 : Keeps Try.prog 73 [v55] := keeps1 hc73 (k55 (g50.add good_nil))
theorem g83c : Keeps Try.prog 77 [v83c] := keeps1 hc77 (k83c (g55.add good_nil))
theorem hc69 : HasCode Try.prog 69 := hasCode Try.func69 (by kernel_rfl) (by kernel_rfl)
theorem g51a_51b_51c : Keeps Try.prog 69 [v51a, v51b, v51c] := ⟨hc69.code, fun v' hm => by simp at hm; rcases hm with rfl | rfl | rfl; exact (k51a (g83a.add good_nil)); exact (k51b (g83b.add good_nil)); exact (k51c (g83c.add good_nil))⟩
theorem hc40 : HasCode Try.prog 40 := hasCode Try.func40 (by kernel_rfl) (by kernel_rfl)
theorem g15 : Keeps Try.prog 40 [v15] := keeps1 hc40 (k15 (g50.add (g51a_51b_51c.add good_nil)))
theorem hc50 : HasCode Try.prog 50 := hasCode Try.func50 (by kernel_rfl) (by kernel_rfl)
theorem g57 : Keeps Try.prog 50 [v57] := keeps1 hc50 (k57 good_nil)
theorem hc49 : HasCode Try.prog 49 := hasCode Try.func49 (by kernel_rfl) (by kernel_rfl)
theorem g73 : Keeps Try.prog 49 [v73] := keeps1 hc49 (k73 (g57.add good_nil))
theorem hc42 : HasCode Try.prog 42 := hasCode Try.func42 (by kernel_rfl) (by kernel_rfl)
theorem g42 : Keeps Try.prog 42 [v42] := keeps1 hc42 (k42 (g15.add (g54.add (g73.add good_nil))))
theorem hc76 : HasCode Try.prog 76 := hasCode Try.func76 (by kernel_rfl) (by kernel_rfl)
theorem g78 : Keeps Try.prog 76 [v78] := keeps1 hc76 (k78 good_nil)
theorem hc100 : HasCode Try.prog 100 := hasCode Try.func100 (by kernel_rfl) (by kernel_rfl)
theorem g101 : Keeps Try.prog 100 [v101] := keeps1 hc100 (k101 good_nil)
theorem hc88 : HasCode Try.prog 88 := hasCode Try.func88 (by kernel_rfl) (by kernel_rfl)
theorem g87 : Keeps Try.prog 88 [v87] := keeps1 hc88 (k87 (g101.add good_nil))
theorem hc61 : HasCode Try.prog 61 := hasCode Try.func61 (by kernel_rfl) (by kernel_rfl)
theorem g66 : Keeps Try.prog 61 [v66] := keeps1 hc61 (k66 (g87.add good_nil))
theorem hc83 : HasCode Try.prog 83 := hasCode Try.func83 (by kernel_rfl) (by kernel_rfl)
theorem g79 : Keeps Try.prog 83 [v79] := keeps1 hc83 (k79 (g73.add (g66.add good_nil)))
theorem hc48 : HasCode Try.prog 48 := hasCode Try.func48 (by kernel_rfl) (by kernel_rfl)
theorem g59 : Keeps Try.prog 48 [v59] := keeps1 hc48 (k59 good_nil)
theorem hc53 : HasCode Try.prog 53 := hasCode Try.func53 (by kernel_rfl) (by kernel_rfl)
theorem g43 : Keeps Try.prog 53 [v43] := keeps1 hc53 (k43 (g78.add (g57.add (g79.add (g59.add good_nil)))))
theorem hc62 : HasCode Try.prog 62 := hasCode Try.func62 (by kernel_rfl) (by kernel_rfl)
theorem g44 : Keeps Try.prog 62 [v44] := keeps1 hc62 (k44 good_nil)
theorem hc35 : HasCode Try.prog 35 := hasCode Try.func35 (by kernel_rfl) (by kernel_rfl)
theorem g11 : Keeps Try.prog 35 [v11] := keeps1 hc35 (k11 (g42.add (g43.add (g44.add good_nil))))
theorem hc84 : HasCode Try.prog 84 := hasCode Try.func84 (by kernel_rfl) (by kernel_rfl)
theorem g80 : Keeps Try.prog 84 [v80] := keeps1 hc84 (k80 (g73.add (g59.add good_nil)))
theorem g83d : Keeps Try.prog 77 [v83d] := keeps1 hc77 (k83d (g80.add good_nil))
theorem g51d : Keeps Try.prog 69 [v51d] := keeps1 hc69 (k51d (g83d.add good_nil))
theorem hc54 : HasCode Try.prog 54 := hasCode Try.func54 (by kernel_rfl) (by kernel_rfl)
theorem g48 : Keeps Try.prog 54 [v48] := keeps1 hc54 (k48 (g43.add (g79.add (g59.add (g80.add (g51d.add good_nil))))))
theorem hc37 : HasCode Try.prog 37 := hasCode Try.func37 (by kernel_rfl) (by kernel_rfl)
theorem g13 : Keeps Try.prog 37 [v13] := keeps1 hc37 (k13 (g42.add (g48.add good_nil)))
theorem hc25 : HasCode Try.prog 25 := hasCode Try.func25 (by kernel_rfl) (by kernel_rfl)
theorem g47 : Keeps Try.prog 25 [v47] := keeps1 hc25 (k47 good_nil)
theorem hc20 : HasCode Try.prog 20 := hasCode Try.func20 (by kernel_rfl) (by kernel_rfl)
theorem g31 : Keeps Try.prog 20 [v31] := keeps1 hc20 (k31 (g11.add (g13.add (g56.add (g47.add good_nil)))))
theorem hc22 : HasCode Try.prog 22 := hasCode Try.func22 (by kernel_rfl) (by kernel_rfl)
theorem g35 : Keeps Try.prog 22 [v35] := keeps1 hc22 (k35 good_nil)
theorem hc21 : HasCode Try.prog 21 := hasCode Try.func21 (by kernel_rfl) (by kernel_rfl)
theorem g30 : Keeps Try.prog 21 [v30] := keeps1 hc21 (k30 (g35.add good_nil))
theorem hc33 : HasCode Try.prog 33 := hasCode Try.func33 (by kernel_rfl) (by kernel_rfl)
theorem g233 : Keeps Try.prog 33 [v233] := keeps1 hc33 (k233 good_nil)
theorem hc52 : HasCode Try.prog 52 := hasCode Try.func52 (by kernel_rfl) (by kernel_rfl)
theorem g67 : Keeps Try.prog 52 [v67] := keeps1 hc52 (k67 good_nil)
theorem hc23 : HasCode Try.prog 23 := hasCode Try.func23 (by kernel_rfl) (by kernel_rfl)
theorem g25 : Keeps Try.prog 23 [v25] := keeps1 hc23 (k25 (g42.add (g67.add (g43.add (g48.add good_nil)))))
theorem hc68 : HasCode Try.prog 68 := hasCode Try.func68 (by kernel_rfl) (by kernel_rfl)
theorem g77 : Keeps Try.prog 68 [v77] := keeps1 hc68 (k77 good_nil)
theorem hc34 : HasCode Try.prog 34 := hasCode Try.func34 (by kernel_rfl) (by kernel_rfl)
theorem g37 : Keeps Try.prog 34 [v37] := keeps1 hc34 (k37 (g77.add (g76 good_nil)))
theorem hc41 : HasCode Try.prog 41 := hasCode Try.func41 (by kernel_rfl) (by kernel_rfl)
theorem g38 : Keeps Try.prog 41 [v38] := keeps1 hc41 (k38 (g37.add (g77.add (g76 good_nil))))
theorem hc36 : HasCode Try.prog 36 := hasCode Try.func36 (by kernel_rfl) (by kernel_rfl)
theorem g39 : Keeps Try.prog 36 [v39] := keeps1 hc36 (k39 good_nil)
theorem hc16 : HasCode Try.prog 16 := hasCode Try.func16 (by kernel_rfl) (by kernel_rfl)
theorem g33 : Keeps Try.prog 16 [v33] := keeps1 hc16 (k33 (g42.add (g50.add (g73.add (g59.add (g57.add good_nil))))))
theorem hc78 : HasCode Try.prog 78 := hasCode Try.func78 (by kernel_rfl) (by kernel_rfl)
theorem g91 : Keeps Try.prog 78 [v91] := keeps1 hc78 (k91 (g73.add (g59.add good_nil)))
theorem g83e : Keeps Try.prog 77 [v83e] := keeps1 hc77 (k83e (g91.add good_nil))
theorem hc79 : HasCode Try.prog 79 := hasCode Try.func79 (by kernel_rfl) (by kernel_rfl)
theorem g92 : Keeps Try.prog 79 [v92] := keeps1 hc79 (k92 good_nil)
theorem hc80 : HasCode Try.prog 80 := hasCode Try.func80 (by kernel_rfl) (by kernel_rfl)
theorem g93 : Keeps Try.prog 80 [v93] := keeps1 hc80 (k93 good_nil)
theorem hc95 : HasCode Try.prog 95 := hasCode Try.func95 (by kernel_rfl) (by kernel_rfl)
theorem g105 : Keeps Try.prog 95 [v105] := keeps1 hc95 (k105 good_nil)
theorem hc94 : HasCode Try.prog 94 := hasCode Try.func94 (by kernel_rfl) (by kernel_rfl)
theorem g104 : Keeps Try.prog 94 [v104] := keeps1 hc94 (k104 good_nil)
theorem hc81 : HasCode Try.prog 81 := hasCode Try.func81 (by kernel_rfl) (by kernel_rfl)
theorem g94 : Keeps Try.prog 81 [v94] := keeps1 hc81 (k94 (g105.add (g104.add (g44.add (g33.add good_nil)))))
theorem hc44 : HasCode Try.prog 44 := hasCode Try.func44 (by kernel_rfl) (by kernel_rfl)
theorem g75 : Keeps Try.prog 44 [v75] := keeps1 hc44 (k75 (g78.add (g57.add (g59.add (g79.add (g83e.add (g73.add (g92.add (g93.add (g94.add good_nil))))))))))
theorem hc14 : HasCode Try.prog 14 := hasCode Try.func14 (by kernel_rfl) (by kernel_rfl)
theorem g32 : Keeps Try.prog 14 [v32] := keeps1 hc14 (k32 (g42.add (g50.add (g75.add good_nil))))
theorem hc55 : HasCode Try.prog 55 := hasCode Try.func55 (by kernel_rfl) (by kernel_rfl)
theorem g58 : Keeps Try.prog 55 [v58] := keeps1 hc55 (k58 (g43.add (g59.add good_nil)))
theorem hc87 : HasCode Try.prog 87 := hasCode Try.func87 (by kernel_rfl) (by kernel_rfl)
theorem g86 : Keeps Try.prog 87 [v86] := keeps1 hc87 (k86 (g59.add good_nil))
theorem hc98 : HasCode Try.prog 98 := hasCode Try.func98 (by kernel_rfl) (by kernel_rfl)
theorem g99 : Keeps Try.prog 98 [v99] := keeps1 hc98 (k99 (g86.add good_nil))
theorem hc86 : HasCode Try.prog 86 := hasCode Try.func86 (by kernel_rfl) (by kernel_rfl)
theorem g85 : Keeps Try.prog 86 [v85] := keeps1 hc86 (k85 (g99.add good_nil))
theorem hc57 : HasCode Try.prog 57 := hasCode Try.func57 (by kernel_rfl) (by kernel_rfl)
theorem g61a : Keeps Try.prog 57 [v61a] := keeps1 hc57 (k61a (g58.add (g67.add (g66.add (g86.add (g85.add good_nil))))))
theorem hc101 : HasCode Try.prog 101 := hasCode Try.func101 (by kernel_rfl) (by kernel_rfl)
theorem g102 : Keeps Try.prog 101 [v102] := keeps1 hc101 (k102 good_nil)
theorem hc89 : HasCode Try.prog 89 := hasCode Try.func89 (by kernel_rfl) (by kernel_rfl)
theorem g89 : Keeps Try.prog 89 [v89] := keeps1 hc89 (k89 (g102.add good_nil))
theorem hc65 : HasCode Try.prog 65 := hasCode Try.func65 (by kernel_rfl) (by kernel_rfl)
theorem g70 : Keeps Try.prog 65 [v70] := keeps1 hc65 (k70 (g89.add good_nil))
theorem hc85 : HasCode Try.prog 85 := hasCode Try.func85 (by kernel_rfl) (by kernel_rfl)
theorem g84 : Keeps Try.prog 85 [v84] := keeps1 hc85 (k84 (g70.add good_nil))
theorem hc56 : HasCode Try.prog 56 := hasCode Try.func56 (by kernel_rfl) (by kernel_rfl)
theorem g60 : Keeps Try.prog 56 [v60] := keeps1 hc56 (k60 (g44.add (g84.add good_nil)))
theorem hc24 : HasCode Try.prog 24 := hasCode Try.func24 (by kernel_rfl) (by kernel_rfl)
theorem g18 : Keeps Try.prog 24 [v18] := keeps1 hc24 (k18 (g42.add (g50.add (g57.add (g58.add (g61a.add (g60.add good_nil)))))))
theorem hc58 : HasCode Try.prog 58 := hasCode Try.func58 (by kernel_rfl) (by kernel_rfl)
theorem g63 : Keeps Try.prog 58 [v63] := keeps1 hc58 (k63 (g43.add good_nil))
theorem g61b : Keeps Try.prog 57 [v61b] := keeps1 hc57 (k61b (g63.add (g67.add (g66.add (g86.add (g85.add good_nil))))))
theorem hc60 : HasCode Try.prog 60 := hasCode Try.func60 (by kernel_rfl) (by kernel_rfl)
theorem g65 : Keeps Try.prog 60 [v65] := keeps1 hc60 (k65 (g66.add good_nil))
theorem hc59 : HasCode Try.prog 59 := hasCode Try.func59 (by kernel_rfl) (by kernel_rfl)
theorem g64 : Keeps Try.prog 59 [v64] := keeps1 hc59 (k64 (g65.add good_nil))
theorem hc28 : HasCode Try.prog 28 := hasCode Try.func28 (by kernel_rfl) (by kernel_rfl)
theorem g20 : Keeps Try.prog 28 [v20] := keeps1 hc28 (k20 (g42.add (g43.add (g63.add (g61b.add (g64.add (g66.add (g60.add good_nil))))))))
theorem hc64 : HasCode Try.prog 64 := hasCode Try.func64 (by kernel_rfl) (by kernel_rfl)
theorem g69 : Keeps Try.prog 64 [v69] := keeps1 hc64 (k69 (g70.add good_nil))
theorem hc63 : HasCode Try.prog 63 := hasCode Try.func63 (by kernel_rfl) (by kernel_rfl)
theorem g68 : Keeps Try.prog 63 [v68] := keeps1 hc63 (k68 (g69.add good_nil))
theorem hc30 : HasCode Try.prog 30 := hasCode Try.func30 (by kernel_rfl) (by kernel_rfl)
theorem g23 : Keeps Try.prog 30 [v23] := keeps1 hc30 (k23 (g42.add (g48.add (g67.add (g44.add (g68.add good_nil))))))
theorem hc66 : HasCode Try.prog 66 := hasCode Try.func66 (by kernel_rfl) (by kernel_rfl)
theorem g72 : Keeps Try.prog 66 [v72] := keeps1 hc66 (k72 (g90 good_nil))
theorem hc32 : HasCode Try.prog 32 := hasCode Try.func32 (by kernel_rfl) (by kernel_rfl)
theorem g27 : Keeps Try.prog 32 [v27] := keeps1 hc32 (k27 (g42.add (g50.add (g72.add (g73.add (g48.add (g43.add (g57.add (g59.add good_nil)))))))))
theorem hc29 : HasCode Try.prog 29 := hasCode Try.func29 (by kernel_rfl) (by kernel_rfl)
theorem g17 : Keeps Try.prog 29 [v17] := keeps1 hc29 (k17 good_nil)
theorem hc45 : HasCode Try.prog 45 := hasCode Try.func45 (by kernel_rfl) (by kernel_rfl)
theorem g45 : Keeps Try.prog 45 [v45] := keeps1 hc45 (k45 (g16.add (g56.add good_nil)))
theorem hc17 : HasCode Try.prog 17 := hasCode Try.func17 (by kernel_rfl) (by kernel_rfl)
theorem g40 : Keeps Try.prog 17 [v40] := keeps1 hc17 (k40 (g45.add (g47.add good_nil)))
theorem hc39 : HasCode Try.prog 39 := hasCode Try.func39 (by kernel_rfl) (by kernel_rfl)
theorem g41 : Keeps Try.prog 39 [v41] := keeps1 hc39 (k41 good_nil)
theorem hc38 : HasCode Try.prog 38 := hasCode Try.func38 (by kernel_rfl) (by kernel_rfl)
theorem g22 : Keeps Try.prog 38 [v22] := keeps1 hc38 (k22 (g17.add good_nil))
theorem hc13 : HasCode Try.prog 13 := hasCode Try.func13 (by kernel_rfl) (by kernel_rfl)
theorem g10 : Keeps Try.prog 13 [v10] := keeps1 hc13 (k10 (g37.add (g38.add (g39.add (g11.add (g13.add (g33.add (g32.add (g18.add (g20.add (g23.add (g25.add (g27.add (g17.add (g40.add (g41.add (g22.add good_nil)))))))))))))))))
theorem hc9 : HasCode Try.prog 9 := hasCode Try.func9 (by kernel_rfl) (by kernel_rfl)
theorem g209 : Keeps Try.prog 9 [v209] := keeps1 hc9 (k209 (g29.add (g31.add (g30.add (g47.add (g35.add (g233.add (g25.add (g10.add good_nil)))))))))
end Go.Abs.Label
end

