/- Part 7 of the road to this seat's statements: lemmas about a small interpreter over the model's code, and about the functions that it is used on. No condition of its own. -/
import Derived.Test.YtondgnghncpbeaaProg
import Derived.Test.YtondgnghncpbeaaW6

section
/- Conditions and their equations, printed by a program. -/
open Go.Proofs
set_option maxRecDepth 100000
set_option linter.unusedVariables false
namespace Go.Abs.Label
end Go.Abs.Label
end

section
/- The label's statements: which guilds are valid, what follows, what is banned. -/
open Go.Proofs
set_option maxRecDepth 100000
set_option linter.unusedVariables false
namespace Go.Abs.Label
theorem br_yes {b : Bool} {p q : Prop} (h : b = true) (hp : p) : br b p q := by subst h; exact hp
theorem br_no {b : Bool} {p q : Prop} (h : b = false) (hq : q) : br b p q := by subst h; exact hq
theorem eqbt (a : Int) : ((a == a) == true) = true := by simp
end Go.Abs.Label
end

section
/- Plain laws of labels: reasons, keys, what is taken, idle rules: two ways agree. -/
open Go.Proofs
set_option maxRecDepth 100000
set_option linter.unusedVariables false
namespace Go.Abs.Label

/-! ### what follows -/
theorem clo_mono {w : Int} {rs : List (List Int × Int)} (hg : Gd w rs) {a b : Nat} (h : subB a b = true) : subB (clo w rs a) (clo w rs b) = true := by
  obtain ⟨h1, _⟩ := guild_spec hg
  exact clo_least (clo_closed (by omega) (gd_w hg) b) (sub_trans h (clo_sub w rs b))
theorem clo_clo {w : Int} {rs : List (List Int × Int)} (hg : Gd w rs) (a : Nat) : clo w rs (clo w rs a) = clo w rs a := by
  obtain ⟨h1, _⟩ := guild_spec hg
  exact sub_antisymm (clo_least (clo_closed (by omega) (gd_w hg) a) (le_refl_sub _)) (clo_sub _ _ _)
theorem clo_into {w : Int} {rs : List (List Int × Int)} (hg : Gd w rs) {a b : Nat} (h : subB a (clo w rs b) = true) : subB (clo w rs a) (clo w rs b) = true := by
  have := clo_mono hg h
  rwa [clo_clo hg] at this
theorem ban_iff {w : Int} {rs : List (List Int × Int)} {b : Nat} : banned w rs b = true ↔ ∃ r ∈ rs, r.2 < 0 ∧ subB (bitsL r.1) (clo w rs b) = true := by
  unfold banned
  rw [List.any_eq_true]
  simp only [banR, Bool.and_eq_true, decide_eq_true_eq]
theorem ban_mono {w : Int} {rs : List (List Int × Int)} (hg : Gd w rs) {a b : Nat} (h : subB a (clo w rs b) = true) (hb : banned w rs a = true) : banned w rs b = true := by
  obtain ⟨r, h1, h2, h3⟩ := ban_iff.1 hb
  exact ban_iff.2 ⟨r, h1, h2, sub_trans h3 (clo_into hg h)⟩
/-! ### the parts of a label, two ways -/
/-! ### reasons -/
end Go.Abs.Label
end

section
/- Plain laws of labels: keys, what is taken, idle rules: two ways agree. -/
open Go.Proofs
set_option maxRecDepth 100000
set_option linter.unusedVariables false
namespace Go.Abs.Label

/-! ### keys -/
/-! ### what is taken -/
theorem best_fold {bet : List Int → List Int → Bool} (hO : Order bet) : ∀ (L : List (List Int)) (b : List Int),
    (L.foldl (fun b y => if bet y b then y else b) b = b ∨ L.foldl (fun b y => if bet y b then y else b) b ∈ L) ∧ bet b (L.foldl (fun b y => if bet y b then y else b) b) = false ∧ ∀ y ∈ L, bet y (L.foldl (fun b y => if bet y b then y else b) b) = false
  | [], b => ⟨.inl rfl, hO.irr b, by simp⟩
  | x :: L, b => by
    rw [List.foldl_cons]
    obtain ⟨h1, h2, h3⟩ := best_fold hO L (if bet x b then x else b)
    generalize L.foldl (fun b y => if bet y b then y else b) (if bet x b then x else b) = r at h1 h2 h3 ⊢
    by_cases hx : bet x b = true
    · rw [if_pos hx] at h1 h2
      refine ⟨.inr (h1.elim (fun e => by rw [e]; simp) (fun h => List.mem_cons_of_mem _ h)), ?_, fun y hy => ?_⟩
      · rw [← Bool.not_eq_true]
        intro hb
        rw [hO.tr _ _ _ hx hb] at h2; cases h2
      · rcases List.mem_cons.1 hy with rfl | hy
        · exact h2
        · exact h3 y hy
    · rw [if_neg hx] at h1 h2
      refine ⟨h1.imp_right (fun h => List.mem_cons_of_mem _ h), h2, fun y hy => ?_⟩
      rcases List.mem_cons.1 hy with rfl | hy
      · rw [← Bool.not_eq_true]
        intro hb
        rcases hO.tot b y with e | e | e
        · subst e; rw [hb] at h2; cases h2
        · rw [hO.tr _ _ _ e hb] at h2; cases h2
        · exact hx e
      · exact h3 y hy
end Go.Abs.Label
end

section
/- Plain laws of labels: idle rules, two ways; steps lead to what follows. -/
open Go.Proofs
set_option maxRecDepth 100000
set_option linter.unusedVariables false
namespace Go.Abs.Label

/-! ### fewer rules -/
theorem closed_less {rs rs2 : List (List Int × Int)} {c : Nat} (h : ∀ r ∈ rs2, r ∈ rs) (hc : ClosedR rs c) : ClosedR rs2 c := fun r hr => hc r (h r hr)
theorem clo_less {w : Int} {rs rs2 : List (List Int × Int)} (hg : Gd w rs) (h : ∀ r ∈ rs2, r ∈ rs) (b : Nat) : subB (clo w rs2 b) (clo w rs b) = true := by
  obtain ⟨h1, _⟩ := guild_spec hg
  exact clo_least (closed_less h (clo_closed (by omega) (gd_w hg) b)) (clo_sub _ _ _)
theorem ban_less {w : Int} {rs rs2 : List (List Int × Int)} (hg : Gd w rs) (h : ∀ r ∈ rs2, r ∈ rs) {b : Nat} (hb : banned w rs2 b = true) : banned w rs b = true := by
  obtain ⟨r, h1, h2, h3⟩ := ban_iff.1 hb
  exact ban_iff.2 ⟨r, h r h1, h2, sub_trans h3 (clo_less hg h b)⟩
/-! ### steps -/
/-! the steps in order -/
end Go.Abs.Label
end

section
/- Plain laws of labels: the steps that are returned lead to what follows, and none can be left out. -/
open Go.Proofs
set_option maxRecDepth 100000
set_option linter.unusedVariables false
namespace Go.Abs.Label

/-- Whether a word follows, or a label is banned. -/
def isS (w : Int) (rs : List (List Int × Int)) (b : Nat) (word : Int) : Bool := if 0 ≤ word then (clo w rs b).testBit word.toNat else banned w rs b
end Go.Abs.Label
end

section
/- The label's statements: reasons and keys; what is taken, how many are closed, idle rules; steps; closed labels. -/
open Go.Proofs
set_option maxRecDepth 100000
set_option linter.unusedVariables false
namespace Go.Abs.Label

theorem p22 {a b : List (List Int)} (ha : a.length ≤ 1024 ∧ ∀ y ∈ a, y.length ≤ 10) (hb : b.length ≤ 1024 ∧ ∀ y ∈ b, y.length ≤ 10) : v22.p (a, b, ()) :=
  ⟨(show a.length ≤ 2000 by omega), (show b.length ≤ 2000 by omega), fun y hy => Nat.le_trans (ha.2 y hy) (by decide), fun y hy => Nat.le_trans (hb.2 y hy) (by decide)⟩
theorem p17 {a b : List Int} (ha : a.length ≤ 1000) (hb : b.length ≤ 1000) : v17.p (a, b, ()) :=
  ⟨(show a.length ≤ 1152921504606846976 by omega), (show b.length ≤ 1152921504606846976 by omega)⟩

theorem bestT_len {n : Nat} {L : List (List Int)} (h : ∀ y ∈ L, y.length ≤ n) : (bestT L).length ≤ n := by
  cases L with
  | nil => exact Nat.zero_le _
  | cons x L =>
    obtain ⟨c1, _, _⟩ := best_fold (bet := betT) order_betL L x
    show (L.foldl (fun b y => if betT y b then y else b) x).length ≤ n
    rcases c1 with e | e
    · rw [e]; exact h x (List.mem_cons_self ..)
    · exact h _ (List.mem_cons_of_mem _ e)
theorem take_len (w : Int) (rs : List (List Int × Int)) (l : List Int) : (takeL w rs l).length ≤ 10 := by
  unfold takeL
  split
  · refine bestT_len (fun y hy => ?_)
    obtain ⟨i, _, rfl⟩ := List.mem_map.1 hy
    exact listed_len _ 10
  · exact Nat.zero_le _

theorem fine_gd {w : Int} {rs : List (List Int × Int)} (h : fine w rs = true) : Gd w rs := by
  unfold fine geIs at h
  rw [Bool.and_eq_true] at h
  exact of_decide_eq_true h.2
theorem listedI_list (bits : Int) {w : Int} (h : 0 ≤ w) : isList (listedI bits w) w = true := isList_listed _ h
theorem land_w {a b : Nat} (ha : a < 1024) (hb : b < 1024) : bitsA .and .i64 (a : Int) (b : Int) = ((a &&& b : Nat) : Int) := land_nat a b (by omega) (by omega)
end Go.Abs.Label
end

section
/- The label's other statements: errors of steps, lists in order, words that are turned; steps. -/
open Go.Proofs
set_option maxRecDepth 100000
set_option linter.unusedVariables false
namespace Go.Abs.Label

theorem pow10n {w : Nat} (h : w ≤ 10) : 2 ^ w ≤ 1024 := Nat.pow_le_pow_right (n := 2) (j := 10) (by omega) (by omega)
theorem bneS (a : Int) : ((a != a) == false) = true := by simp
end Go.Abs.Label
end

section
/- The label's other statements: one more word, one more rule; what is taken; idle rules. -/
open Go.Proofs
set_option maxRecDepth 100000
set_option linter.unusedVariables false
namespace Go.Abs.Label

theorem bits_listed_mod (b n : Nat) : bitsL (listed b n) = b % 2 ^ n := by
  have e : listed b n = listed (b % 2 ^ n) n := by
    unfold listed
    congr 1
    refine List.filter_congr (fun i hi => ?_)
    have := List.mem_range.1 hi
    rw [Nat.testBit_mod_two_pow, decide_eq_true this, Bool.true_and]
  rw [e, bits_listed (Nat.mod_lt _ (Nat.two_pow_pos _))]
theorem bitsI_listedN (b n : Nat) : bitsI (listedI (b : Int) (n : Int)) = ((b % 2 ^ n : Nat) : Int) := by
  unfold bitsI listedI
  rw [Int.toNat_natCast, Int.toNat_natCast, bits_listed_mod]
theorem bitsI_listedL {b n : Nat} (h : b < 2 ^ n) : bitsI (listedI (b : Int) (n : Int)) = (b : Int) := by
  rw [bitsI_listedN, Nat.mod_eq_of_lt h]
theorem filter_mono {α : Type} {p q : α → Bool} : ∀ (l : List α), (∀ x ∈ l, p x = true → q x = true) → (l.filter p).length ≤ (l.filter q).length
  | [], _ => Nat.le_refl _
  | x :: l, h => by
    have ih := filter_mono l (fun y hy => h y (List.mem_cons_of_mem _ hy))
    have hx := h x (List.mem_cons_self ..)
    rw [List.filter_cons, List.filter_cons]
    cases hp : p x with
    | true => rw [if_pos rfl, if_pos (hx hp)]; simp only [List.length_cons]; omega
    | false =>
      rw [if_neg (by simp)]
      split
      · simp only [List.length_cons]; omega
      · exact ih
theorem and_of_sub {a b : Nat} (h : subB a b = true) : a &&& b = a := by
  refine sub_antisymm (sub_iff.2 fun i hi => ?_) (sub_iff.2 fun i hi => ?_)
  · rw [Nat.testBit_and, Bool.and_eq_true] at hi; exact hi.1
  · rw [Nat.testBit_and, hi, sub_iff.1 h i hi]; rfl
theorem land_sub {a b : Nat} (ha : a < 1024) (hb : b < 1024) (h : subB a b = true) : bitsA .and .i64 (a : Int) (b : Int) = (a : Int) := by
  rw [land_w ha hb, and_of_sub h]
theorem closL_of {w : Int} {rs : List (List Int × Int)} (hg : Gd w rs) : closL w rs = closN w rs := by
  unfold closL; rw [if_pos hg]
theorem closed_more {w : Int} {rs R : List (List Int × Int)} (hg : Gd w rs) (hR : Gd w R) (h : ∀ r ∈ rs, r ∈ R) : closL w R ≤ closL w rs := by
  rw [closL_of hg, closL_of hR]
  unfold closN
  have := filter_mono (p := fun i : Nat => clsI w R (i : Int)) (q := fun i : Nat => clsI w rs (i : Int)) (List.range (2 ^ w.toNat)) (fun i hi hc => by
    unfold clsI at hc ⊢
    rw [fromI_nat, banI_nat, Bool.and_eq_true] at hc
    obtain ⟨c1, c2⟩ := hc
    have c1 := of_decide_eq_true c1
    have c3 : clo w R i = i := by omega
    have c4 := clo_less hR h i
    rw [c3] at c4
    have c5 : clo w rs i = i := sub_antisymm c4 (clo_sub _ _ _)
    have c6 : banned w rs i = false := by
      cases hb : banned w rs i with
      | false => rfl
      | true => rw [ban_less hR h hb] at c2; simp at c2
    rw [fromI_nat, banI_nat, c5, c6]
    simp)
  omega
theorem fitsW {W : Nat} (h : W ≤ 10) : fitsK .i64 (shlA .i64 1 (W : Int) - 1) ∧ ∀ B : Nat, B < 65536 → bitsA .and .i64 (B : Int) (shlA .i64 1 (W : Int) - 1) = ((B % 2 ^ W : Nat) : Int) := by
  obtain ⟨hp1, hp2⟩ := pow_w h
  have hp := Nat.two_pow_pos W
  rw [hp1]
  refine ⟨fits64 (by omega) (by omega), fun B hB => ?_⟩
  rw [show (((2 ^ W : Nat) : Int) - 1) = ((2 ^ W - 1 : Nat) : Int) by omega, land_nat _ _ (by omega) (by omega), Nat.and_two_pow_sub_one_eq_mod]

theorem k204 (hG : Good Try.prog (envOf [(19, mkC [v29]), (20, mkC [v31]), (21, mkC [v30]), (22, mkC [v35]), (13, mkC [v10]), (23, mkC [v25])])) : v204.Kept Try.prog 4 := by
  rintro ⟨w, rs, bits, num, l, t, ⟨⟩⟩ hpre k hk
  change Int at w
  change List (List Int × Int) at rs
  change Int at bits num
  change List Int at l
  change Int at t
  refine aspec hmix hG Try.func4 txp4 (Eq.mpr (eq204 w rs bits num l t k) ?_)
  replace hk : k (rBo true) [] := hk
  unfold vc204
  obtain ⟨hbt, hnm⟩ := hpre
  have hbt : 0 ≤ bits ∧ bits < 65536 := hbt
  have hnm : 0 ≤ num ∧ num < 256 := hnm
  refine ⟨trivial, ?_⟩
  rw [br_not]
  refine ⟨fun _ => ⟨trivial, hk⟩, fun h => ?_⟩
  have hg := fine_gd h
  obtain ⟨hw1, hw2, hrl, _⟩ := guild_spec hg
  obtain ⟨W, rfl⟩ := Int.eq_ofNat_of_zero_le (show 0 ≤ w by omega)
  obtain ⟨B, rfl⟩ := Int.eq_ofNat_of_zero_le hbt.1
  obtain ⟨J, hJ⟩ : ∃ J : Nat, HMod.hMod num (W : Int) = (J : Int) := Int.eq_ofNat_of_zero_le (Int.emod_nonneg _ (by omega))
  have hJW : J < W := by have := Int.emod_lt_of_pos num (show (0 : Int) < W by omega); omega
  have hp := pow10n (w := W) (by omega)
  obtain ⟨hf1, hf2⟩ := fitsW (W := W) (by omega)
  have hA : B % 2 ^ W < 2 ^ W := Nat.mod_lt _ (Nat.two_pow_pos _)
  have hJ2 : 2 ^ J < 2 ^ W := Nat.pow_lt_pow_right (by omega) hJW
  have hN : B % 2 ^ W ||| 2 ^ J < 2 ^ W := Nat.or_lt_two_pow hA hJ2
  have e2 : bitsA .or .i64 ((B % 2 ^ W : Nat) : Int) (shlA .i64 1 (J : Int)) = ((B % 2 ^ W ||| 2 ^ J : Nat) : Int) := by
    rw [one_shl _ (by omega), lor_nat _ _ (by omega) (by omega)]
  have hAN : subB (B % 2 ^ W) (B % 2 ^ W ||| 2 ^ J) = true := sub_iff.2 fun i hi => by rw [Nat.testBit_or, hi]; rfl
  have lA : isList (listedI (B : Int) (W : Int)) (W : Int) = true := listedI_list _ (by omega)
  have lN : isList (listedI ((B % 2 ^ W ||| 2 ^ J : Nat) : Int) (W : Int)) (W : Int) = true := listedI_list _ (by omega)
  simp only [hJ, hf2 B (by omega), e2, bitsI_listedN B W, bitsI_listedL hN, fromI_nat, banI_nat]
  generalize B % 2 ^ W = A at *
  generalize hNN : A ||| 2 ^ J = N at *
  have cA := clo_ltw hg (b := A) (by simpa using hA)
  have cN := clo_ltw hg (b := N) (by simpa using hN)
  rw [Int.toNat_natCast] at cA cN
  have hm := clo_mono hg hAN
  simp only [land_sub (a := clo (W : Int) rs A) (b := clo (W : Int) rs N) (by omega) (by omega) hm, List.nil_append]
  refine ⟨fits64 (by omega) (by omega), by omega, hf1, fits64 (by omega) (by omega), ⟨by omega, by omega⟩, by omega, ⟨hg, (show (0 : Int) ≤ (B : Int) by omega), (show (B : Int) < 65536 by omega)⟩, ⟨hg, lA⟩, ⟨(show (0 : Int) ≤ (N : Int) by omega), (show (N : Int) < 65536 by omega), (show (0 : Int) ≤ (W : Int) by omega), (show (W : Int) ≤ 40 by omega)⟩, ⟨hg, lN⟩, br_yes (bneS _) ?_⟩
  have hg0 : guildErr W rs = 0 := hg
  have hbig : ([] : List (List Int × Int)).length + rs.length ≤ big := by simp only [List.length_nil, big]; omega
  have hbig2 : rs.length + [(l, t)].length ≤ big := by simp only [List.length_cons, List.length_nil, big]; omega
  have h30 : v30.p ((W : Int), rs, (B : Int), ()) := ⟨hg, (show (0 : Int) ≤ (B : Int) by omega), (show (B : Int) < 65536 by omega)⟩
  rw [br_bt]
  refine ⟨fun hb => ?_, fun hb => ?_⟩
  · have hb2 : banned W rs N = true := ban_mono hg (sub_trans hAN (clo_sub _ _ _)) hb
    refine br_no (by rw [hb2]; rfl) ⟨hbig, hbig2, trivial, ?_⟩
    rw [br_not]
    refine ⟨fun _ => ⟨trivial, hk⟩, fun hfR => ?_⟩
    have hR := fine_gd hfR
    have hR0 : guildErr W (rs ++ [(l, t)]) = 0 := hR
    have hin : ∀ r ∈ rs, r ∈ rs ++ [(l, t)] := fun r hr => List.mem_append_left _ hr
    have cR := clo_ltw hR (b := A) (by simpa using hA)
    rw [Int.toNat_natCast] at cR
    simp only [land_sub (a := clo (W : Int) rs A) (b := clo (W : Int) (rs ++ [(l, t)]) A) (by omega) (by omega) (clo_less hR hin A), hb, ban_less hR hin hb, hg0, hR0]
    exact ⟨h30, ⟨hR, lA⟩, gd_small hg, gd_small hR, br_yes (eqbt _) (br_yes rfl (br_yes rfl (br_yes rfl (br_yes rfl (br_yes (by simpa using closed_more hg hR hin) ⟨trivial, hk⟩)))))⟩
  · refine ⟨hbig, hbig2, trivial, ?_⟩
    rw [br_not]
    refine ⟨fun _ => ⟨trivial, hk⟩, fun hfR => ?_⟩
    have hR := fine_gd hfR
    have hR0 : guildErr W (rs ++ [(l, t)]) = 0 := hR
    have hin : ∀ r ∈ rs, r ∈ rs ++ [(l, t)] := fun r hr => List.mem_append_left _ hr
    have cR := clo_ltw hR (b := A) (by simpa using hA)
    rw [Int.toNat_natCast] at cR
    simp only [land_sub (a := clo (W : Int) rs A) (b := clo (W : Int) (rs ++ [(l, t)]) A) (by omega) (by omega) (clo_less hR hin A), hb, hg0, hR0]
    exact ⟨h30, ⟨hR, lA⟩, gd_small hg, gd_small hR, br_yes (eqbt _) (br_no rfl (br_yes rfl (br_yes rfl (br_yes (by simpa using closed_more hg hR hin) ⟨trivial, hk⟩))))⟩

end Go.Abs.Label
end

section
/- The contracts put together (printed by a program). -/
open Go.Proofs
set_option maxRecDepth 100000
namespace Go.Abs.Label
theorem hc11 : HasCode Try.prog 11 := hasCode Try.func11 (by kernel_rfl) (by kernel_rfl)
theorem g8 : Keeps Try.prog 11 [v8] := keeps1 hc11 (k8 good_nil)
theorem hc26 : HasCode Try.prog 26 := hasCode Try.func26 (by kernel_rfl) (by kernel_rfl)
theorem g56 : Keeps Try.prog 26 [v56] := keeps1 hc26 (k56 good_nil)
theorem hc51 : HasCode Try.prog 51 := hasCode Try.func51 (by kernel_rfl) (by kernel_rfl)
theorem g16 : Keeps Try.prog 51 [v16] := keeps1 hc51 (k16 (g56.add good_nil))
theorem hc19 : HasCode Try.prog 19 := hasCode Try.func19 (by kernel_rfl) (by kernel_rfl)
theorem g29 : Keeps Try.prog 19 [v29] := keeps1 hc19 (k29 (g8.add (g16.add good_nil)))
theorem hc75 : HasCode Try.prog 75 := hasCode Try.func75 (by kernel_rfl) (by kernel_rfl)
theorem g82 : Keeps Try.prog 75 [v82] := keeps1 hc75 (k82 good_nil)
theorem hc91 : HasCode Try.prog 91 := hasCode Try.func91 (by kernel_rfl) (by kernel_rfl)
theorem g96 : Keeps Try.prog 91 [v96] := keeps1 hc91 (k96 (g82.add good_nil))
theorem hc74 : HasCode Try.prog 74 := hasCode Try.func74 (by kernel_rfl) (by kernel_rfl)
theorem g81 : Keeps Try.prog 74 [v81] := keeps1 hc74 (k81 (g96.add good_nil))
theorem hc43 : HasCode Try.prog 43 := hasCode Try.func43 (by kernel_rfl) (by kernel_rfl)
theorem g50 : Keeps Try.prog 43 [v50] := keeps1 hc43 (k50 (g81.add good_nil))
theorem hc70 : HasCode Try.prog 70 := hasCode Try.func70 (by kernel_rfl) (by kernel_rfl)
theorem g52 : Keeps Try.prog 70 [v52] := keeps1 hc70 (k52 good_nil)
theorem hc77 : HasCode Try.prog 77 := hasCode Try.func77 (by kernel_rfl) (by kernel_rfl)
theorem g83a : Keeps Try.prog 77 [v83a] := keeps1 hc77 (k83a (g52.add good_nil))
theorem hc72 : HasCode Try.prog 72 := hasCode Try.func72 (by kernel_rfl) (by kernel_rfl)
theorem g54 : Keeps Try.prog 72 [v54] := keeps1 hc72 (k54 (g50.add good_nil))
theorem hc71 : HasCode Try.prog 71 := hasCode Try.func71 (by kernel_rfl) (by kernel_rfl)
theorem g53 : Keeps Try.prog 71 [v53] := keeps1 hc71 (k53 (g54.add good_nil))
theorem g83b : Keeps Try.prog 77 [v83b] := keeps1 hc77 (k83b (g53.add good_nil))
theorem hc73 : HasCode Try.prog 73 := hasCode Try.func73 (by kernel_rfl) (by kernel_rfl)
theorem g55 : Keeps Try.prog 73 [v55] := keeps1 hc73 (k55 (g50.add good_nil))
theorem g83c : Keeps Try.prog 77 [v83c] := keeps1 hc77 (k83c (g55.add good_nil))
theorem hc69 : HasCode Try.prog 69 := hasCode Try.func69 (by kernel_rfl) (by kernel_rfl)
theorem g51a_51b_51c : Keeps Try.prog 69 [v51a, v51b, v51c] := ⟨hc69.code, fun v' hm => by simp at hm; rcases hm with rfl | rfl | rfl; exact (k51a (g83a.add good_nil)); exact (k51b (g83b.add good_nil)); exact (k51c (g83c.add good_nil))⟩
theorem hc40 : HasCode Try.prog 40 := hasCode Try.func40 (by kernel_rfl) (by kernel_rfl)
theorem g15 : Keeps Try.prog 40 [v15] := keeps1 hc40 (k15 (g50.add (g51a_51b_51c.add good_nil)))
theorem hc50 : HasCode Try.prog 50 := hasCode Try.func50 (by kernel_rfl) (by kernel_rfl)
theorem g57 : Keeps Try.prog 50 [v57] := keeps1 hc50 (k57 good_nil)
theorem hc49 : HasCode Try.prog 49 := hasCode Try.func49 (by kernel_rfl) (by kernel_rfl)
theorem g73 : Keeps Try.prog 49 [v73] := keeps1 hc49 (k73 (g57.add good_nil))
theorem hc42 : HasCode Try.prog 42 := hasCode Try.func42 (by kernel_rfl) (by kernel_rfl)
theorem g42 : Keeps Try.prog 42 [v42] := keeps1 hc42 (k42 (g15.add (g54.add (g73.add good_nil))))
theorem hc76 : HasCode Try.prog 76 := hasCode Try.func76 (by kernel_rfl) (by kernel_rfl)
theorem g78 : Keeps Try.prog 76 [v78] := keeps1 hc76 (k78 good_nil)
theorem hc100 : HasCode Try.prog 100 := hasCode Try.func100 (by kernel_rfl) (by kernel_rfl)
theorem g101 : Keeps Try.prog 100 [v101] := keeps1 hc100 (k101 good_nil)
theorem hc88 : HasCode Try.prog 88 := hasCode Try.func88 (by kernel_rfl) (by kernel_rfl)
theorem g87 : Keeps Try.prog 88 [v87] := keeps1 hc88 (k87 (g101.add good_nil))
theorem hc61 : HasCode Try.prog 61 := hasCode Try.func61 (by kernel_rfl) (by kernel_rfl)
theorem g66 : Keeps Try.prog 61 [v66] := keeps1 hc61 (k66 (g87.add good_nil))
theorem hc83 : HasCode Try.prog 83 := hasCode Try.func83 (by kernel_rfl) (by kernel_rfl)
theorem g79 : Keeps Try.prog 83 [v79] := keeps1 hc83 (k79 (g73.add (g66.add good_nil)))
theorem hc48 : HasCode Try.prog 48 := hasCode Try.func48 (by kernel_rfl) (by kernel_rfl)
theorem g59 : Keeps Try.prog 48 [v59] := keeps1 hc48 (k59 good_nil)
theorem hc53 : HasCode Try.prog 53 := hasCode Try.func53 (by kernel_rfl) (by kernel_rfl)
theorem g43 : Keeps Try.prog 53 [v43] := keeps1 hc53 (k43 (g78.add (g57.add (g79.add (g59.add good_nil)))))
theorem hc62 : HasCode Try.prog 62 := hasCode Try.func62 (by kernel_rfl) (by kernel_rfl)
theorem g44 : Keeps Try.prog 62 [v44] := keeps1 hc62 (k44 good_nil)
theorem hc35 : HasCode Try.prog 35 := hasCode Try.func35 (by kernel_rfl) (by kernel_rfl)
theorem g11 : Keeps Try.prog 35 [v11] := keeps1 hc35 (k11 (g42.add (g43.add (g44.add good_nil))))
theorem hc84 : HasCode Try.prog 84 := hasCode Try.func84 (by kernel_rfl) (by kernel_rfl)
theorem g80 : Keeps Try.prog 84 [v80] := keeps1 hc84 (k80 (g73.add (g59.add good_nil)))
theorem g83d : Keeps Try.prog 77 [v83d] := keeps1 hc77 (k83d (g80.add good_nil))
theorem g51d : Keeps Try.prog 69 [v51d] := keeps1 hc69 (k51d (g83d.add good_nil))
theorem hc54 : HasCode Try.prog 54 := hasCode Try.func54 (by kernel_rfl) (by kernel_rfl)
theorem g48 : Keeps Try.prog 54 [v48] := keeps1 hc54 (k48 (g43.add (g79.add (g59.add (g80.add (g51d.add good_nil))))))
theorem hc37 : HasCode Try.prog 37 := hasCode Try.func37 (by kernel_rfl) (by kernel_rfl)
theorem g13 : Keeps Try.prog 37 [v13] := keeps1 hc37 (k13 (g42.add (g48.add good_nil)))
theorem hc25 : HasCode Try.prog 25 := hasCode Try.func25 (by kernel_rfl) (by kernel_rfl)
theorem g47 : Keeps Try.prog 25 [v47] := keeps1 hc25 (k47 good_nil)
theorem hc20 : HasCode Try.prog 20 := hasCode Try.func20 (by kernel_rfl) (by kernel_rfl)
theorem g31 : Keeps Try.prog 20 [v31] := keeps1 hc20 (k31 (g11.add (g13.add (g56.add (g47.add good_nil)))))
theorem hc22 : HasCode Try.prog 22 := hasCode Try.func22 (by kernel_rfl) (by kernel_rfl)
theorem g35 : Keeps Try.prog 22 [v35] := keeps1 hc22 (k35 good_nil)
theorem hc21 : HasCode Try.prog 21 := hasCode Try.func21 (by kernel_rfl) (by kernel_rfl)
theorem g30 : Keeps Try.prog 21 [v30] := keeps1 hc21 (k30 (g35.add good_nil))
theorem hc68 : HasCode Try.prog 68 := hasCode Try.func68 (by kernel_rfl) (by kernel_rfl)
theorem g77 : Keeps Try.prog 68 [v77] := keeps1 hc68 (k77 good_nil)
theorem hc34 : HasCode Try.prog 34 := hasCode Try.func34 (by kernel_rfl) (by kernel_rfl)
theorem g37 : Keeps Try.prog 34 [v37] := keeps1 hc34 (k37 (g77.add (g76 good_nil)))
theorem hc41 : HasCode Try.prog 41 := hasCode Try.func41 (by kernel_rfl) (by kernel_rfl)
theorem g38 : Keeps Try.prog 41 [v38] := keeps1 hc41 (k38 (g37.add (g77.add (g76 good_nil))))
theorem hc36 : HasCode Try.prog 36 := hasCode Try.func36 (by kernel_rfl) (by kernel_rfl)
theorem g39 : Keeps Try.prog 36 [v39] := keeps1 hc36 (k39 good_nil)
theorem hc16 : HasCode Try.prog 16 := hasCode Try.func16 (by kernel_rfl) (by kernel_rfl)
theorem g33 : Keeps Try.prog 16 [v33] := keeps1 hc16 (k33 (g42.add (g50.add (g73.add (g59.add (g57.add good_nil))))))
theorem hc78 : HasCode Try.prog 78 := hasCode Try.func78 (by kernel_rfl) (by kernel_rfl)
theorem g91 : Keeps Try.prog 78 [v91] := keeps1 hc78 (k91 (g73.add (g59.add good_nil)))
theorem g83e : Keeps Try.prog 77 [v83e] := keeps1 hc77 (k83e (g91.add good_nil))
theorem hc79 : HasCode Try.prog 79 := hasCode Try.func79 (by kernel_rfl) (by kernel_rfl)
theorem g92 : Keeps Try.prog 79 [v92] := keeps1 hc79 (k92 good_nil)
theorem hc80 : HasCode Try.prog 80 := hasCode Try.func80 (by kernel_rfl) (by kernel_rfl)
theorem g93 : Keeps Try.prog 80 [v93] := keeps1 hc80 (k93 good_nil)
theorem hc95 : HasCode Try.prog 95 := hasCode Try.func95 (by kernel_rfl) (by kernel_rfl)
theorem g105 : Keeps Try.prog 95 [v105] := keeps1 hc95 (k105 good_nil)
theorem hc94 : HasCode Try.prog 94 := hasCode Try.func94 (by kernel_rfl) (by kernel_rfl)
theorem g104 : Keeps Try.prog 94 [v104] := keeps1 hc94 (k104 good_nil)
theorem hc81 : HasCode Try.prog 81 := hasCode Try.func81 (by kernel_rfl) (by kernel_rfl)
theorem g94 : Keeps Try.prog 81 [v94] := keeps1 hc81 (k94 (g105.add (g104.add (g44.add (g33.add good_nil)))))
theorem hc44 : HasCode Try.prog 44 := hasCode Try.func44 (by kernel_rfl) (by kernel_rfl)
theorem g75 : Keeps Try.prog 44 [v75] := keeps1 hc44 (k75 (g78.add (g57.add (g59.add (g79.add (g83e.add (g73.add (g92.add (g93.add (g94.add good_nil))))))))))
theorem hc14 : HasCode Try.prog 14 := hasCode Try.func14 (by kernel_rfl) (by kernel_rfl)
theorem g32 : Keeps Try.prog 14 [v32] := keeps1 hc14 (k32 (g42.add (g50.add (g75.add good_nil))))
theorem hc55 : HasCode Try.prog 55 := hasCode Try.func55 (by kernel_rfl) (by kernel_rfl)
theorem g58 : Keeps Try.prog 55 [v58] := keeps1 hc55 (k58 (g43.add (g59.add good_nil)))
theorem hc52 : HasCode Try.prog 52 := hasCode Try.func52 (by kernel_rfl) (by kernel_rfl)
theorem g67 : Keeps Try.prog 52 [v67] := keeps1 hc52 (k67 good_nil)
theorem hc87 : HasCode Try.prog 87 := hasCode Try.func87 (by kernel_rfl) (by kernel_rfl)
theorem g86 : Keeps Try.prog 87 [v86] := keeps1 hc87 (k86 (g59.add good_nil))
theorem hc98 : HasCode Try.prog 98 := hasCode Try.func98 (by kernel_rfl) (by kernel_rfl)
theorem g99 : Keeps Try.prog 98 [v99] := keeps1 hc98 (k99 (g86.add good_nil))
theorem hc86 : HasCode Try.prog 86 := hasCode Try.func86 (by kernel_rfl) (by kernel_rfl)
theorem g85 : Keeps Try.prog 86 [v85] := keeps1 hc86 (k85 (g99.add good_nil))
theorem hc57 : HasCode Try.prog 57 := hasCode Try.func57 (by kernel_rfl) (by kernel_rfl)
theorem g61a : Keeps Try.prog 57 [v61a] := keeps1 hc57 (k61a (g58.add (g67.add (g66.add (g86.add (g85.add good_nil))))))
theorem hc101 : HasCode Try.prog 101 := hasCode Try.func101 (by kernel_rfl) (by kernel_rfl)
theorem g102 : Keeps Try.prog 101 [v102] := keeps1 hc101 (k102 good_nil)
theorem hc89 : HasCode Try.prog 89 := hasCode Try.func89 (by kernel_rfl) (by kernel_rfl)
theorem g89 : Keeps Try.prog 89 [v89] := keeps1 hc89 (k89 (g102.add good_nil))
theorem hc65 : HasCode Try.prog 65 := hasCode Try.func65 (by kernel_rfl) (by kernel_rfl)
theorem g70 : Keeps Try.prog 65 [v70] := keeps1 hc65 (k70 (g89.add good_nil))
theorem hc85 : HasCode Try.prog 85 := hasCode Try.func85 (by kernel_rfl) (by kernel_rfl)
theorem g84 : Keeps Try.prog 85 [v84] := keeps1 hc85 (k84 (g70.add good_nil))
theorem hc56 : HasCode Try.prog 56 := hasCode Try.func56 (by kernel_rfl) (by kernel_rfl)
theorem g60 : Keeps Try.prog 56 [v60] := keeps1 hc56 (k60 (g44.add (g84.add good_nil)))
theorem hc24 : HasCode Try.prog 24 := hasCode Try.func24 (by kernel_rfl) (by kernel_rfl)
theorem g18 : Keeps Try.prog 24 [v18] := keeps1 hc24 (k18 (g42.add (g50.add (g57.add (g58.add (g61a.add (g60.add good_nil)))))))
theorem hc58 : HasCode Try.prog 58 := hasCode Try.func58 (by kernel_rfl) (by kernel_rfl)
theorem g63 : Keeps Try.prog 58 [v63] := keeps1 hc58 (k63 (g43.add good_nil))
theorem g61b : Keeps Try.prog 57 [v61b] := keeps1 hc57 (k61b (g63.add (g67.add (g66.add (g86.add (g85.add good_nil))))))
theorem hc60 : HasCode Try.prog 60 := hasCode Try.func60 (by kernel_rfl) (by kernel_rfl)
theorem g65 : Keeps Try.prog 60 [v65] := keeps1 hc60 (k65 (g66.add good_nil))
theorem hc59 : HasCode Try.prog 59 := hasCode Try.func59 (by kernel_rfl) (by kernel_rfl)
theorem g64 : Keeps Try.prog 59 [v64] := keeps1 hc59 (k64 (g65.add good_nil))
theorem hc28 : HasCode Try.prog 28 := hasCode Try.func28 (by kernel_rfl) (by kernel_rfl)
theorem g20 : Keeps Try.prog 28 [v20] := keeps1 hc28 (k20 (g42.add (g43.add (g63.add (g61b.add (g64.add (g66.add (g60.add good_nil))))))))
theorem hc64 : HasCode Try.prog 64 := hasCode Try.func64 (by kernel_rfl) (by kernel_rfl)
theorem g69 : Keeps Try.prog 64 [v69] := keeps1 hc64 (k69 (g70.add good_nil))
theorem hc63 : HasCode Try.prog 63 := hasCode Try.func63 (by kernel_rfl) (by kernel_rfl)
theorem g68 : Keeps Try.prog 63 [v68] := keeps1 hc63 (k68 (g69.add good_nil))
theorem hc30 : HasCode Try.prog 30 := hasCode Try.func30 (by kernel_rfl) (by kernel_rfl)
theorem g23 : Keeps Try.prog 30 [v23] := keeps1 hc30 (k23 (g42.add (g48.add (g67.add (g44.add (g68.add good_nil))))))
theorem hc23 : HasCode Try.prog 23 := hasCode Try.func23 (by kernel_rfl) (by kernel_rfl)
theorem g25 : Keeps Try.prog 23 [v25] := keeps1 hc23 (k25 (g42.add (g67.add (g43.add (g48.add good_nil)))))
theorem hc66 : HasCode Try.prog 66 := hasCode Try.func66 (by kernel_rfl) (by kernel_rfl)
theorem g72 : Keeps Try.prog 66 [v72] := keeps1 hc66 (k72 (g90 good_nil))
theorem hc32 : HasCode Try.prog 32 := hasCode Try.func32 (by kernel_rfl) (by kernel_rfl)
theorem g27 : Keeps Try.prog 32 [v27] := keeps1 hc32 (k27 (g42.add (g50.add (g72.add (g73.add (g48.add (g43.add (g57.add (g59.add good_nil)))))))))
theorem hc29 : HasCode Try.prog 29 := hasCode Try.func29 (by kernel_rfl) (by kernel_rfl)
theorem g17 : Keeps Try.prog 29 [v17] := keeps1 hc29 (k17 good_nil)
theorem hc45 : HasCode Try.prog 45 := hasCode Try.func45 (by kernel_rfl) (by kernel_rfl)
theorem g45 : Keeps Try.prog 45 [v45] := keeps1 hc45 (k45 (g16.add (g56.add good_nil)))
theorem hc17 : HasCode Try.prog 17 := hasCode Try.func17 (by kernel_rfl) (by kernel_rfl)
theorem g40 : Keeps Try.prog 17 [v40] := keeps1 hc17 (k40 (g45.add (g47.add good_nil)))
theorem hc39 : HasCode Try.prog 39 := hasCode Try.func39 (by kernel_rfl) (by kernel_rfl)
theorem g41 : Keeps Try.prog 39 [v41] := keeps1 hc39 (k41 good_nil)
theorem hc38 : HasCode Try.prog 38 := hasCode Try.func38 (by kernel_rfl) (by kernel_rfl)
theorem g22 : Keeps Try.prog 38 [v22] := keeps1 hc38 (k22 (g17.add good_nil))
theorem hc13 : HasCode Try.prog 13 := hasCode Try.func13 (by kernel_rfl) (by kernel_rfl)
theorem g10 : Keeps Try.prog 13 [v10] := keeps1 hc13 (k10 (g37.add (g38.add (g39.add (g11.add (g13.add (g33.add (g32.add (g18.add (g20.add (g23.add (g25.add (g27.add (g17.add (g40.add (g41.add (g22.add good_nil)))))))))))))))))
theorem hc4 : HasCode Try.prog 4 := hasCode Try.func4 (by kernel_rfl) (by kernel_rfl)
theorem g204 : Keeps Try.prog 4 [v204] := keeps1 hc4 (k204 (g29.add (g31.add (g30.add (g35.add (g10.add (g25.add good_nil)))))))
end Go.Abs.Label
end

