/- Part 7 of the road to this seat's statements: lemmas about a small interpreter over the model's code, and about the functions that it is used on. No condition of its own. -/
import Derived.Shelf.SlLaysF
import Derived.Shelf.Lays8
import Derived.Test.YtikflleolfmfeaaProg
import Derived.ProofKit
import Derived.OpenShut
import Derived.Carry
import Derived.Deep.Slices
import Derived.Shelf.SlSortCmp.NoneTotal
import Derived.Shelf.Spec.SlicesGrow
import Derived.Test.YtikflleolfmfeaaW6

section
/- The ship's functions keep their contracts: the first stow. -/
open Go.Proofs
set_option maxRecDepth 100000
set_option linter.unusedVariables false
namespace Go.Abs.Ship

def isCand (bs : List (Int × Int)) (s : List Int) (k : Nat) : Bool := decide (wAt bs s (k : Int) ≠ 0) || firstEmpty bs s k
def goTry (bs : List (Int × Int)) (st fl : Int) (s : List Int) (n : Nat) : Option (List Int) := ((List.range n).filter (isCand bs s)).findSome? (fun k : Nat => goOn bs st fl (s ++ [(k : Int)]))
theorem goTry_succ (bs : List (Int × Int)) (st fl : Int) (s : List Int) (n : Nat) : goTry bs st fl s (n + 1) = (goTry bs st fl s n).or (if isCand bs s n then goOn bs st fl (s ++ [(n : Int)]) else none) := by
  unfold goTry
  rw [List.range_succ, List.filter_append, List.findSome?_append]
  congr 1
  by_cases h : isCand bs s n = true
  · rw [if_pos h, List.filter_cons, if_pos h]; simp
  · rw [if_neg h, List.filter_cons, if_neg h]; simp
theorem goTry_more {bs : List (Int × Int)} {st fl : Int} {s : List Int} {n : Nat} {x : List Int} (h : goTry bs st fl s n = some x) : ∀ m, n ≤ m → goTry bs st fl s m = some x
  | 0, hm => by obtain rfl : n = 0 := by omega
                exact h
  | m + 1, hm => by
    rcases Nat.lt_or_ge m n with h1 | h1
    · obtain rfl : n = m + 1 := by omega
      exact h
    · rw [goTry_succ, goTry_more h m h1]; rfl
theorem goOn_eq {bs : List (Int × Int)} {st fl : Int} {s : List Int} (h : s.length ≤ bs.length) :
    goOn bs st fl s = if !goodB bs st fl s then none else if s.length = bs.length then some s else goTry bs st fl s st.toNat := by
  unfold goOn
  have e : bs.length + 1 - s.length = (bs.length - s.length) + 1 := by omega
  rw [e]
  simp only [goF]
  by_cases h1 : s.length = bs.length
  · simp [h1]
  · have e2 : bs.length - s.length = bs.length + 1 - (s.length + 1) := by omega
    have e3 : (fun k : Nat => goF bs st fl (bs.length - s.length) (s ++ [(k : Int)])) = (fun k : Nat => goOn bs st fl (s ++ [(k : Int)])) := by
      funext k
      unfold goOn
      rw [List.length_append, List.length_singleton, e2]
    rw [e3]; rfl
theorem firstEmpty_succ (bs : List (Int × Int)) (s : List Int) (k : Nat) : firstEmpty bs s (k + 1) = (firstEmpty bs s k && decide (wAt bs s (k : Int) ≠ 0)) := by
  unfold firstEmpty
  rw [List.range_succ, List.all_append]; simp
theorem goB_some {bs : List (Int × Int)} {st fl : Int} {s : List Int} (h : goB bs st fl s = true) : goOn bs st fl s = some (goL bs st fl s) := by
  unfold goB at h
  unfold goL
  obtain ⟨x, hx⟩ := Option.isSome_iff_exists.1 h
  rw [hx]; rfl
theorem goB_none {bs : List (Int × Int)} {st fl : Int} {s : List Int} (h : goB bs st fl s = false) : goOn bs st fl s = none := by
  unfold goB at h
  simpa using h
theorem go_none {bs : List (Int × Int)} {st fl : Int} {s : List Int} (h : goOn bs st fl s = none) : goL bs st fl s = [] ∧ goB bs st fl s = false := by
  unfold goL goB; rw [h]; exact ⟨rfl, rfl⟩
theorem go_some {bs : List (Int × Int)} {st fl : Int} {s x : List Int} (h : goOn bs st fl s = some x) : goL bs st fl s = x ∧ goB bs st fl s = true := by
  unfold goL goB; rw [h]; exact ⟨rfl, rfl⟩

theorem k68 (n : Nat) (hG : Good Try.prog (envOf [(52, mkC [v52]), (76, mkC [v76]), (85, mkC [v85]), (68, mkC [v68.below m68 n])])) : (v68.below m68 (n + 1)).Kept Try.prog 68 := by
  rintro ⟨bs, st, fl, s, ⟨⟩⟩ hpre k hk
  change List (Int × Int) at bs
  change Int at st fl
  change List Int at s
  change Nat at n
  refine aspec hmix hG Try.func68 tx68 (Eq.mpr (eq68 bs st fl s n k) ?_)
  unfold vc68
  obtain ⟨⟨hf, hl, ha⟩, hn⟩ := hpre
  have hf : Fine bs st fl := hf
  have hl : s.length ≤ bs.length := hl
  have ha : allIn st s := ha
  have hn : bs.length + 1 - s.length < n + 1 := hn
  obtain ⟨f1, f2, f3, f4, f5, f6⟩ := fine_spec hf
  have hw : (weights bs s 5).length = 5 := weights_len _ _ _
  have ha5 : allIn 5 s := fun j hj => by have := ha j hj; omega
  have none_ : goOn bs st fl s = none → k (.tup [.imm (.int .i64) [] false, .bool false]) [] := by
    intro h
    obtain ⟨e1, e2⟩ := go_none h
    have hk : k (.tup [.imm (.int .i64) (goL bs st fl s) false, .bool (goB bs st fl s)]) [] := hk
    rwa [e1, e2] at hk
  have some_ : ∀ x, goOn bs st fl s = some x → k (.tup [.imm (.int .i64) x false, .bool true]) [] := by
    intro x h
    obtain ⟨e1, e2⟩ := go_some h
    have hk : k (.tup [.imm (.int .i64) (goL bs st fl s) false, .bool (goB bs st fl s)]) [] := hk
    rwa [e1, e2] at hk
  have eq := goOn_eq (st := st) (fl := fl) hl
  refine ⟨⟨hf, hl, ha5⟩, by rw [hw]; simp, by rw [hw]; rfl, by simp, ⟨hl, by show bs.length ≤ big60; simp only [big60]; omega⟩, ?_⟩
  rw [br_bf]
  refine ⟨fun hs => ⟨hw, ⟨by show 0 < (weights bs s 5).length; omega, by show (weights bs s 5).length ≤ big60; rw [hw]; decide⟩, ?_⟩, fun hs => none_ ?_⟩
  rotate_left
  · have : goodB bs st fl s = false := by
      rw [goodB_eq]; have : smoothB bs s = false := by simpa using hs
      rw [this, Bool.and_false]
    rw [eq, this]; rfl
  have hs : smoothB bs s = true := by simpa using hs
  have hgood := goodB_max (fl := fl) hs ⟨by omega, f3⟩ (by omega) ha
  rw [br_decide]
  refine ⟨fun h => none_ ?_, fun h => ?_⟩
  · have : goodB bs st fl s = false := by rw [hgood]; simp; omega
    rw [eq, this]; rfl
  have hg : goodB bs st fl s = true := by rw [hgood]; simp; omega
  rw [hg] at eq
  simp only [Bool.not_true, Bool.false_eq_true, if_false] at eq
  rw [br_beq]
  refine ⟨fun h1 => some_ _ (by rw [eq, if_pos (by omega)]), fun h1 => ?_⟩
  rw [if_neg (by omega)] at eq
  refine Loop.upto (fun i => (bs, st, fl, s, !firstEmpty bs s i, st, (i : Int), weights bs s 5, ())) (fun i => goTry bs st fl s i = none) st.toNat rfl rfl ?_ ?_
  · intro i K hi hp hK
    dsimp only
    rw [br_decide]
    refine ⟨fun _ => ?_, fun h => absurd hi (by omega)⟩
    try simp only [Int.toNat_natCast]
    have hi5 : i < (weights bs s 5).length := by omega
    refine ⟨⟨by omega, by omega⟩, hi5, ?_⟩
    have fe := firstEmpty_succ bs s i
    have ts := goTry_succ bs st fl s i
    rw [hp] at ts
    have tr : isCand bs s i = true → (firstEmpty bs s (i + 1) = firstEmpty bs s i ∨ True) → ∀ (b : Bool), b = !firstEmpty bs s (i + 1) →
      ((0 ≤ ((s.length : Nat) : Int) ∧ ((s.length : Nat) : Int) ≤ ((s.length : Nat) : Int) ∧ True) ∧
       ((s.take s.length).length + [(i : Int)].length ≤ big) ∧ (0 < [(i : Int)].length) ∧
       (Var.below v68 m68 n).p (bs, st, fl, s.take s.length ++ [(i : Int)], ()) ∧
       br (goB bs st fl (s.take s.length ++ [(i : Int)])) (k (.tup [.imm (.int .i64) (goL bs st fl (s.take s.length ++ [(i : Int)])) false, .bool true]) []) (fitsK .i64 ((i : Int) + 1) ∧ K (bs, st, fl, s, b, st, (i : Int) + 1, weights bs s 5, ()))) := by
      intro hc _ b hb
      rw [List.take_length]
      rw [if_pos hc] at ts
      refine ⟨⟨by omega, by omega, trivial⟩, by simp [big]; omega, by simp, ⟨⟨hf, by show (s ++ [(i : Int)]).length ≤ bs.length; simp; omega, fun j hj => ?_⟩, by show bs.length + 1 - (s ++ [(i : Int)]).length < n; simp; omega⟩, ?_⟩
      · rcases List.mem_append.1 hj with hj | hj
        · exact ha j hj
        · have e : j = (i : Int) := List.mem_singleton.1 hj; rw [e]; exact ⟨by omega, by omega⟩
      · refine br_intro (fun h2 => some_ _ ?_) (fun h2 => ⟨fits64 (by omega) (by omega), ?_⟩)
        · rw [eq]
          exact goTry_more (n := i + 1) (by rw [ts, goB_some h2]; rfl) _ (by omega)
        · have hK := hK (by rw [ts, goB_none h2]; rfl)
          rw [← hb] at hK
          exact hK
    rw [br_beq, weights_at]
    refine ⟨fun h2 => ?_, fun h2 => ?_⟩
    · have e0 : decide (wAt bs s (i : Int) ≠ 0) = false := by simp [h2]
      rw [e0, Bool.and_false] at fe
      rw [br_not]
      refine ⟨fun h3 => ?_, fun h3 => ?_⟩
      · have hnc : isCand bs s i = false := by unfold isCand; rw [e0, h3]; rfl
        rw [if_neg (by simp [hnc])] at ts
        have hK := hK (by rw [ts]; rfl)
        rw [fe] at hK
        rw [h3]
        exact ⟨fits64 (by omega) (by omega), hK⟩
      · exact tr (by unfold isCand; rw [h3, Bool.or_true]) (.inr trivial) true (by rw [fe]; rfl)
    · have e0 : decide (wAt bs s (i : Int) ≠ 0) = true := by simpa using h2
      rw [e0, Bool.and_true] at fe
      exact tr (by unfold isCand; rw [e0, Bool.true_or]) (.inr trivial) _ (by rw [fe])
  · intro K hp
    dsimp only
    rw [br_decide]
    refine ⟨fun h => absurd h (by omega), fun _ => ?_⟩
    exact none_ (by rw [eq]; exact hp)

theorem k69 (n : Nat) (hG : Good Try.prog (envOf [(56, mkC [v56]), (57, mkC [v57]), (69, mkC [v69.below m69 n])])) : (v69.below m69 (n + 1)).Kept Try.prog 69 := by
  rintro ⟨bs, st, fl, s, ⟨⟩⟩ hpre k hk
  change List (Int × Int) at bs
  change Int at st fl
  change List Int at s
  change Nat at n
  refine aspec hmix hG Try.func69 tx69 (Eq.mpr (eq69 bs st fl s n k) ?_)
  unfold vc69
  obtain ⟨⟨hf, hl, ha⟩, hn⟩ := hpre
  have hf : Fine bs st fl := hf
  have hl : s.length ≤ bs.length := hl
  have ha : allIn st s := ha
  have hn : bs.length + 1 - s.length < n + 1 := hn
  obtain ⟨f1, f2, f3, f4, f5, f6⟩ := fine_spec hf
  have hw : (wtsI bs s st).length = st.toNat := weights_len _ _ _
  have none_ : goOn bs st fl s = none → k (.tup [.imm (.int .i64) [] false, .bool false]) [] := by
    intro h
    obtain ⟨e1, e2⟩ := go_none h
    have hk : k (.tup [.imm (.int .i64) (goL bs st fl s) false, .bool (goB bs st fl s)]) [] := hk
    rwa [e1, e2] at hk
  have some_ : ∀ x, goOn bs st fl s = some x → k (.tup [.imm (.int .i64) x false, .bool true]) [] := by
    intro x h
    obtain ⟨e1, e2⟩ := go_some h
    have hk : k (.tup [.imm (.int .i64) (goL bs st fl s) false, .bool (goB bs st fl s)]) [] := hk
    rwa [e1, e2] at hk
  have eq := goOn_eq (st := st) (fl := fl) hl
  refine ⟨⟨hf, hl, ha⟩, ?_⟩
  rw [br_not]
  refine ⟨fun h => none_ (by rw [eq, h]; rfl), fun hg => ?_⟩
  rw [hg] at eq
  simp only [Bool.not_true, Bool.false_eq_true, if_false] at eq
  rw [br_beq]
  refine ⟨fun h1 => some_ _ (by rw [eq, if_pos (by omega)]), fun h1 => ⟨⟨hl, by show bs.length ≤ 16; omega, f6, by show 0 ≤ st; omega, by show st ≤ 100; omega, ha⟩, ?_⟩⟩
  rw [if_neg (by omega)] at eq
  refine Loop.upto (fun i => (s, !firstEmpty bs s i, (i : Int), bs, st, fl, wtsI bs s st, ())) (fun i => goTry bs st fl s i = none) st.toNat rfl rfl ?_ ?_
  · intro i K hi hp hK
    dsimp only
    rw [br_decide]
    refine ⟨fun _ => ?_, fun h => absurd hi (by omega)⟩
    try simp only [Int.toNat_natCast]
    have hi5 : i < (wtsI bs s st).length := by omega
    refine ⟨⟨by omega, hi5⟩, hi5, ?_⟩
    have fe := firstEmpty_succ bs s i
    have ts := goTry_succ bs st fl s i
    rw [hp] at ts
    have ew : (wtsI bs s st)[i] = wAt bs s (i : Int) := weights_at bs s _ i hi5
    have tr : isCand bs s i = true → ∀ (b : Bool), b = !firstEmpty bs s (i + 1) →
      ((([] : List Int).length + s.length ≤ big) ∧ ((([] : List Int) ++ s).length + [(i : Int)].length ≤ big) ∧
       (Var.below v69 m69 n).p (bs, st, fl, ([] : List Int) ++ s ++ [(i : Int)], ()) ∧
       br (goB bs st fl (([] : List Int) ++ s ++ [(i : Int)])) (k (.tup [.imm (.int .i64) (goL bs st fl (([] : List Int) ++ s ++ [(i : Int)])) false, .bool true]) []) (fitsK .i64 ((i : Int) + 1) ∧ K (s, b, (i : Int) + 1, bs, st, fl, wtsI bs s st, ()))) := by
      intro hc b hb
      rw [List.nil_append]
      rw [if_pos hc] at ts
      refine ⟨by simp [big]; omega, by simp [big]; omega, ⟨⟨hf, by show (s ++ [(i : Int)]).length ≤ bs.length; simp; omega, fun j hj => ?_⟩, by show bs.length + 1 - (s ++ [(i : Int)]).length < n; simp; omega⟩, ?_⟩
      · rcases List.mem_append.1 hj with hj | hj
        · exact ha j hj
        · have e : j = (i : Int) := List.mem_singleton.1 hj; rw [e]; exact ⟨by omega, by omega⟩
      · refine br_intro (fun h2 => some_ _ ?_) (fun h2 => ⟨fits64 (by omega) (by omega), ?_⟩)
        · rw [eq]
          exact goTry_more (n := i + 1) (by rw [ts, goB_some h2]; rfl) _ (by omega)
        · have hK := hK (by rw [ts, goB_none h2]; rfl)
          rw [← hb] at hK
          exact hK
    rw [br_bt]
    simp only [beq_iff_eq, beq_eq_false_iff_ne, ne_eq, ew]
    refine ⟨fun h2 => ?_, fun h2 => ?_⟩
    · have e0 : decide (wAt bs s (i : Int) ≠ 0) = false := by simp [h2]
      rw [e0, Bool.and_false] at fe
      rw [br_not]
      refine ⟨fun h3 => ?_, fun h3 => ?_⟩
      · have hnc : isCand bs s i = false := by unfold isCand; rw [e0, h3]; rfl
        rw [if_neg (by simp [hnc])] at ts
        have hK := hK (by rw [ts]; rfl)
        rw [fe] at hK
        rw [h3]
        exact ⟨fits64 (by omega) (by omega), hK⟩
      · rw [h3]
        have e1 : (wAt bs s (i : Int) == 0) = true := by simp [h2]
        refine br_intro (fun _ => ⟨⟨by omega, hi5⟩, hi5, ?_⟩) (fun hh => by cases hh)
        rw [e1]
        exact tr (by unfold isCand; rw [h3, Bool.or_true]) true (by rw [fe]; rfl)
    · have e0 : decide (wAt bs s (i : Int) ≠ 0) = true := by simpa using h2
      rw [e0, Bool.and_true] at fe
      have e1 : (wAt bs s (i : Int) == 0) = false := by simpa using h2
      rw [br_bf]
      refine ⟨fun h3 => ⟨⟨by omega, hi5⟩, hi5, ?_⟩, fun h3 => ?_⟩
      · rw [e1]
        exact tr (by unfold isCand; rw [e0, Bool.true_or]) false (by rw [fe, h3])
      · exact tr (by unfold isCand; rw [e0, Bool.true_or]) true (by rw [fe, h3])
  · intro K hp
    dsimp only
    rw [br_decide]
    refine ⟨fun h => absurd h (by omega), fun _ => ?_⟩
    exact none_ (by rw [eq]; exact hp)

theorem k32 (hG : Good Try.prog (envOf [(61, mkC [v61]), (68, mkC [v68])])) : v32.Kept Try.prog 32 := by
  rintro ⟨bs, st, fl, ⟨⟩⟩ hpre k hk
  change List (Int × Int) at bs
  change Int at st fl
  refine aspec hmix hG Try.func32 tx32 (Eq.mpr (eq32 bs st fl k) ?_)
  replace hk : k (.tup [.imm (.int .i64) (stowL bs st fl) false, rI (stowE bs st fl)]) [] := hk
  unfold vc32
  have hb : bs.length ≤ 16 := hpre
  refine ⟨hb, ?_⟩
  refine br_errs (p := fun e => k (.tup [.imm (.int .i64) [] false, rI e]) []) (fun h => ?_) (fun h => ⟨⟨h, by show (0 : Nat) ≤ bs.length; omega, fun j hj => by cases hj⟩, ?_⟩)
  · have e : stowE bs st fl = checkLoad bs st fl := by unfold stowE; rw [if_pos h]
    have e2 : stowL bs st fl = [] := by unfold stowL; rw [if_neg (by rw [e]; exact h)]
    rwa [e, e2] at hk
  · have e : stowE bs st fl = if goB bs st fl [] then 0 else 23 := by unfold stowE; rw [if_neg (by simp [h])]
    rw [br_not]
    refine ⟨fun h1 => ?_, fun h1 => ?_⟩
    · rw [h1] at e
      have e : stowE bs st fl = 23 := e
      have e2 : stowL bs st fl = [] := by unfold stowL; rw [if_neg (by rw [e]; decide)]
      rwa [e, e2] at hk
    · rw [h1] at e
      have e : stowE bs st fl = 0 := e
      have e2 : stowL bs st fl = goL bs st fl [] := by unfold stowL; rw [if_pos e]
      rwa [e, e2] at hk

theorem k33 (hG : Good Try.prog (envOf [(22, mkC [v22]), (69, mkC [v69])])) : v33.Kept Try.prog 33 := by
  rintro ⟨bs, st, fl, ⟨⟩⟩ hpre k hk
  change List (Int × Int) at bs
  change Int at st fl
  refine aspec hmix hG Try.func33 tx33 (Eq.mpr (eq33 bs st fl k) ?_)
  replace hk : k (.tup [.imm (.int .i64) (stowL bs st fl) false, rI (stowE bs st fl)]) [] := hk
  unfold vc33
  have hb : bs.length ≤ 16 := hpre
  refine ⟨hb, ?_⟩
  rw [br_bne]
  refine ⟨fun h => ⟨hb, ?_⟩, fun h => ⟨⟨h, by show (0 : Nat) ≤ bs.length; omega, fun j hj => by cases hj⟩, ?_⟩⟩
  · have e : stowE bs st fl = checkLoad bs st fl := by unfold stowE; rw [if_pos h]
    have e2 : stowL bs st fl = [] := by unfold stowL; rw [if_neg (by rw [e]; exact h)]
    rwa [e, e2] at hk
  · have e : stowE bs st fl = if goB bs st fl [] then 0 else 23 := by unfold stowE; rw [if_neg (by simp [h])]
    rw [br_not]
    refine ⟨fun h1 => ?_, fun h1 => ?_⟩
    · rw [h1] at e
      have e : stowE bs st fl = 23 := e
      have e2 : stowL bs st fl = [] := by unfold stowL; rw [if_neg (by rw [e]; decide)]
      rwa [e, e2] at hk
    · rw [h1] at e
      have e : stowE bs st fl = 0 := e
      have e2 : stowL bs st fl = goL bs st fl [] := by unfold stowL; rw [if_pos e]
      rwa [e, e2] at hk

theorem sumLen_take {l : List (List Int)} {i : Nat} (h : i < l.length) : sumLen (l.take (i + 1)) = sumLen (l.take i) + l[i].length := by
  unfold sumLen
  rw [List.take_succ_eq_append_getElem h, List.foldl_append]; rfl
theorem sumLen_le {l : List (List Int)} : ∀ i, i ≤ l.length → sumLen (l.take i) ≤ sumLen l
  | i, hi => by
    have : ∀ m, i + m ≤ l.length → sumLen (l.take i) ≤ sumLen (l.take (i + m)) := by
      intro m
      induction m with
      | zero => intro _; exact Nat.le_refl _
      | succ m ih =>
        intro hm
        have := ih (by omega)
        have h2 := sumLen_take (l := l) (i := i + m) (by omega)
        rw [← Nat.add_assoc, h2]; omega
    have h := this (l.length - i) (by omega)
    rw [show i + (l.length - i) = l.length by omega, List.take_length] at h
    exact h
theorem flatten_take {l : List (List Int)} {i : Nat} (h : i < l.length) : (l.take (i + 1)).flatten = (l.take i).flatten ++ l[i] := by
  rw [List.take_succ_eq_append_getElem h, List.flatten_append]; simp
theorem flatten_len : ∀ (l : List (List Int)) (i : Nat), i ≤ l.length → ((l.take i).flatten).length = sumLen (l.take i)
  | l, 0, _ => by simp [sumLen]
  | l, i + 1, h => by rw [flatten_take (by omega), sumLen_take (by omega), List.length_append, flatten_len l i (by omega)]

theorem k70 (hG : Good Try.prog (envOf [(86, cGrow)])) : v70.Kept Try.prog 70 := by
  rintro ⟨l, ⟨⟩⟩ hpre k hk
  change List (List Int) at l
  refine aspec hmix hG Try.func70 tx70 (Eq.mpr (eq70 l k) ?_)
  replace hk : k (.reg 0 false) [.sl (.int .i64) (List.flatten l)] := hk
  unfold vc70
  obtain ⟨h1, h2, h3⟩ := hpre
  have h1 : l.length ≤ 100 := h1
  have h2 : 1 ≤ sumLen l := h2
  have h3 : sumLen l ≤ 1000000 := h3
  refine Loop.upto (fun i => (l, ((sumLen (l.take i) : Nat) : Int), l, ((l.length : Nat) : Int), (i : Int), ())) (fun i => True) l.length rfl trivial ?_ ?_
  · intro i K hi hp hK
    dsimp only
    rw [br_decide]
    refine ⟨fun _ => ?_, fun h => absurd hi (by omega)⟩
    try simp only [Int.toNat_natCast]
    have hK := hK trivial
    have hs := sumLen_take hi
    have hle := sumLen_le (l := l) (i + 1) (by omega)
    rw [hs] at hK hle
    refine ⟨⟨by omega, by omega⟩, fits64 (by omega) (by omega), ?_⟩
    rw [br_decide]
    exact ⟨fun h => absurd h (by omega), fun _ => ⟨fits64 (by omega) (by omega), hK⟩⟩
  · intro K hp
    dsimp only
    rw [br_decide]
    refine ⟨fun h => absurd h (by omega), fun _ => ?_⟩
    rw [List.take_length]
    refine ⟨⟨by omega, by omega⟩, ?_⟩
    refine Loop.upto (fun i => (l, ((l.length : Nat) : Int), (i : Int), (l.take i).flatten, ())) (fun i => True) l.length rfl trivial ?_ ?_
    · intro j K_j hj hp_j hK_j
      dsimp only
      rw [br_decide]
      refine ⟨fun _ => ?_, fun h => absurd hj (by omega)⟩
      try simp only [Int.toNat_natCast]
      have hK := hK_j trivial
      have hfl := flatten_len l j (by omega)
      have hs := sumLen_take hj
      have hle := sumLen_le (l := l) (j + 1) (by omega)
      rw [hs] at hle
      rw [flatten_take hj] at hK
      exact ⟨⟨by omega, by omega⟩, by rw [hfl]; simp only [big]; omega, fits64 (by omega) (by omega), hK⟩
    · intro K_j hp_j
      dsimp only
      rw [br_decide]
      refine ⟨fun h => absurd h (by omega), fun _ => ?_⟩
      rw [List.take_length]
      exact hk

theorem chTo (bs : List (Int × Int)) (st fl : Int) (s : List Int) (i : Nat) : ((List.range (i + 1)).filter (fun k : Nat => goB bs st fl (s ++ [(k : Int)]))).map Int.ofNat = ((List.range i).filter (fun k : Nat => goB bs st fl (s ++ [(k : Int)]))).map Int.ofNat ++ (if goB bs st fl (s ++ [(i : Int)]) then [(i : Int)] else []) := by
  rw [List.range_succ, List.filter_append, List.map_append]
  congr 1
  by_cases h : goB bs st fl (s ++ [(i : Int)]) = true <;> simp [h]
theorem chTo_len (bs : List (Int × Int)) (st fl : Int) (s : List Int) (i : Nat) : (((List.range i).filter (fun k : Nat => goB bs st fl (s ++ [(k : Int)]))).map Int.ofNat).length ≤ i := by
  rw [List.length_map]
  exact Nat.le_trans (List.length_filter_le _ _) (by simp)

theorem k34 (hG : Good Try.prog (envOf [(61, mkC [v61]), (59, mkC [v59]), (68, mkC [v68]), (70, mkC [v70])])) : v34.Kept Try.prog 34 := by
  rintro ⟨bs, st, fl, s, ⟨⟩⟩ hpre k hk
  change List (Int × Int) at bs
  change Int at st fl
  change List Int at s
  refine aspec hmix hG Try.func34 tx34 (Eq.mpr (eq34 bs st fl s k) ?_)
  replace hk : k (.tup [.reg 0 false, rI (chE bs st fl s)]) [.sl (.int .i64) (chL bs st fl s)] := hk
  unfold vc34
  obtain ⟨hb, hl⟩ := hpre
  have hb : bs.length ≤ 16 := hb
  have hl : s.length ≤ 1152921504606846976 := hl
  have bad : ∀ e, chE bs st fl s = e → e ≠ 0 → k (.tup [.reg 0 false, rI e]) [.sl (.int .i64) []] := by
    intro e he h0
    have e2 : chL bs st fl s = [] := by unfold chL; rw [if_neg (by rw [he]; exact h0)]
    rwa [he, e2] at hk
  refine ⟨hb, ?_⟩
  refine br_errs (p := fun e => k (.tup [.reg 0 false, rI e]) [.sl (.int .i64) []]) (fun h => bad _ (by unfold chE; rw [if_pos h]) h) (fun h => ?_)
  obtain ⟨f1, f2, f3, f4, f5, f6⟩ := fine_spec h
  rw [br_decide]
  refine ⟨fun h1 => bad 6 (by unfold chE; rw [if_neg (by simp [h]), if_pos (by omega)]) (by decide), fun h1 => ⟨fits64 (by omega) (by omega), hl, ?_⟩⟩
  rw [Bool.not_not]
  refine br_intro (fun h2 => bad 2 (by unfold chE; rw [if_neg (by simp [h]), if_neg (by omega), if_pos h2]) (by decide)) (fun h2 => ?_)
  have ha := allIn_of h2
  have he : chE bs st fl s = 0 := by unfold chE; rw [if_neg (by simp [h]), if_neg (by omega), if_neg (by simp [h2])]
  have hL : chL bs st fl s = ((List.range st.toNat).filter (fun k : Nat => goB bs st fl (s ++ [(k : Int)]))).map Int.ofNat := by unfold chL; rw [if_pos he]
  rw [he, hL] at hk
  refine Loop.upto (fun i => (s, bs, st, fl, st, (i : Int), ((List.range i).filter (fun k : Nat => goB bs st fl (s ++ [(k : Int)]))).map Int.ofNat, ())) (fun i => True) st.toNat rfl trivial ?_ ?_
  · intro i K hi hp hK
    dsimp only
    rw [br_decide]
    refine ⟨fun _ => ?_, fun h => absurd hi (by omega)⟩
    try simp only [Int.toNat_natCast]
    have hK := hK trivial
    have hlen := chTo_len bs st fl s i
    rw [chTo] at hK
    have ef : List.flatten [s, [(i : Int)]] = s ++ [(i : Int)] := by simp
    rw [ef]
    refine ⟨⟨by show (2 : Nat) ≤ 100; omega, by show 1 ≤ 0 + s.length + 1; omega, by show 0 + s.length + 1 ≤ 1000000; omega⟩, ⟨h, by show (s ++ [(i : Int)]).length ≤ bs.length; simp; omega, fun j hj => ?_⟩, ?_⟩
    · rcases List.mem_append.1 hj with hj | hj
      · exact ha j hj
      · have e : j = (i : Int) := List.mem_singleton.1 hj; rw [e]; exact ⟨by omega, by omega⟩
    · refine br_intro (fun h3 => ⟨by simp only [List.length_singleton, big]; omega, fits64 (by omega) (by omega), ?_⟩) (fun h3 => ⟨fits64 (by omega) (by omega), ?_⟩)
      · rw [if_pos h3] at hK; exact hK
      · rw [if_neg (by simp [h3]), List.append_nil] at hK; exact hK
  · intro K hp
    dsimp only
    rw [br_decide]
    refine ⟨fun h => absurd h (by omega), fun _ => ?_⟩
    exact hk

theorem k35 (hG : Good Try.prog (envOf [(22, mkC [v22]), (69, mkC [v69])])) : v35.Kept Try.prog 35 := by
  rintro ⟨bs, st, fl, s, ⟨⟩⟩ hpre k hk
  change List (Int × Int) at bs
  change Int at st fl
  change List Int at s
  refine aspec hmix hG Try.func35 tx35 (Eq.mpr (eq35 bs st fl s k) ?_)
  replace hk : k (.tup [.reg 0 false, rI (chE bs st fl s)]) [.sl (.int .i64) (chL bs st fl s)] := hk
  unfold vc35
  obtain ⟨hb, hl⟩ := hpre
  have hb : bs.length ≤ 16 := hb
  have hl : s.length ≤ 1152921504606846976 := hl
  have bad : ∀ e, chE bs st fl s = e → e ≠ 0 → k (.tup [.reg 0 false, rI e]) [.sl (.int .i64) []] := by
    intro e he h0
    have e2 : chL bs st fl s = [] := by unfold chL; rw [if_neg (by rw [he]; exact h0)]
    rwa [he, e2] at hk
  refine ⟨hb, ?_⟩
  rw [br_bne]
  refine ⟨fun h => ⟨hb, bad _ (by unfold chE; rw [if_pos h]) h⟩, fun h => ?_⟩
  obtain ⟨f1, f2, f3, f4, f5, f6⟩ := fine_spec h
  rw [br_decide]
  refine ⟨fun h1 => bad 6 (by unfold chE; rw [if_neg (by simp [h]), if_pos (by omega)]) (by decide), fun h1 => ?_⟩
  have e2 : ∀ y ∈ s, outOf 0 (st - 1) y = true → k (.tup [.reg 0 false, rI 2]) [.sl (.int .i64) []] := by
    intro y hy ho
    have : anyOut 0 (st - 1) s = true := List.any_eq_true.2 ⟨y, hy, ho⟩
    exact bad 2 (by unfold chE; rw [if_neg (by simp [h]), if_neg (by omega), if_pos this]) (by decide)
  refine Loop.upto (fun i => (s, (i : Int), bs, st, fl, ())) (fun i => ∀ y ∈ s.take i, outOf 0 (st - 1) y = false) s.length rfl (by simp) ?_ ?_
  · intro i K hi hp hK
    dsimp only
    rw [br_decide]
    refine ⟨fun _ => ?_, fun h => absurd hi (by omega)⟩
    try simp only [Int.toNat_natCast]
    refine ⟨⟨by omega, by omega⟩, ?_⟩
    rw [br_false]
    refine ⟨fun h4 => ⟨⟨by omega, by omega⟩, ?_⟩, fun h4 => e2 _ (List.getElem_mem hi) (by simp [outOf]; omega)⟩
    rw [br_decide]
    exact ⟨fun h5 => e2 _ (List.getElem_mem hi) (by simp [outOf]; omega), fun h5 => ⟨fits64 (by omega) (by omega), hK (take_all_succ _ _ _ hi hp (by simp [outOf]; omega))⟩⟩
  · intro K hp
    dsimp only
    rw [br_decide]
    refine ⟨fun h => absurd h (by omega), fun _ => ?_⟩
    rw [List.take_length] at hp
    have h2 : anyOut 0 (st - 1) s = false := by
      rw [← Bool.not_eq_true]
      intro hh
      obtain ⟨y, hy, ho⟩ := List.any_eq_true.1 hh
      rw [hp y hy] at ho; cases ho
    have ha := allIn_of h2
    have he : chE bs st fl s = 0 := by unfold chE; rw [if_neg (by simp [h]), if_neg (by omega), if_neg (by simp [h2])]
    have hL : chL bs st fl s = ((List.range st.toNat).filter (fun k : Nat => goB bs st fl (s ++ [(k : Int)]))).map Int.ofNat := by unfold chL; rw [if_pos he]
    rw [he, hL] at hk
    refine Loop.upto (fun i => (s, (i : Int), bs, st, fl, ((List.range i).filter (fun k : Nat => goB bs st fl (s ++ [(k : Int)]))).map Int.ofNat, ())) (fun i => True) st.toNat rfl trivial ?_ ?_
    · intro j K_j hj hp_j hK_j
      dsimp only
      rw [br_decide]
      refine ⟨fun _ => ?_, fun h => absurd hj (by omega)⟩
      try simp only [Int.toNat_natCast]
      have hK := hK_j trivial
      have hlen := chTo_len bs st fl s j
      rw [chTo] at hK
      rw [List.nil_append]
      refine ⟨by simp [big]; omega, by simp [big]; omega, ⟨h, by show (s ++ [(j : Int)]).length ≤ bs.length; simp; omega, fun x hx => ?_⟩, ?_⟩
      · rcases List.mem_append.1 hx with hx | hx
        · exact ha x hx
        · have e : x = (j : Int) := List.mem_singleton.1 hx; rw [e]; exact ⟨by omega, by omega⟩
      · refine br_intro (fun h3 => ⟨by simp only [List.length_singleton, big]; omega, fits64 (by omega) (by omega), ?_⟩) (fun h3 => ⟨fits64 (by omega) (by omega), ?_⟩)
        · rw [if_pos h3] at hK; exact hK
        · rw [if_neg (by simp [h3]), List.append_nil] at hK; exact hK
    · intro K_j hp_j
      dsimp only
      rw [br_decide]
      refine ⟨fun h => absurd h (by omega), fun _ => ?_⟩
      exact hk
end Go.Abs.Ship
end

section
/- The ship's functions keep their contracts: boxes that are left, and in which order boxes go out. -/
open Go.Proofs
set_option maxRecDepth 100000
set_option linter.unusedVariables false
namespace Go.Abs.Ship

theorem k88 (hG : Good Try.prog (envOf [])) : v88.Kept Try.prog 88 := by
  rintro ⟨l, ⟨⟩⟩ hpre k hk
  change List Int at l
  refine aspec hmix hG Try.func88 tx88 (Eq.mpr (eq88 l k) ?_)
  replace hk : k (.reg 0 false) [.sl (.int .i64) l] := hk
  unfold vc88
  have hl : l.length ≤ 1000 := hpre
  intro b hb
  refine br_intro (fun h => ?_) (fun h => ⟨by simp [big]; omega, ?_⟩)
  · have e : l = [] := hb h
    rwa [e] at hk
  · rw [List.nil_append]; exact hk

theorem restOf_take {m l : List Int} {j : Nat} (h : j < l.length) : restOf m (l.take (j + 1)) = restOf m (l.take j) ++ (if hasI m l[j] then [] else [l[j]]) := by
  unfold restOf
  rw [List.take_succ_eq_append_getElem h, List.filter_append]
  congr 1
  cases hh : hasI m l[j] <;> simp [hh]
theorem restOf_none {m l : List Int} (h : ∀ y ∈ l, hasI m y = false) : restOf m l = l := by
  unfold restOf
  rw [List.filter_eq_self]
  intro y hy
  simp [h y hy]
theorem restOf_len (m l : List Int) : (restOf m l).length ≤ l.length := List.length_filter_le _ _
theorem indexOf_cases {α : Type} (p : α → Bool) : ∀ (l : List α), (indexOf p l = -1 ∧ ∀ x ∈ l, p x = false) ∨ ∃ i : Nat, ∃ h : i < l.length, indexOf p l = (i : Int) ∧ p l[i] = true ∧ ∀ x ∈ l.take i, p x = false
  | [] => .inl ⟨rfl, fun x h => (by cases h)⟩
  | x :: l => by
    unfold indexOf
    by_cases h : p x = true
    · right
      rw [if_pos h]
      exact ⟨0, by simp, rfl, h, fun y hy => (by cases hy)⟩
    · rw [if_neg h]
      have h : p x = false := by simpa using h
      rcases indexOf_cases p l with ⟨h1, h2⟩ | ⟨i, h1, h2, h3, h4⟩
      · left
        rw [h1, if_pos (by decide)]
        refine ⟨rfl, fun y hy => ?_⟩
        rcases List.mem_cons.1 hy with rfl | hy
        · exact h
        · exact h2 y hy
      · right
        rw [h2, if_neg (by omega)]
        refine ⟨i + 1, by simpa using h1, rfl, by simpa using h3, fun y hy => ?_⟩
        rw [List.take_succ_cons] at hy
        rcases List.mem_cons.1 hy with rfl | hy
        · exact h
        · exact h4 y hy

theorem k87 (hG : Good Try.prog (envOf [(93, mkC [v93b]), (89, mkC [v89])])) : v87.Kept Try.prog 87 := by
  rintro ⟨m, l, ⟨⟩⟩ hpre k hk
  change List Int at m l
  refine aspec hmix hG Try.func87 tx87 (Eq.mpr (eq87 m l k) ?_)
  unfold vc87
  obtain ⟨h1, h2⟩ := hpre
  have h1 : m.length ≤ 1152921504606846976 := h1
  have h2 : l.length ≤ 1000 := h2
  replace hk : br (anyHas m l) (k (.sub 0 0 (restOf m l).length false) [.sl (.int .i64) (restZ m l)]) (k (.reg 0 false) [.sl (.int .i64) l]) := hk
  refine ⟨⟨by show l.length ≤ big60; simp only [big60]; omega, h1⟩, ?_⟩
  rw [br_iff] at hk
  rcases indexOf_cases (hasI m) l with ⟨g1, g2⟩ | ⟨i0, g1, g2, g3, g4⟩
  · have e : indexHas l m = -1 := g1
    rw [br_beq]
    refine ⟨fun _ => hk.2 ?_, fun h => absurd e h⟩
    rw [← Bool.not_eq_true]
    intro hh
    obtain ⟨y, hy, ho⟩ := List.any_eq_true.1 hh
    rw [g2 y hy] at ho; cases ho
  · have e : indexHas l m = (i0 : Int) := g2
    rw [e, br_beq]
    refine ⟨fun h => by omega, fun _ => ⟨fits64 (by omega) (by omega), ?_⟩⟩
    have ha : anyHas m l = true := List.any_eq_true.2 ⟨_, List.getElem_mem g1, g3⟩
    have hk := hk.1 ha
    have r0 : restOf m (l.take (i0 + 1)) = l.take i0 := by
      rw [restOf_take g1, if_pos g3, List.append_nil, restOf_none g4]
    refine Loop.intro (fun x => ∃ (i j : Nat) (A : List Int), x = (m, (i : Int), (j : Int), A, ()) ∧ j ≤ l.length ∧ i < j ∧ A.length = l.length ∧ i = (restOf m (l.take j)).length ∧ A.take i = restOf m (l.take j) ∧ ∀ q, j ≤ q → A.getD q 0 = l.getD q 0) (fun x => l.length - x.2.2.1.toNat) ?_ ⟨i0, i0 + 1, l, rfl, by omega, by omega, rfl, by rw [r0, List.length_take]; omega, r0.symm, fun q _ => rfl⟩
    rintro x K ⟨i, j, A, rfl, hj, hij, hA, hi, ht, hs⟩ hK
    dsimp only
    have dec : l.length - ((j : Int) + 1).toNat < l.length - ((j : Int)).toNat ∨ l.length ≤ j := by omega
    rw [br_decide]
    simp only [Int.toNat_natCast]
    refine ⟨fun h => ?_, fun h => ?_⟩
    · have hlt : j < l.length := by omega
      have hAj : j < A.length := by omega
      have hAi : i < A.length := by omega
      have dec : l.length - ((j : Int) + 1).toNat < l.length - ((j : Int)).toNat := by omega
      have ej : A[j] = l[j] := by
        have := hs j (Nat.le_refl _)
        rwa [getD_at hAj, getD_at hlt] at this
      have rt := restOf_take (m := m) hlt
      refine ⟨⟨by omega, hAj⟩, hAj, h1, ?_⟩
      rw [ej, br_not]
      refine ⟨fun h3 => ⟨⟨by omega, hAi⟩, hAi, fits64 (by omega) (by omega), fits64 (by omega) (by omega), hK _ ⟨i + 1, j + 1, _, rfl, hlt, by omega, by simpa using hA, ?_, ?_, fun q hq => ?_⟩ dec⟩, fun h3 => ⟨fits64 (by omega) (by omega), hK _ ⟨i, j + 1, A, rfl, hlt, by omega, hA, ?_, ?_, fun q hq => hs q (by omega)⟩ dec⟩⟩
      · rw [rt, if_neg (by simp [h3]), List.length_append, ← hi]; rfl
      · rw [rt, if_neg (by simp [h3]), ← ht, List.take_succ_eq_append_getElem (by simpa using hAi), List.take_set]
        simp
        rw [List.set_eq_of_length_le (by simp; omega)]
      · rw [set_other (by omega)]
        exact hs q (by omega)
      · rw [rt, if_pos h3, List.append_nil]; exact hi
      · rw [rt, if_pos h3, List.append_nil]; exact ht
    · have ej : j = l.length := by omega
      subst ej
      rw [List.take_length] at hi ht
      have hr := restOf_len m l
      have eq : List.take i A ++ List.replicate (A.length - i) (0 : Int) ++ List.drop (i + (A.length - i)) A = restZ m l := by
        have : List.drop (i + (A.length - i)) A = [] := List.drop_eq_nil_of_le (by omega)
        rw [this, List.append_nil, ht, hA, hi]; rfl
      have eq' : List.take i A ++ List.replicate (A.length - i) (Int.ofNat 0) ++ List.drop (i + (A.length - i)) A = restZ m l := eq
      rw [eq']
      have hz : (restZ m l).length = l.length := by unfold restZ; simp; omega
      refine ⟨⟨by omega, by omega⟩, by omega, ⟨by omega, by omega⟩, ?_⟩
      rw [hi]
      exact hk

/-! ### the first list without which few stacks are needed -/
def above (b : List Int) (i : Nat) : Bool := b.all (fun j => decide (j < (i : Int)))
def wiTry (bs : List (Int × Int)) (st : Int) (m : Nat) (b : List Int) (n : Nat) : Option (List Int) := ((List.range n).filter (above b)).findSome? (fun i : Nat => wiF bs st m (b ++ [(i : Int)]))
theorem wiTry_succ (bs : List (Int × Int)) (st : Int) (m : Nat) (b : List Int) (n : Nat) : wiTry bs st m b (n + 1) = (wiTry bs st m b n).or (if above b n then wiF bs st m (b ++ [(n : Int)]) else none) := by
  unfold wiTry
  rw [List.range_succ, List.filter_append, List.findSome?_append]
  congr 1
  by_cases h : above b n = true
  · rw [if_pos h, List.filter_cons, if_pos h]; simp
  · rw [if_neg h, List.filter_cons, if_neg h]; simp
theorem wiTry_more {bs : List (Int × Int)} {st : Int} {mm : Nat} {b : List Int} {n : Nat} {x : List Int} (h : wiTry bs st mm b n = some x) : ∀ m, n ≤ m → wiTry bs st mm b m = some x
  | 0, hm => by obtain rfl : n = 0 := by omega
                exact h
  | m + 1, hm => by
    rcases Nat.lt_or_ge m n with h1 | h1
    · obtain rfl : n = m + 1 := by omega
      exact h
    · rw [wiTry_succ, wiTry_more h m h1]; rfl
theorem wiF_succ (bs : List (Int × Int)) (st : Int) (m : Nat) (b : List Int) : wiF bs st (m + 1) b = wiTry bs st m b bs.length := rfl
theorem above_iff {b : List Int} {i : Nat} : above b i = true ↔ ∀ j ∈ b, j < (i : Int) := by
  unfold above; simp [List.all_eq_true]
theorem wiTry_low {bs : List (Int × Int)} {st : Int} {m : Nat} {b : List Int} : ∀ n, (∀ i, i < n → above b i = false) → wiTry bs st m b n = none
  | 0, _ => rfl
  | n + 1, h => by
    rw [wiTry_succ, wiTry_low n (fun i hi => h i (by omega)), if_neg (by simp [h n (by omega)])]; rfl

theorem last_next {b : List Int} {n : Int} (hb : isList b n = true) (h0 : 0 < b.length) : (∀ i : Nat, above b i = true ↔ b[b.length - 1] < (i : Int)) := by
  intro i
  rw [above_iff]
  constructor
  · intro h; exact h _ (List.getElem_mem _)
  · intro h j hj
    obtain ⟨q, hq, rfl⟩ := List.getElem_of_mem hj
    rcases Nat.lt_or_ge q (b.length - 1) with h1 | h1
    · have := List.pairwise_iff_getElem.1 (isList_spec.1 hb).2 q (b.length - 1) hq (by omega) h1
      omega
    · have : q = b.length - 1 := by omega
      subst this; exact h
theorem isList_snoc {b : List Int} {n : Int} {i : Nat} (hb : isList b n = true) (ha : above b i = true) (hi : (i : Int) < n) : isList (b ++ [(i : Int)]) n = true := by
  obtain ⟨h1, h2⟩ := isList_spec.1 hb
  refine isList_spec.2 ⟨fun x hx => ?_, List.pairwise_append.2 ⟨h2, List.pairwise_singleton .., fun x hx y hy => ?_⟩⟩
  · rcases List.mem_append.1 hx with hx | hx
    · exact h1 x hx
    · have e : x = (i : Int) := List.mem_singleton.1 hx
      rw [e]; exact ⟨by omega, hi⟩
  · have e : y = (i : Int) := List.mem_singleton.1 hy
    rw [e]; exact above_iff.1 ha x hx
theorem isList_len {b : List Int} {n : Nat} (h : isList b (n : Int) = true) : b.length ≤ n := by
  rw [← listed_bitsL h]; exact listed_len _ _

theorem wi0 (bs : List (Int × Int)) (st : Int) (b : List Int) : wiB bs st 0 b = decide (fewN bs ((allOf bs).filter (fun i => !hasI b i)) ≤ st) := by
  show (if fewN bs ((allOf bs).filter (fun i => !hasI b i)) ≤ st then some b else none).isSome = _
  by_cases h : fewN bs ((allOf bs).filter (fun i => !hasI b i)) ≤ st
  · rw [if_pos h]; simp [h]
  · rw [if_neg h]; simp [h]

/-- What a round of the loop shows: one more box is tried. -/
theorem wi_round {bs : List (Int × Int)} {st : Int} {b : List Int} {m : Int} (hm : 1 ≤ m) {i : Nat} (hi : i < bs.length) (hp : wiTry bs st (m.toNat - 1) b i = none) (ha : above b i = true) :
    (wiB bs st (m - 1) (b ++ [(i : Int)]) = true → wiF bs st m.toNat b = some (wiL0 bs st (m - 1) (b ++ [(i : Int)]))) ∧ (wiB bs st (m - 1) (b ++ [(i : Int)]) = false → wiTry bs st (m.toNat - 1) b (i + 1) = none) := by
  obtain ⟨q, hq⟩ : ∃ q : Nat, m.toNat = q + 1 := ⟨m.toNat - 1, by omega⟩
  have hq1 : (m - 1).toNat = q := by omega
  have ts := wiTry_succ bs st q b i
  rw [hq, Nat.add_sub_cancel] at hp ⊢
  rw [hp, if_pos ha] at ts
  unfold wiB
  rw [hq1]
  refine ⟨fun h => ?_, fun h => ?_⟩
  · obtain ⟨x, hx⟩ := Option.isSome_iff_exists.1 h
    have e : wiL0 bs st (m - 1) (b ++ [(i : Int)]) = x := by
      unfold wiL0 wiL
      rw [hq1]
      split
      · rename_i h0
        have : q = 0 := by omega
        subst this
        have hx' : (if fewN bs ((allOf bs).filter (fun j => !hasI (b ++ [(i : Int)]) j)) ≤ st then some (b ++ [(i : Int)]) else none) = some x := hx
        split at hx'
        · cases hx'; rfl
        · cases hx'
      · rw [hx]; rfl
    rw [e, wiF_succ]
    exact wiTry_more (n := i + 1) (by rw [ts, hx]; rfl) _ hi
  · have : wiF bs st q (b ++ [(i : Int)]) = none := by simpa using h
    rw [ts, this]; rfl

theorem k71 (n : Nat) (hG : Good Try.prog (envOf [(88, mkC [v88]), (87, mkC [v87]), (62, mkC [v62]), (71, mkC [v71.below m71 n])])) : (v71.below m71 (n + 1)).Kept Try.prog 71 := by
  rintro ⟨bs, st, fl, al, b, m, ⟨⟩⟩ hpre k hk
  change List (Int × Int) at bs
  change Int at st fl
  change List Int at al b
  change Int at m
  change Nat at n
  refine aspec hmix hG Try.func71 tx71 (Eq.mpr (eq71 bs st fl al b m n k) ?_)
  unfold vc71
  obtain ⟨⟨hf', hal', hb', hm0', hm1'⟩, hn'⟩ := hpre
  have hf : Fine bs st fl := hf'
  have hal : al = allOf bs := hal'
  have hb : isList b (bs.length : Int) = true := hb'
  have hm0 : 0 ≤ m := hm0'
  have hm1 : m ≤ 100 := hm1'
  have hn : m.toNat < n + 1 := hn'
  clear hf' hal' hb' hm0' hm1' hn'
  obtain ⟨f1, f2, f3, f4, f5, f6⟩ := fine_spec hf
  have hbl := isList_len hb
  have hall : al.length = bs.length := by rw [hal]; simp [allOf]
  have hin : ∀ j ∈ al, (0 : Int) ≤ j ∧ j < (bs.length : Int) := fun j hj => allOf_mem.1 (hal ▸ hj)
  replace hk : k (.tup [.imm (.int .i64) (wiL0 bs st m b) false, .bool (wiB bs st m b)]) [] := hk
  rw [br_beq]
  refine ⟨fun h0 => ?_, fun h0 => ?_⟩
  · subst h0
    have e0 : wiL0 bs st 0 b = b := by unfold wiL0; rw [if_pos rfl]
    rw [e0, wi0] at hk
    have er : (allOf bs).filter (fun i => !hasI b i) = restOf b al := by rw [hal]; rfl
    rw [er] at hk
    have hrl := restOf_len b al
    refine ⟨by show al.length ≤ 1000; omega, ⟨by show b.length ≤ big60; simp only [big60]; omega, by show al.length ≤ 1000; omega⟩, ?_⟩
    refine br_intro (fun h => ?_) (fun h => ?_)
    · have et : List.take (restOf b al).length (List.drop 0 (restZ b al)) = restOf b al := by
        rw [List.drop_zero]; unfold restZ; simp
      rw [et]
      refine ⟨⟨by show bs.length ≤ 1000; omega, by show (List.take (restOf b al).length (List.drop 0 (restZ b al))).length ≤ 1000; rw [et]; omega, fun j hj => ?_⟩, hk⟩
      have hj : j ∈ List.take (restOf b al).length (List.drop 0 (restZ b al)) := hj
      rw [et] at hj
      exact hin j (List.mem_filter.1 hj).1
    · have et : restOf b al = al := restOf_none (fun y hy => by
        rw [← Bool.not_eq_true]; intro hh
        have : anyHas b al = true := List.any_eq_true.2 ⟨y, hy, hh⟩
        rw [h] at this; cases this)
      rw [et] at hk
      exact ⟨⟨by show bs.length ≤ 1000; omega, by show al.length ≤ 1000; omega, hin⟩, hk⟩
  · obtain ⟨q, hq⟩ : ∃ q : Nat, m.toNat = q + 1 := ⟨m.toNat - 1, by omega⟩
    have e0 : wiL0 bs st m b = wiL bs st m b := by unfold wiL0; rw [if_neg h0]
    rw [e0] at hk
    have some_ : ∀ x, wiF bs st m.toNat b = some x → k (.tup [.imm (.int .i64) x false, .bool true]) [] := by
      intro x hx
      have e1 : wiL bs st m b = x := by unfold wiL; rw [hx]; rfl
      have e2 : wiB bs st m b = true := by unfold wiB; rw [hx]; rfl
      rwa [e1, e2] at hk
    have none_ : wiTry bs st (m.toNat - 1) b bs.length = none → k (.tup [.imm (.int .i64) [] false, .bool false]) [] := by
      intro hx
      have hx : wiF bs st m.toNat b = none := by rw [hq, wiF_succ]; rw [hq, Nat.add_sub_cancel] at hx; exact hx
      have e1 : wiL bs st m b = [] := by unfold wiL; rw [hx]; rfl
      have e2 : wiB bs st m b = false := by unfold wiB; rw [hx]; rfl
      rwa [e1, e2] at hk
    have main : ∀ nx : Nat, nx ≤ bs.length → (∀ i, i < nx → above b i = false) → (∀ i, nx ≤ i → above b i = true) →
        Loop (σ := (List (Int × Int)) × (Int × (Int × ((List Int) × (Int × (Int × ((List Int) × Unit))))))) (fun K9 x9 =>
          br (decide (x9.2.2.2.2.2.1 < ((x9.2.2.2.1.length : Nat) : Int)))
           ((0 ≤ ((x9.2.2.2.2.2.2.1.length : Nat) : Int) ∧ ((x9.2.2.2.2.2.2.1.length : Nat) : Int) ≤ ((x9.2.2.2.2.2.2.1.length : Nat) : Int) ∧ ((x9.2.2.2.2.2.2.1.length : Nat) : Int) = ((x9.2.2.2.2.2.2.1.length : Nat) : Int)) ∧
           (List.take (((x9.2.2.2.2.2.2.1.length : Nat) : Int)).toNat x9.2.2.2.2.2.2.1).length + (x9.2.2.2.2.2.1 :: ([] : List Int)).length ≤ big ∧
           0 < (x9.2.2.2.2.2.1 :: ([] : List Int)).length ∧
           fitsK .i64 (x9.2.2.2.2.1 - 1) ∧
           (Var.below v71 m71 n).p (x9.1, (x9.2.1, (x9.2.2.1, (x9.2.2.2.1, (((List.take (((x9.2.2.2.2.2.2.1.length : Nat) : Int)).toNat x9.2.2.2.2.2.2.1) ++ (x9.2.2.2.2.2.1 :: ([] : List Int))), ((x9.2.2.2.2.1 - 1), ())))))) ∧
           br (wiB x9.1 x9.2.1 (x9.2.2.2.2.1 - 1) ((List.take (((x9.2.2.2.2.2.2.1.length : Nat) : Int)).toNat x9.2.2.2.2.2.2.1) ++ (x9.2.2.2.2.2.1 :: ([] : List Int))))
            (k (.tup [.imm (.int .i64) (wiL0 x9.1 x9.2.1 (x9.2.2.2.2.1 - 1) ((List.take (((x9.2.2.2.2.2.2.1.length : Nat) : Int)).toNat x9.2.2.2.2.2.2.1) ++ (x9.2.2.2.2.2.1 :: ([] : List Int)))) false, .bool true]) [])
            (fitsK .i64 (x9.2.2.2.2.2.1 + 1) ∧ K9 (x9.1, (x9.2.1, (x9.2.2.1, (x9.2.2.2.1, (x9.2.2.2.2.1, ((x9.2.2.2.2.2.1 + 1), (x9.2.2.2.2.2.2.1, ()))))))))
           )
           (k (.tup [.imm (.int .i64) [] false, .bool false]) [])) (bs, st, fl, al, m, (nx : Int), b, ()) := by
      intro nx hnx hlow hhigh
      refine Loop.upto (fun i => (bs, st, fl, al, m, ((nx + i : Nat) : Int), b, ())) (fun i => wiTry bs st (m.toNat - 1) b (nx + i) = none) (bs.length - nx) rfl (wiTry_low nx hlow) ?_ ?_
      · intro i K hi hp hK
        dsimp only
        rw [br_decide]
        refine ⟨fun _ => ?_, fun h => absurd hi (by omega)⟩
        rw [Int.toNat_natCast, List.take_length]
        have ha := hhigh (nx + i) (by omega)
        have hr := wi_round (st := st) (by omega) (show nx + i < bs.length by omega) hp ha
        refine ⟨⟨by omega, by omega, by first | rfl | trivial⟩, by simp [big]; omega, by simp, fits64 (by omega) (by omega), ⟨⟨hf, hal, isList_snoc hb ha (show ((nx + i : Nat) : Int) < ((bs.length : Nat) : Int) by omega), by show 0 ≤ m - 1; omega, by show m - 1 ≤ 100; omega⟩, by show (m - 1).toNat < n; omega⟩, ?_⟩
        exact br_intro (fun h1 => some_ _ (hr.1 h1)) (fun h1 => ⟨fits64 (by omega) (by omega), hK (hr.2 h1)⟩)
      · intro K hp
        dsimp only
        rw [br_decide]
        refine ⟨fun h => absurd h (by omega), fun _ => none_ ?_⟩
        rw [show nx + (bs.length - nx) = bs.length by omega] at hp
        exact hp
    rw [br_decide]
    refine ⟨fun h1 => ?_, fun h1 => ?_⟩
    · have hpos : 0 < b.length := by omega
      have el : (((b.length : Nat) : Int) - 1).toNat = b.length - 1 := by omega
      have hbi := (isList_spec.1 hb).1 b[b.length - 1] (List.getElem_mem _)
      have hn1 := last_next hb hpos
      obtain ⟨lst, hlst⟩ := Int.eq_ofNat_of_zero_le hbi.1
      have hbe : b[b.length - 1] = (lst : Int) := hlst
      have hbe2 : b[(((b.length : Nat) : Int) - 1).toNat]'(by omega) = (lst : Int) := by simp only [el]; exact hbe
      refine ⟨fits64 (by omega) (by omega), ⟨by omega, by omega⟩, ?_, ?_⟩
      · rw [hbe2]; exact fits64 (by omega) (by omega)
      · have := main (lst + 1) (by omega) (fun i hi => by rw [← Bool.not_eq_true, hn1, hbe]; omega) (fun i hi => by rw [hn1, hbe]; omega)
        rw [hbe2]
        exact this
    · have hb0 : b = [] := List.eq_nil_of_length_eq_zero (by omega)
      exact main 0 (by omega) (fun i hi => absurd hi (Nat.not_lt_zero _)) (fun i _ => by rw [hb0]; rfl)

theorem k63i (hG : Good Try.prog (envOf [])) : v63i.Kept Try.prog 63 := by
  rintro ⟨bs, st, fl, ⟨⟩⟩ hpre k hk
  change List (Int × Int) at bs
  change Int at st fl
  refine aspec hmix hG Try.func63 tx63 (Eq.mpr (eq63i bs st fl k) ?_)
  replace hk : k (.imm (.int .i64) (allOf bs) false) [] := hk
  unfold vc63i
  have hl0 : bs.length ≤ 1000 := hpre
  refine Loop.upto (fun i => (((bs.length : Nat) : Int), (i : Int), ((List.range bs.length).take i).map Int.ofNat, ())) (fun i => True) bs.length rfl trivial ?_ ?_
  · intro i K hi hp hK
    dsimp only
    rw [br_decide]
    refine ⟨fun _ => ?_, fun h => absurd hi (by omega)⟩
    try simp only [Int.toNat_natCast]
    have hK := hK trivial
    rw [allOf_take _ _ hi] at hK
    exact ⟨by simp [big]; omega, fits64 (by omega) (by omega), hK⟩
  · intro K hp
    dsimp only
    rw [br_decide]
    refine ⟨fun h => absurd h (by omega), fun _ => ?_⟩
    have e : ((List.range bs.length).take bs.length).map Int.ofNat = allOf bs := by
      have : List.take bs.length (List.range bs.length) = List.range bs.length := by rw [List.take_of_length_le (by simp)]
      rw [this]; rfl
    rw [e]
    exact hk

/-- The first list of m boxes more. -/
theorem wiF_spec (bs : List (Int × Int)) (st : Int) : ∀ (m : Nat) (b : List Int), isList b (bs.length : Int) = true →
    (wiF bs st m b = none → ∀ r : List Int, r.length = m → ¬ Lft bs st (b ++ r)) ∧
    (∀ x, wiF bs st m b = some x → Lft bs st x ∧ (∃ r : List Int, x = b ++ r ∧ r.length = m) ∧ ∀ r : List Int, r.length = m → Lft bs st (b ++ r) → before (b ++ r) x = false)
  | 0, b, hb => by
    have e : wiF bs st 0 b = if fewN bs ((allOf bs).filter (fun i => !hasI b i)) ≤ st then some b else none := rfl
    rw [e, fewN_rest]
    refine ⟨fun h r hr hL => ?_, fun x hx => ?_⟩
    · obtain rfl := List.eq_nil_of_length_eq_zero hr
      rw [List.append_nil] at hL
      have := hL.good
      simp only [leftGood, decide_eq_true_eq] at this
      rw [if_pos this] at h; cases h
    · split at hx
      · rename_i hg
        cases hx
        refine ⟨⟨hb, by simpa [leftGood] using hg⟩, ⟨[], by simp, rfl⟩, fun r hr _ => ?_⟩
        obtain rfl := List.eq_nil_of_length_eq_zero hr
        rw [List.append_nil]; exact before_irrefl _
      · cases hx
  | m + 1, b, hb => by
    rw [wiF_succ]
    have ih := wiF_spec bs st m
    have split_ : ∀ r : List Int, r.length = m + 1 → Lft bs st (b ++ r) → ∃ (i : Nat) (r' : List Int), r = (i : Int) :: r' ∧ r'.length = m ∧ i < bs.length ∧ above b i = true ∧ isList (b ++ [(i : Int)]) (bs.length : Int) = true := by
      intro r hr hL
      cases r with
      | nil => simp at hr
      | cons x r' =>
        obtain ⟨h1, h2⟩ := isList_spec.1 hL.list
        have hx := h1 x (by simp)
        obtain ⟨i, rfl⟩ := Int.eq_ofNat_of_zero_le hx.1
        have ha : above b i = true := above_iff.2 (fun j hj => (List.pairwise_append.1 h2).2.2 j hj _ (by simp))
        exact ⟨i, r', rfl, by simpa using hr, by omega, ha, isList_snoc hb ha (by omega)⟩
    have key : ∀ n, n ≤ bs.length →
        (wiTry bs st m b n = none → ∀ i, i < n → above b i = true → wiF bs st m (b ++ [(i : Int)]) = none) ∧
        (∀ x, wiTry bs st m b n = some x → ∃ i, i < n ∧ above b i = true ∧ wiF bs st m (b ++ [(i : Int)]) = some x ∧ ∀ i', i' < i → above b i' = true → wiF bs st m (b ++ [(i' : Int)]) = none) := by
      intro n
      induction n with
      | zero => intro _; exact ⟨fun _ i hi => absurd hi (Nat.not_lt_zero _), fun x hx => (by cases hx)⟩
      | succ n ihn =>
        intro hn
        obtain ⟨k1, k2⟩ := ihn (by omega)
        rw [wiTry_succ]
        cases ht : wiTry bs st m b n with
        | none =>
          have k1 := k1 ht
          by_cases ha : above b n = true
          · rw [if_pos ha]
            refine ⟨fun h i hi hai => ?_, fun x hx => ⟨n, by omega, ha, hx, fun i' hi' ha' => k1 i' hi' ha'⟩⟩
            rcases Nat.lt_or_ge i n with h5 | h5
            · exact k1 i h5 hai
            · obtain rfl : i = n := by omega
              exact h
          · rw [if_neg ha]
            refine ⟨fun h i hi hai => ?_, fun x hx => (by cases hx)⟩
            rcases Nat.lt_or_ge i n with h5 | h5
            · exact k1 i h5 hai
            · obtain rfl : i = n := by omega
              exact absurd hai ha
        | some y =>
          refine ⟨fun h => (by cases h), fun x hx => ?_⟩
          have : y = x := by simpa using hx
          subst this
          obtain ⟨i, h1, h2, h3, h4⟩ := k2 y ht
          exact ⟨i, by omega, h2, h3, h4⟩
    obtain ⟨k1, k2⟩ := key bs.length (Nat.le_refl _)
    refine ⟨fun h r hr hL => ?_, fun x hx => ?_⟩
    · obtain ⟨i, r', rfl, hr', hi, ha, hl⟩ := split_ r hr hL
      have := (ih (b ++ [(i : Int)]) hl).1 (k1 h i hi ha) r' hr'
      rw [List.append_assoc] at this
      exact this hL
    · obtain ⟨i, hi, ha, hw, hno⟩ := k2 x hx
      have hl := isList_snoc hb ha (show (i : Int) < (bs.length : Int) by omega)
      obtain ⟨s1, ⟨r0, hr0, hr0l⟩, s3⟩ := (ih (b ++ [(i : Int)]) hl).2 x hw
      refine ⟨s1, ⟨(i : Int) :: r0, by rw [hr0, List.append_assoc]; rfl, by simp [hr0l]⟩, fun r hr hL => ?_⟩
      obtain ⟨i', r', rfl, hr', hi', ha', hl'⟩ := split_ r hr hL
      rcases Nat.lt_trichotomy i' i with h5 | h5 | h5
      · have := (ih (b ++ [(i' : Int)]) hl').1 (hno i' h5 ha') r' hr'
        rw [List.append_assoc] at this
        exact absurd hL this
      · subst h5
        have := s3 r' hr' (by rw [List.append_assoc]; exact hL)
        rw [List.append_assoc] at this
        exact this
      · rw [hr0, List.append_assoc, before_append]
        show before ((i' : Int) :: r') ((i : Int) :: r0) = false
        simp only [before]
        rw [if_neg (by omega)]
        simp; omega

theorem left_first {bs : List (Int × Int)} {st : Int} (h0 : 0 ≤ st) {m : Nat} {x : List Int} (hno : ∀ m', m' < m → wiF bs st m' [] = none) (hx : wiF bs st m [] = some x) : x = leftOf bs st := by
  have hnil : isList ([] : List Int) (bs.length : Int) = true := rfl
  obtain ⟨s1, ⟨r, hr, hrl⟩, s3⟩ := (wiF_spec bs st m [] hnil).2 x hx
  rw [List.nil_append] at hr
  subst hr
  refine leftOf_unique h0 s1 (fun l' hl' => ?_)
  rw [← Bool.not_eq_true]
  intro hb
  simp only [betL, Bool.or_eq_true, Bool.and_eq_true, decide_eq_true_eq] at hb
  rcases hb with hb | ⟨hb1, hb2⟩
  · exact (wiF_spec bs st l'.length [] hnil).1 (hno _ (by omega)) l' rfl (by simpa using hl')
  · have := s3 l' (by omega) (by simpa using hl')
    rw [List.nil_append, hb2] at this; cases this

theorem k36 (hG : Good Try.prog (envOf [(61, mkC [v61]), (63, mkC [v63i]), (71, mkC [v71])])) : v36.Kept Try.prog 36 := by
  rintro ⟨bs, st, fl, ⟨⟩⟩ hpre k hk
  change List (Int × Int) at bs
  change Int at st fl
  refine aspec hmix hG Try.func36 tx36 (Eq.mpr (eq36 bs st fl k) ?_)
  replace hk : k (.tup [.imm (.int .i64) (leftL bs st fl) false, rI (checkLoad bs st fl)]) [] := hk
  unfold vc36
  have hb : bs.length ≤ 16 := hpre
  refine ⟨hb, ?_⟩
  refine br_errs (p := fun e => k (.tup [.imm (.int .i64) [] false, rI e]) []) (fun h => ?_) (fun h => ⟨by show bs.length ≤ 1000; omega, ?_⟩)
  · have e : leftL bs st fl = [] := by unfold leftL; rw [if_pos h]
    rwa [e] at hk
  obtain ⟨f1, f2, f3, f4, f5, f6⟩ := fine_spec h
  have e : leftL bs st fl = leftOf bs st := by unfold leftL; rw [if_neg (by simp [h])]
  rw [e, h] at hk
  have hall : (allOf bs).length = bs.length := by simp [allOf]
  refine ⟨fits64 (by omega) (by omega), ?_⟩
  refine Loop.upto (fun m => (bs, st, fl, allOf bs, (((allOf bs).length : Nat) : Int) + 1, (m : Int), ())) (fun m => ∀ m', m' < m → wiF bs st m' [] = none) (bs.length + 1) rfl (fun m' h => absurd h (Nat.not_lt_zero _)) ?_ ?_
  · intro m K hm hp hK
    dsimp only
    rw [br_decide]
    refine ⟨fun _ => ⟨⟨h, rfl, rfl, by show (0 : Int) ≤ (m : Int); omega, by show (m : Int) ≤ 100; omega⟩, ?_⟩, fun h => absurd hm (by omega)⟩
    have eB : wiB bs st (m : Int) [] = (wiF bs st m []).isSome := by unfold wiB; rw [Int.toNat_natCast]
    refine br_intro (fun h1 => ?_) (fun h1 => ⟨fits64 (by omega) (by omega), hK (fun m' hm' => ?_)⟩)
    · rw [eB] at h1
      obtain ⟨x, hx⟩ := Option.isSome_iff_exists.1 h1
      have ex : wiL0 bs st (m : Int) [] = x := by
        unfold wiL0 wiL
        rw [Int.toNat_natCast]
        split
        · rename_i h0
          have : m = 0 := by omega
          subst this
          have hx' : (if fewN bs ((allOf bs).filter (fun j => !hasI [] j)) ≤ st then some ([] : List Int) else none) = some x := hx
          split at hx'
          · cases hx'; rfl
          · cases hx'
        · rw [hx]; rfl
      rw [ex, left_first (by omega) hp hx]
      exact hk
    · rcases Nat.lt_or_ge m' m with h5 | h5
      · exact hp m' h5
      · obtain rfl : m' = m := by omega
        rw [eB] at h1
        simpa using h1
  · intro K hp
    exfalso
    have := (wiF_spec bs st bs.length [] rfl).1 (hp bs.length (by omega)) (allOf bs) hall
    rw [List.nil_append] at this
    exact this (lft_all bs (by omega))

theorem listed_all (bs : List (Int × Int)) : listed (2 ^ bs.length - 1) bs.length = allOf bs := by
  unfold listed allOf
  congr 1
  rw [List.filter_eq_self]
  intro i hi
  rw [Nat.testBit_two_pow_sub_one]
  simpa using hi
theorem leftTo_succ (bs : List (Int × Int)) (st : Int) (b : Nat) : (List.range (b + 1)).foldl (leftStep bs st) (allOf bs) = leftStep bs st ((List.range b).foldl (leftStep bs st) (allOf bs)) b := by
  rw [List.range_succ, List.foldl_append]; rfl
theorem leftTo_len (bs : List (Int × Int)) (st : Int) : ∀ n, ((List.range n).foldl (leftStep bs st) (allOf bs)).length ≤ bs.length
  | 0 => by simp [allOf]
  | n + 1 => by
    rw [leftTo_succ]
    unfold leftStep
    split
    · exact listed_len _ _
    · exact leftTo_len bs st n

theorem k37 (hG : Good Try.prog (envOf [(22, mkC [v22]), (44, mkC [v44]), (48, mkC [v48]), (64, mkC [v64]), (72, mkC [v72])])) : v37.Kept Try.prog 37 := by
  rintro ⟨bs, st, fl, ⟨⟩⟩ hpre k hk
  change List (Int × Int) at bs
  change Int at st fl
  refine aspec hmix hG Try.func37 tx37 (Eq.mpr (eq37 bs st fl k) ?_)
  replace hk : k (.tup [.reg 0 false, rI (checkLoad bs st fl)]) [.sl (.int .i64) (leftL bs st fl)] := hk
  unfold vc37
  have hb : bs.length ≤ 16 := hpre
  have hp := pow_small hb
  have hp1 : 1 ≤ 2 ^ bs.length := Nat.one_le_two_pow
  have e : shlA .i64 1 ((bs.length : Nat) : Int) = ((2 ^ bs.length : Nat) : Int) := one_shl bs.length (by omega)
  refine ⟨hb, ?_⟩
  rw [br_bne]
  refine ⟨fun h => ⟨hb, ?_⟩, fun h => ?_⟩
  · have e : leftL bs st fl = [] := by unfold leftL; rw [if_pos h]
    rwa [e] at hk
  have el : leftL bs st fl = leftOf bs st := by unfold leftL; rw [if_neg (by simp [h])]
  rw [el, h] at hk
  have e2 : ((2 ^ bs.length : Nat) : Int) - 1 = ((2 ^ bs.length - 1 : Nat) : Int) := by omega
  rw [e, e2]
  refine ⟨by omega, fits64 (by omega) (by omega), ⟨⟨by show (0 : Int) ≤ ((2 ^ bs.length - 1 : Nat) : Int); omega, by show ((2 ^ bs.length - 1 : Nat) : Int) < 4611686018427387904; omega⟩, by show (0 : Int) ≤ ((bs.length : Nat) : Int); omega, by show ((bs.length : Nat) : Int) ≤ 40; omega⟩, ?_⟩
  simp only [Int.toNat_natCast]
  rw [listed_all]
  refine Loop.upto (fun b => (((bs.length : Nat) : Int), (b : Int), bs, st, fl, (List.range b).foldl (leftStep bs st) (allOf bs), ())) (fun b => True) (2 ^ bs.length) rfl trivial ?_ ?_
  · intro b K hlt _ hK
    dsimp only
    rw [e]
    refine ⟨by omega, ?_⟩
    rw [br_decide]
    have hK := hK trivial
    rw [leftTo_succ] at hK
    have hl := leftTo_len bs st b
    have hl2 := listed_len b bs.length
    have ho := othersTo_len bs (listed b bs.length) bs.length
    simp only [Int.toNat_natCast]
    refine ⟨fun _ => ⟨⟨⟨by show (0 : Int) ≤ (b : Int); omega, by show (b : Int) < 4611686018427387904; omega⟩, by show (0 : Int) ≤ ((bs.length : Nat) : Int); omega, by show ((bs.length : Nat) : Int) ≤ 40; omega⟩, ⟨by show bs.length ≤ 1000; omega, by show (listed b bs.length).length ≤ big60; simp only [big60]; omega⟩, by show (othersTo bs (listed b bs.length) bs.length).length ≤ 1000; omega, ?_⟩, fun h => absurd hlt (by omega)⟩
    generalize (List.range b).foldl (leftStep bs st) (allOf bs) = best at hK hl ⊢
    unfold leftStep at hK
    have eg : leftGood bs st (listed b bs.length) = decide (fewestOf (others bs (listed b bs.length)) ≤ st) := rfl
    rw [← eg, br_bt]
    refine ⟨fun h1 => ?_, fun h1 => ⟨fits64 (by omega) (by omega), ?_⟩⟩
    · rw [br_false]
      refine ⟨fun h2 => ?_, fun h2 => ⟨fits64 (by omega) (by omega), ?_⟩⟩
      · rw [br_bt]
        simp only [beq_iff_eq]
        refine ⟨fun h3 => ⟨⟨by show (listed b bs.length).length ≤ big60; simp only [big60]; omega, by show best.length ≤ big60; simp only [big60]; omega⟩, ?_⟩, fun h3 => ⟨fits64 (by omega) (by omega), ?_⟩⟩
        · refine br_intro (fun h4 => ⟨fits64 (by omega) (by omega), ?_⟩) (fun h4 => ⟨fits64 (by omega) (by omega), ?_⟩)
          · rw [if_pos ⟨h1, .inr ⟨by omega, h4⟩⟩] at hK; exact hK
          · rw [if_neg (by
              rintro ⟨_, h5 | ⟨_, h5⟩⟩
              · omega
              · rw [h4] at h5; cases h5)] at hK
            exact hK
        · have h3 : ¬ ((listed b bs.length).length : Int) = (best.length : Int) := by simpa using h3
          rw [if_neg (by
            rintro ⟨_, h5 | ⟨h5, _⟩⟩
            · omega
            · omega)] at hK
          exact hK
      · rw [if_pos ⟨h1, .inl (by omega)⟩] at hK; exact hK
    · rw [if_neg (by rintro ⟨h5, _⟩; rw [h1] at h5; cases h5)] at hK; exact hK
  · intro K _
    dsimp only
    rw [e]
    refine ⟨by omega, ?_⟩
    rw [br_decide]
    exact ⟨fun h => absurd h (by omega), fun _ => hk⟩

/-! ### in which order boxes go out -/
theorem k74 (hG : Good Try.prog (envOf [])) : v74.Kept Try.prog 74 := by
  rintro ⟨i, j, bs, st, fl, s, ⟨⟩⟩ hpre k hk
  change Int at i j
  change List (Int × Int) at bs
  change Int at st fl
  change List Int at s
  refine aspec hmix hG Try.func74 tx74 (Eq.mpr (eq74 i j bs st fl s k) ?_)
  replace hk : k (rI (cmpOut bs s i j)) [] := hk
  unfold vc74
  obtain ⟨hf, hl, ha, hi, hj⟩ := hpre
  obtain ⟨f1, f2, f3, f4, f5, f6⟩ := fine_spec (h := hf)
  have f1 : bs.length ≤ 9 := f1
  have f6 : anyBad bs = false := f6
  have hl : s.length = bs.length := hl
  have ha : ∀ x ∈ s, (0 : Int) ≤ x ∧ x < 5 := ha
  have hi : 0 ≤ i ∧ i < (bs.length : Int) := hi
  have hj : 0 ≤ j ∧ j < (bs.length : Int) := hj
  have hi1 : i.toNat < bs.length := by omega
  have hj1 : j.toNat < bs.length := by omega
  have hi2 : i.toNat < s.length := by omega
  have hj2 : j.toNat < s.length := by omega
  have b1 := box_spec f6 hi1
  have b2 := box_spec f6 hj1
  have a1 := ha _ (List.getElem_mem hi2)
  have a2 := ha _ (List.getElem_mem hj2)
  have e : cmpOut bs s i j = if bs[i.toNat].1 ≠ bs[j.toNat].1 then bs[i.toNat].1 - bs[j.toNat].1 else if s[i.toNat] ≠ s[j.toNat] then s[i.toNat] - s[j.toNat] else j - i := by
    unfold cmpOut
    rw [← ptI hi.1 hi1, ← ptI hj.1 hj1, getD_at hi2, getD_at hj2]
  rw [e] at hk
  refine ⟨⟨hi.1, hi1⟩, ⟨hj.1, hj1⟩, ?_⟩
  rw [br_bne]
  refine ⟨fun h => ⟨⟨hi.1, hi1⟩, ⟨hj.1, hj1⟩, fits64 (by omega) (by omega), ?_⟩, fun h => ⟨⟨hi.1, hi2⟩, ⟨hj.1, hj2⟩, ?_⟩⟩
  · rwa [if_pos h] at hk
  rw [if_neg (by simp [h])] at hk
  rw [br_bne]
  refine ⟨fun h2 => ⟨⟨hi.1, hi2⟩, ⟨hj.1, hj2⟩, fits64 (by omega) (by omega), ?_⟩, fun h2 => ⟨fits64 (by omega) (by omega), ?_⟩⟩
  · rwa [if_pos h2] at hk
  · rwa [if_neg (by simp [h2])] at hk
end Go.Abs.Ship
end

section
/- The ship's functions keep their contracts: the order of boxes by the definition, given stows, and the fewest stacks of the laws. -/
open Go.Proofs
set_option maxRecDepth 100000
set_option linter.unusedVariables false
namespace Go.Abs.Ship

theorem rev_take {n t : Nat} (h : t < n) : (List.range n).reverse.take (t + 1) = (List.range n).reverse.take t ++ [n - 1 - t] := by
  rw [List.take_succ_eq_append_getElem (by simpa using h)]
  simp

/-! ### the order of boxes -/
def outRow (bs : List (Int × Int)) (s : List Int) (p k t : Nat) : List Int :=
  (((List.range s.length).reverse.take t).filter (fun i : Nat => decide (s.getD i 0 = (k : Int) ∧ pt bs i = (p : Int) + 1))).map Int.ofNat
theorem outRow_succ {bs : List (Int × Int)} {s : List Int} {p k t : Nat} (h : t < s.length) :
    outRow bs s p k (t + 1) = outRow bs s p k t ++ (if s.getD (s.length - 1 - t) 0 = (k : Int) ∧ pt bs ((s.length - 1 - t : Nat) : Int) = (p : Int) + 1 then [((s.length - 1 - t : Nat) : Int)] else []) := by
  unfold outRow
  rw [rev_take h, List.filter_append, List.map_append]
  congr 1
  by_cases hh : s.getD (s.length - 1 - t) 0 = (k : Int) ∧ pt bs ((s.length - 1 - t : Nat) : Int) = (p : Int) + 1
  · rw [if_pos hh, List.filter_cons, if_pos (by simpa using hh)]; rfl
  · rw [if_neg hh, List.filter_cons, if_neg (by simpa using hh)]; rfl
theorem outRow_len (bs : List (Int × Int)) (s : List Int) (p k t : Nat) : (outRow bs s p k t).length ≤ t := by
  unfold outRow
  rw [List.length_map]
  refine Nat.le_trans (List.length_filter_le _ _) ?_
  rw [List.length_take]; omega
def outRows (bs : List (Int × Int)) (s : List Int) (p k : Nat) : List Int := (List.range k).flatMap (fun k : Nat => outRow bs s p k s.length)
theorem outRows_succ (bs : List (Int × Int)) (s : List Int) (p k : Nat) : outRows bs s p (k + 1) = outRows bs s p k ++ outRow bs s p k s.length := by
  unfold outRows
  rw [List.range_succ, List.flatMap_append]; simp
theorem outRows_len (bs : List (Int × Int)) (s : List Int) (p : Nat) : ∀ k, (outRows bs s p k).length ≤ k * s.length
  | 0 => by simp [outRows]
  | k + 1 => by
    have := outRows_len bs s p k
    have h2 := outRow_len bs s p k s.length
    rw [outRows_succ, List.length_append, Nat.add_mul]; omega
def outPorts (bs : List (Int × Int)) (s : List Int) (st : Int) (p : Nat) : List Int := (List.range p).flatMap (fun p : Nat => outOfPort bs s st p)
theorem outPorts_succ (bs : List (Int × Int)) (s : List Int) (st : Int) (p : Nat) : outPorts bs s st (p + 1) = outPorts bs s st p ++ outRows bs s p st.toNat := by
  unfold outPorts
  rw [List.range_succ, List.flatMap_append]
  congr 1
  simp only [List.flatMap_cons, List.flatMap_nil, List.append_nil]
  unfold outOfPort outRows outRow
  congr 1
  funext k
  rw [List.take_of_length_le (by simp)]
theorem outPorts_len (bs : List (Int × Int)) (s : List Int) (st : Int) : ∀ p, (outPorts bs s st p).length ≤ p * (st.toNat * s.length)
  | 0 => by simp [outPorts]
  | p + 1 => by
    have := outPorts_len bs s st p
    have h2 := outRows_len bs s p st.toNat
    rw [outPorts_succ, List.length_append, Nat.add_mul]; omega

theorem k39 (hG : Good Try.prog (envOf [(55, mkC [v55])])) : v39.Kept Try.prog 39 := by
  rintro ⟨bs, st, fl, s, ⟨⟩⟩ hpre k hk
  change List (Int × Int) at bs
  change Int at st fl
  change List Int at s
  refine aspec hmix hG Try.func39 tx39 (Eq.mpr (eq39 bs st fl s k) ?_)
  replace hk : k (.tup [.reg 0 false, rI (stowErr bs st fl s)]) [.sl (.int .i64) (outL bs st fl s)] := hk
  unfold vc39
  obtain ⟨hb, hl⟩ := hpre
  have hb : bs.length ≤ 16 := hb
  have hl : s.length ≤ 1152921504606846976 := hl
  refine ⟨⟨hb, hl⟩, ?_⟩
  rw [br_bne]
  refine ⟨fun h => ⟨⟨hb, hl⟩, ?_⟩, fun h => ?_⟩
  · have e : outL bs st fl s = [] := by unfold outL; rw [if_neg h]
    rwa [e] at hk
  have e : outL bs st fl s = outOrder bs s st := by unfold outL; rw [if_pos h]
  rw [e, h] at hk
  obtain ⟨g1, g2, g3, g4⟩ := stow_spec h
  obtain ⟨f1, f2, f3, f4, f5, f6⟩ := fine_spec g1
  have hm : st.toNat * s.length ≤ 5 * 9 := Nat.mul_le_mul (by omega) (by omega)
  have e0 : outOrder bs s st = outPorts bs s st 20 := rfl
  rw [e0] at hk
  refine Loop.upto (fun p => (s, (p : Int) + 1, bs, st, fl, outPorts bs s st p, ())) (fun p => True) 20 rfl trivial ?_ ?_
  · intro p K hp _ hK
    dsimp only
    rw [br_decide]
    refine ⟨fun _ => ?_, fun h => absurd hp (by omega)⟩
    have hlp := outPorts_len bs s st p
    have hlp2 : p * (st.toNat * s.length) ≤ 20 * 45 := Nat.mul_le_mul (by omega) (by omega)
    refine Loop.upto (fun k => (s, (p : Int) + 1, (k : Int), bs, st, fl, outPorts bs s st p ++ outRows bs s p k, ())) (fun k => True) st.toNat ?_ trivial ?_ ?_
    · show (s, (p : Int) + 1, ((0 : Nat) : Int), bs, st, fl, outPorts bs s st p ++ outRows bs s p 0, ()) = _
      have : outRows bs s p 0 = [] := rfl
      rw [this, List.append_nil]; rfl
    · intro k K2 hk2 _ hK2
      dsimp only
      rw [br_decide]
      refine ⟨fun _ => ⟨fits64 (by omega) (by omega), ?_⟩, fun h => absurd hk2 (by omega)⟩
      have hlr := outRows_len bs s p k
      have hlr2 : k * s.length ≤ 5 * 9 := Nat.mul_le_mul (by omega) (by omega)
      refine Loop.upto (fun t => (s, (p : Int) + 1, (k : Int), ((s.length : Nat) : Int) - 1 - (t : Int), bs, st, fl, outPorts bs s st p ++ outRows bs s p k ++ outRow bs s p k t, ())) (fun t => True) s.length ?_ trivial ?_ ?_
      · show (s, (p : Int) + 1, (k : Int), ((s.length : Nat) : Int) - 1 - ((0 : Nat) : Int), bs, st, fl, outPorts bs s st p ++ outRows bs s p k ++ outRow bs s p k 0, ()) = _
        have : outRow bs s p k 0 = [] := rfl
        rw [this, List.append_nil]
        simp
      · intro t K3 ht _ hK3
        dsimp only
        rw [br_decide]
        refine ⟨fun _ => ?_, fun h => absurd ht (by omega)⟩
        have hK3 := hK3 trivial
        have hlt := outRow_len bs s p k t
        have ei : ((s.length : Nat) : Int) - 1 - (t : Int) = ((s.length - 1 - t : Nat) : Int) := by omega
        have ei2 : ((s.length : Nat) : Int) - 1 - ((t + 1 : Nat) : Int) = ((s.length - 1 - t : Nat) : Int) - 1 := by omega
        rw [ei2, outRow_succ ht] at hK3
        rw [ei]
        generalize hii : s.length - 1 - t = i at hK3 ⊢
        have his : i < s.length := by omega
        simp only [Int.toNat_natCast]
        refine ⟨⟨by omega, by omega⟩, ?_⟩
        rw [getD_at his] at hK3
        rw [br_bt]
        simp only [beq_iff_eq, beq_eq_false_iff_ne, ne_eq]
        refine ⟨fun h1 => ⟨⟨by omega, by omega⟩, ?_⟩, fun h1 => ⟨fits64 (by omega) (by omega), ?_⟩⟩
        · rw [br_beq, ← pt_eq (by omega)]
          refine ⟨fun h2 => ⟨?_, fits64 (by omega) (by omega), ?_⟩, fun h2 => ⟨fits64 (by omega) (by omega), ?_⟩⟩
          · simp only [List.length_append, List.length_singleton, big]; omega
          · rw [if_pos ⟨h1, h2⟩, ← List.append_assoc] at hK3; exact hK3
          · rw [if_neg (fun h3 => h2 h3.2), List.append_nil] at hK3; exact hK3
        · rw [if_neg (fun h3 => h1 h3.1), List.append_nil] at hK3; exact hK3
      · intro K3 _
        dsimp only
        rw [br_decide]
        refine ⟨fun h => absurd h (by omega), fun _ => ⟨fits64 (by omega) (by omega), ?_⟩⟩
        have hK2 := hK2 trivial
        rw [outRows_succ, ← List.append_assoc] at hK2
        exact hK2
    · intro K2 _
      dsimp only
      rw [br_decide]
      refine ⟨fun h => absurd h (by omega), fun _ => ⟨fits64 (by omega) (by omega), ?_⟩⟩
      have hK := hK trivial
      rw [outPorts_succ] at hK
      exact hK
  · intro K _
    dsimp only
    rw [br_decide]
    exact ⟨fun h => absurd h (by omega), fun _ => hk⟩

/-! ### given stows -/
def givenTo (bs : List (Int × Int)) (st : Int) (out : List Int) (f : Int) (t : Nat) : Int := ((List.range st.toNat).reverse.take t).foldl (givenPick bs st out f) f
theorem givenTo_succ {bs : List (Int × Int)} {st : Int} {out : List Int} {f : Int} {t : Nat} (h : t < st.toNat) : givenTo bs st out f (t + 1) = givenPick bs st out f (givenTo bs st out f t) (st.toNat - 1 - t) := by
  unfold givenTo
  rw [rev_take h, List.foldl_append]; rfl
theorem givenTo_all (bs : List (Int × Int)) (st : Int) (out : List Int) (f : Int) : givenTo bs st out f st.toNat = givenAt bs st out f := by
  unfold givenTo givenAt
  rw [List.take_of_length_le (by simp)]
theorem givenUp_len (bs : List (Int × Int)) (st : Int) (bys : List Int) : ∀ i, (givenUp bs st bys i).length = i
  | 0 => rfl
  | i + 1 => by simp [givenUp, givenUp_len bs st bys i]

theorem k43 (hG : Good Try.prog (envOf [(45, mkC [v45])])) : v43.Kept Try.prog 43 := by
  rintro ⟨bs, st, fl, bys, ⟨⟩⟩ hpre k hk
  change List (Int × Int) at bs
  change Int at st fl
  change List Int at bys
  refine aspec hmix hG Try.func43 tx43 (Eq.mpr (eq43 bs st fl bys k) ?_)
  replace hk : k (.reg 0 false) [.sl (.int .i64) (givenL bs st bys)] := hk
  unfold vc43
  obtain ⟨hf, hl, hby⟩ := hpre
  have hf : Fine bs st fl := hf
  have hl : bys.length ≤ 20 := hl
  have hby : ∀ b ∈ bys, (0 : Int) ≤ b ∧ b ≤ 255 := hby
  obtain ⟨f1, f2, f3, f4, f5, f6⟩ := fine_spec hf
  refine Loop.upto (fun i => (bys, (i : Int), bs, st, fl, givenUp bs st bys i, ())) (fun i => True) bs.length rfl trivial ?_ ?_
  · intro i K hi hp hK
    dsimp only
    rw [br_decide]
    refine ⟨fun _ => ?_, fun h => absurd hi (by omega)⟩
    try simp only [Int.toNat_natCast]
    have hlen := givenUp_len bs st bys i
    have e1 : givenUp bs st bys (i + 1) = givenUp bs st bys i ++ [givenAt bs st (givenUp bs st bys i) (givenFrom st bys i)] := rfl
    rw [e1] at hK
    have hK := hK trivial
    generalize givenUp bs st bys i = out at hlen hK ⊢
    have main : ∀ f : Int, 0 ≤ f → f < st → f = givenFrom st bys i →
        Loop (σ := (List Int) × (Int × (Int × (Int × (Int × ((List (Int × Int)) × (Int × (Int × ((List Int) × Unit))))))))) (fun K8 x8 =>
          br (decide (x8.2.2.2.2.1 ≥ 0))
           (fitsK .i64 (x8.2.2.1 + x8.2.2.2.2.1) ∧
           ((0 ≤ (x8.2.2.1 + x8.2.2.2.2.1)) ∧ (0 < x8.2.2.2.2.2.2.1)) ∧
           ((([] : List Int).length + x8.2.2.2.2.2.2.2.2.1.length) ≤ big) ∧
           (((([] : List Int) ++ x8.2.2.2.2.2.2.2.2.1).length + ((HMod.hMod (x8.2.2.1 + x8.2.2.2.2.1) x8.2.2.2.2.2.2.1) :: ([] : List Int)).length) ≤ big) ∧
           (v45.p (x8.2.2.2.2.2.1, (((([] : List Int) ++ x8.2.2.2.2.2.2.2.2.1) ++ ((HMod.hMod (x8.2.2.1 + x8.2.2.2.2.1) x8.2.2.2.2.2.2.1) :: ([] : List Int))), ()))) ∧
           br (smoothB x8.2.2.2.2.2.1 ((([] : List Int) ++ x8.2.2.2.2.2.2.2.2.1) ++ ((HMod.hMod (x8.2.2.1 + x8.2.2.2.2.1) x8.2.2.2.2.2.2.1) :: ([] : List Int))))
            (fitsK .i64 (x8.2.2.2.2.1 - 1) ∧
            (K8 (x8.1, (x8.2.1, (x8.2.2.1, ((HMod.hMod (x8.2.2.1 + x8.2.2.2.2.1) x8.2.2.2.2.2.2.1), ((x8.2.2.2.2.1 - 1), (x8.2.2.2.2.2.1, (x8.2.2.2.2.2.2.1, (x8.2.2.2.2.2.2.2.1, (x8.2.2.2.2.2.2.2.2.1, ())))))))))))
            (fitsK .i64 (x8.2.2.2.2.1 - 1) ∧
            (K8 (x8.1, (x8.2.1, (x8.2.2.1, (x8.2.2.2.1, ((x8.2.2.2.2.1 - 1), (x8.2.2.2.2.2.1, (x8.2.2.2.2.2.2.1, (x8.2.2.2.2.2.2.2.1, (x8.2.2.2.2.2.2.2.2.1, ()))))))))))))
           ((x8.2.2.2.2.2.2.2.2.1.length + (x8.2.2.2.1 :: ([] : List Int)).length ≤ big) ∧
           fitsK .i64 (x8.2.1 + 1) ∧
           (K (x8.1, ((x8.2.1 + 1), (x8.2.2.2.2.2.1, (x8.2.2.2.2.2.2.1, (x8.2.2.2.2.2.2.2.1, ((x8.2.2.2.2.2.2.2.2.1 ++ (x8.2.2.2.1 :: ([] : List Int))), ())))))))))
          (bys, ((i : Int), (f, (f, ((st - 1), (bs, (st, (fl, (out, ()))))))))) := by
      intro f hf0 hf1 hff
      rw [← hff] at hK
      refine Loop.upto (fun t => (bys, (i : Int), f, givenTo bs st out f t, st - 1 - (t : Int), bs, st, fl, out, ())) (fun t => True) st.toNat ?_ trivial ?_ ?_
      · show (bys, (i : Int), f, f, st - 1 - ((0 : Nat) : Int), bs, st, fl, out, ()) = _
        simp
      · intro t K2 ht _ hK2
        dsimp only
        rw [br_decide]
        refine ⟨fun _ => ?_, fun h => absurd ht (by omega)⟩
        have hK2 := hK2 trivial
        have et : st - 1 - (t : Int) = ((st.toNat - 1 - t : Nat) : Int) := by omega
        have et2 : st - 1 - ((t + 1 : Nat) : Int) = ((st.toNat - 1 - t : Nat) : Int) - 1 := by omega
        rw [et2, givenTo_succ ht] at hK2
        rw [et]
        generalize st.toNat - 1 - t = q at hK2 et ⊢
        rw [List.nil_append]
        unfold givenPick at hK2
        refine ⟨fits64 (by omega) (by omega), ⟨by omega, by omega⟩, by simp [big]; omega, by simp [big]; omega, ⟨by show (out ++ [(f + (q : Int)) % st]).length ≤ bs.length; simp; omega, by show bs.length ≤ big60; simp only [big60]; omega⟩, ?_⟩
        refine br_intro (fun h1 => ⟨fits64 (by omega) (by omega), ?_⟩) (fun h1 => ⟨fits64 (by omega) (by omega), ?_⟩)
        · rw [if_pos h1] at hK2; exact hK2
        · rw [if_neg (by simp [h1])] at hK2; exact hK2
      · intro K2 _
        dsimp only
        rw [br_decide]
        refine ⟨fun h => absurd h (by omega), fun _ => ⟨by simp [big]; omega, fits64 (by omega) (by omega), ?_⟩⟩
        rw [givenTo_all]
        exact hK
    rw [br_decide]
    refine ⟨fun h1 => ?_, fun h1 => ⟨fits64 (by omega) (by omega), ?_⟩⟩
    · have hpos : 0 < bys.length := by omega
      have em : (i : Int) % ((bys.length : Nat) : Int) = ((i % bys.length : Nat) : Int) := rfl
      have hlt : i % bys.length < bys.length := Nat.mod_lt _ hpos
      have hbb := hby _ (List.getElem_mem hlt)
      have ef : givenFrom st bys i = bys[i % bys.length] % st := by unfold givenFrom; rw [if_neg (by omega), getD_at hlt]
      have eg : bys[((i : Int) % ((bys.length : Nat) : Int)).toNat]'(by rw [em]; exact hlt) = bys[i % bys.length] := by simp only [em, Int.toNat_natCast]
      have h0 := Int.emod_nonneg bys[i % bys.length] (show st ≠ 0 by omega)
      have h2 := Int.emod_lt_of_pos bys[i % bys.length] (show 0 < st by omega)
      refine ⟨⟨by omega, by omega⟩, ⟨by rw [em]; omega, by rw [em]; exact hlt⟩, ?_⟩
      rw [eg]
      exact ⟨fits64 (by omega) (by omega), ⟨hbb.1, by omega⟩, fits64 (by omega) (by omega), main _ h0 h2 ef.symm⟩
    · exact main 0 (by omega) (by omega) (by unfold givenFrom; rw [if_pos (by omega)])
  · intro K hp
    dsimp only
    rw [br_decide]
    refine ⟨fun h => absurd h (by omega), fun _ => ?_⟩
    exact hk

/-! ### few stacks, each of them taken -/
structure Packed (bs : List (Int × Int)) (j : Nat) (T s : List Int) : Prop where
  len : s.length = j
  inT : ∀ i (h : i < s.length), ∃ u : Nat, s[i] = (u : Int) ∧ u < T.length
  top : ∀ u (h : u < T.length), ∃ a : Nat, T[u] = (a : Int) ∧ a < j ∧ s.getD a 0 = (u : Int) ∧ ∀ i, i < j → s.getD i 0 = (u : Int) → i ≤ a
  smooth : ∀ i, i < j → ∀ k, k < i → s.getD k 0 = s.getD i 0 → pt bs i ≤ pt bs k

theorem packed (bs : List (Int × Int)) : ∀ j, j ≤ bs.length → Packed bs j (fewSt bs ((allOf bs).take j)).1 (fewSt bs ((allOf bs).take j)).2
  | 0, _ => ⟨rfl, fun i h => by simp [fewSt] at h, fun u h => by simp [fewSt] at h, fun i h => absurd h (Nat.not_lt_zero _)⟩
  | j + 1, hj => by
    have ih := packed bs j (by omega)
    have hall : (allOf bs).length = bs.length := by simp [allOf]
    have ej : (allOf bs)[j]'(by omega) = (j : Int) := by simp [allOf]
    rw [fewSt_succ bs (allOf bs) (by omega), ej]
    generalize hX : fewSt bs ((allOf bs).take j) = X at ih ⊢
    obtain ⟨T, s⟩ := X
    obtain ⟨i1, i2, i3, i4⟩ := ih
    simp only at i1 i2 i3 i4
    have old : ∀ i x, i < j → (s ++ [x]).getD i 0 = s.getD i 0 := fun i x hi => getD_append_left (by omega)
    have new : ∀ x, (s ++ [x]).getD j 0 = x := fun x => by
      have := getD_append_last (T := s) (p := x)
      rwa [i1] at this
    unfold fewStep
    simp only
    rcases pick_spec bs T (j : Int) with ⟨h1, h2⟩ | ⟨r, hr, h1, h2, h3⟩
    · rw [if_pos h1]
      refine ⟨by simp [i1], fun i hi => ?_, fun u hu => ?_, fun i hi k hk he => ?_⟩
      · simp only [List.length_append, List.length_singleton] at hi
        rcases Nat.lt_or_ge i j with h4 | h4
        · obtain ⟨u, hu, hu2⟩ := i2 i (by omega)
          exact ⟨u, by rw [List.getElem_append_left (by omega)]; exact hu, by simp; omega⟩
        · have : i = s.length := by omega
          subst this
          exact ⟨T.length, by simp, by simp⟩
      · simp only [List.length_append, List.length_singleton] at hu
        rcases Nat.lt_or_ge u T.length with h4 | h4
        · obtain ⟨a, a1, a2, a3, a4⟩ := i3 u h4
          refine ⟨a, by rw [List.getElem_append_left h4]; exact a1, by omega, by rw [old a _ a2]; exact a3, fun i hi he => ?_⟩
          rcases Nat.lt_or_ge i j with h5 | h5
          · rw [old i _ h5] at he; exact a4 i h5 he
          · obtain rfl : i = j := by omega
            rw [new] at he; omega
        · have : u = T.length := by omega
          subst this
          refine ⟨j, by simp, by omega, new _, fun i hi he => by omega⟩
      · rcases Nat.lt_or_ge i j with h5 | h5
        · rw [old i _ h5, old k _ (by omega)] at he
          exact i4 i h5 k hk he
        · obtain rfl : i = j := by omega
          rw [new, old k _ hk] at he
          obtain ⟨u, hu, hu2⟩ := i2 k (by omega)
          rw [getD_at (by omega), hu] at he
          omega
    · rw [if_neg (by omega), h1, Int.toNat_natCast]
      obtain ⟨a, a1, a2, a3, a4⟩ := i3 r hr
      refine ⟨by simp [i1], fun i hi => ?_, fun u hu => ?_, fun i hi k hk he => ?_⟩
      · simp only [List.length_append, List.length_singleton] at hi
        rcases Nat.lt_or_ge i j with h4 | h4
        · obtain ⟨u, hu, hu2⟩ := i2 i (by omega)
          exact ⟨u, by rw [List.getElem_append_left (by omega)]; exact hu, by simpa using hu2⟩
        · have : i = s.length := by omega
          subst this
          exact ⟨r, by simp, by simpa using hr⟩
      · simp only [List.length_set] at hu
        by_cases e : r = u
        · subst e
          refine ⟨j, by simp, by omega, new _, fun i hi he => by omega⟩
        · obtain ⟨b, b1, b2, b3, b4⟩ := i3 u hu
          refine ⟨b, by rw [List.getElem_set_ne e]; exact b1, by omega, by rw [old b _ b2]; exact b3, fun i hi he => ?_⟩
          rcases Nat.lt_or_ge i j with h5 | h5
          · rw [old i _ h5] at he; exact b4 i h5 he
          · obtain rfl : i = j := by omega
            rw [new] at he; omega
      · rcases Nat.lt_or_ge i j with h5 | h5
        · rw [old i _ h5, old k _ (by omega)] at he
          exact i4 i h5 k hk he
        · obtain rfl : i = j := by omega
          rw [new, old k _ hk] at he
          have hka := a4 k hk he
          rw [a1] at h2
          rcases Nat.lt_or_ge k a with h6 | h6
          · have := i4 a a2 k h6 (by rw [he, a3])
            omega
          · obtain rfl : k = a := by omega
            exact h2

theorem few_smoothest (bs : List (Int × Int)) : smoothest bs (fewS bs (allOf bs)) = true := by
  have hp := packed bs bs.length (Nat.le_refl _)
  have hall : (allOf bs).length = bs.length := by simp [allOf]
  have ht : (allOf bs).take bs.length = allOf bs := List.take_of_length_le (by omega)
  rw [ht] at hp
  have hN : fewestOf bs = ((fewSt bs (allOf bs)).1.length : Int) := by rw [← fewN_all]; rfl
  have hS : fewS bs (allOf bs) = (fewSt bs (allOf bs)).2 := rfl
  rw [hS]
  generalize fewSt bs (allOf bs) = X at hp hN ⊢
  obtain ⟨T, s⟩ := X
  obtain ⟨i1, i2, i3, i4⟩ := hp
  simp only at i1 i2 i3 i4 hN ⊢
  unfold smoothest
  rw [hN]
  have h1 : decide (s.length = bs.length) = true := by simp [i1]
  have h2 : anyOut 0 ((T.length : Int) - 1) s = false := by
    rw [← Bool.not_eq_true]
    intro hh
    obtain ⟨y, hy, ho⟩ := List.any_eq_true.1 hh
    obtain ⟨i, hi, rfl⟩ := List.getElem_of_mem hy
    obtain ⟨u, hu, hu2⟩ := i2 i hi
    rw [hu] at ho
    simp only [outOf, decide_eq_true_eq] at ho
    omega
  have h3 : (counts s (T.length : Int)).all (fun c => decide (c ≠ 0)) = true := by
    rw [List.all_eq_true]
    intro c hc
    obtain ⟨u, hu, rfl⟩ := List.getElem_of_mem hc
    rw [counts_at]
    rw [counts_len] at hu
    obtain ⟨a, a1, a2, a3, a4⟩ := i3 u hu
    have hm : s[a]'(by omega) ∈ s.filter (isI (u : Int)) := by
      rw [List.mem_filter]
      refine ⟨List.getElem_mem _, ?_⟩
      rw [getD_at (by omega)] at a3
      simp [isI, a3]
    have := List.length_pos_of_mem hm
    simp only [decide_eq_true_eq]; omega
  have h4 : smoothB bs s = true := smoothB_iff.2 (fun i hi => i4 i (by omega))
  rw [h1, h2, h3, h4]; rfl

theorem k41 (hG : Good Try.prog (envOf [(23, mkC [v23]), (29, mkC [v29]), (27, mkC [v27]), (25, mkC [v25]), (26, mkC [v26]), (31, mkC [v31]), (17, mkC [v17])])) : v41.Kept Try.prog 41 := by
  rintro ⟨bs, st, fl, ⟨⟩⟩ hpre k hk
  change List (Int × Int) at bs
  change Int at st fl
  refine aspec hmix hG Try.func41 tx41 (Eq.mpr (eq41 bs st fl k) ?_)
  replace hk : k (.tup [rI (fewestOf bs), .bool true]) [] := hk
  unfold vc41
  have hf : Fine bs st fl := hpre
  obtain ⟨f1, f2, f3, f4, f5, f6⟩ := fine_spec hf
  have hb : bs.length ≤ 16 := by omega
  have e0 : checkLoad bs st fl = 0 := hf
  have e1 : fewestN bs st fl = fewestOf bs := by unfold fewestN; rw [if_neg (by simp [e0])]
  have e2 : smoothN bs st fl = fewS bs (allOf bs) := by unfold smoothN; rw [if_neg (by simp [e0])]
  have e3 : risingN bs st fl = risingOf bs := by unfold risingN; rw [if_neg (by simp [e0])]
  obtain ⟨r1, _⟩ := risingOf_spec bs
  have hr := fewest_rising f6
  have hpl := ports_le bs
  have hrl : (risingOf bs).length ≤ 9 := by unfold fewestOf at hr; omega
  have hsl : (fewS bs (allOf bs)).length = bs.length := by rw [fewS_len]; simp [allOf]
  have e4 : riseErr bs st fl (risingOf bs) = 0 := by
    rw [rise_cases _ _ _ _ e0, r1.list, r1.up]; rfl
  have e5 : riseN bs st fl (risingOf bs) = fewestOf bs := by unfold riseN; rw [if_pos e4, hr]
  have l1 : longL (fewS bs (allOf bs)) = false := by simp [longL]; omega
  have l2 : longL (risingOf bs) = false := by simp [longL]; omega
  have bg : (risingOf bs).length ≤ big60 := by simp only [big60]; omega
  have bg2 : (fewS bs (allOf bs)).length ≤ big60 := by simp only [big60]; omega
  rw [e1, e2, e3, e4, e5, e0, l1, l2, few_smoothest]
  refine ⟨hb, hb, hb, ?_⟩
  refine br_intro (fun _ => ?_) (fun h => by cases h)
  refine br_intro (fun _ => ?_) (fun h => by cases h)
  refine br_intro (fun _ => ⟨trivial, ?_⟩) (fun h => by cases h)
  refine br_intro (fun _ => ⟨trivial, ?_⟩) (fun h => by cases h)
  refine br_intro (fun h => by cases h) (fun _ => ⟨⟨hb, bg⟩, ⟨hb, bg⟩, ?_⟩)
  refine br_intro (fun _ => ?_) (fun h => by cases h)
  refine br_intro (fun _ => ?_) (fun h => by cases h)
  have eb : (fewestOf bs == fewestOf bs) = true := by simp
  rw [eb]
  refine br_intro (fun _ => ?_) (fun h => by cases h)
  refine br_intro (fun _ => ⟨⟨hb, bg2⟩, hk⟩) (fun h => by cases h)
end Go.Abs.Ship
end

section
/- The library's SortFunc and Grow at this program: the numbers of their parts (printed by the kit's tool). -/
namespace Go.Proofs
open Go.Shelf
def Try.laySort_ren : Go.Shelf.Ren := ⟨fun | 6 => 73 | 15 => 92 | 14 => 91 | 28 => 104 | 29 => 105 | 20 => 96 | 21 => 97 | 22 => 98 | 23 => 99 | 24 => 100 | 25 => 101 | 26 => 102 | 27 => 103 | 46 => 106 | 47 => 107 | 48 => 108 | 49 => 109 | 50 => 110 | 57 => 111 | n => n, fun | 22 => 25 | 24 => 3 | 25 => 88 | 3 => 3 | 39 => 111 | 0 => 0 | 53 => 124 | 55 => 126 | 4 => 4 | 46 => 118 | 45 => 117 | 50 => 43 | 5 => 5 | 9 => 9 | 66 => 127 | 70 => 131 | 76 => 133 | 77 => 134 | n => n, fun | n => n⟩
theorem Try.laySort : Go.Proofs.SlLaysF.n6 Try.prog Try.laySort_ren := {
  mixed := by kernel_rfl
  f6 := ⟨Try.f73.name, by decide, Try.func73.trans (congrArg some (by kernel_rfl))⟩
  f14 := ⟨Try.f91.name, by decide, Try.func91.trans (congrArg some (by kernel_rfl))⟩
  f15 := Try.func92.trans (congrArg some (by kernel_rfl))
  f20 := ⟨Try.f96.name, by decide, Try.func96.trans (congrArg some (by kernel_rfl))⟩
  f21 := ⟨Try.f97.name, by decide, Try.func97.trans (congrArg some (by kernel_rfl))⟩
  f22 := ⟨Try.f98.name, by decide, Try.func98.trans (congrArg some (by kernel_rfl))⟩
  f23 := ⟨Try.f99.name, by decide, Try.func99.trans (congrArg some (by kernel_rfl))⟩
  f24 := ⟨Try.f100.name, by decide, Try.func100.trans (congrArg some (by kernel_rfl))⟩
  f25 := ⟨Try.f101.name, by decide, Try.func101.trans (congrArg some (by kernel_rfl))⟩
  f26 := ⟨Try.f102.name, by decide, Try.func102.trans (congrArg some (by kernel_rfl))⟩
  f27 := ⟨Try.f103.name, by decide, Try.func103.trans (congrArg some (by kernel_rfl))⟩
  f28 := Try.func104.trans (congrArg some (by kernel_rfl))
  f29 := Try.func105.trans (congrArg some (by kernel_rfl))
  f46 := ⟨Try.f106.name, by decide, Try.func106.trans (congrArg some (by kernel_rfl))⟩
  f47 := Try.func107.trans (congrArg some (by kernel_rfl))
  f48 := Try.func108.trans (congrArg some (by kernel_rfl))
  f49 := ⟨Try.f109.name, by decide, Try.func109.trans (congrArg some (by kernel_rfl))⟩
  f50 := ⟨Try.f110.name, by decide, Try.func110.trans (congrArg some (by kernel_rfl))⟩
  f57 := ⟨Try.f111.name, by decide, Try.func111.trans (congrArg some (by kernel_rfl))⟩
  t0 := Try.underlying0
  a0 := Try.isAgg0
  z0 := Try.sizeOf0
  v0 := Try.zeroValue0
  t3 := Try.underlying3
  a3 := Try.isAgg3
  z3 := Try.sizeOf3
  v3 := Try.zeroValue3
  t4 := Try.underlying4
  a4 := Try.isAgg4
  z4 := Try.sizeOf4
  v4 := Try.zeroValue4
  t5 := Try.underlying5
  a5 := Try.isAgg5
  z5 := Try.sizeOf5
  v5 := Try.zeroValue5
  t9 := Try.underlying9
  a9 := Try.isAgg9
  z9 := Try.sizeOf9
  v9 := Try.zeroValue9
  t22 := Try.underlying25
  a22 := Try.isAgg25
  z22 := Try.sizeOf25
  v22 := Try.zeroValue25
  a24 := Try.isAgg3
  z24 := Try.sizeOf3
  t25 := Try.underlying88
  a25 := Try.isAgg88
  z25 := Try.sizeOf88
  v25 := Try.zeroValue88
  t39 := Try.underlying111
  a39 := Try.isAgg111
  z39 := Try.sizeOf111
  v39 := Try.zeroValue111
  t45 := Try.underlying117
  a45 := Try.isAgg117
  z45 := Try.sizeOf117
  v45 := Try.zeroValue117
  t46 := Try.underlying118
  a46 := Try.isAgg118
  z46 := Try.sizeOf118
  v46 := Try.zeroValue118
  t50 := Try.underlying43
  a50 := Try.isAgg43
  z50 := Try.sizeOf43
  v50 := Try.zeroValue43
  t53 := Try.underlying124
  a53 := Try.isAgg124
  z53 := Try.sizeOf124
  v53 := Try.zeroValue124
  t55 := Try.underlying126
  a55 := Try.isAgg126
  z55 := Try.sizeOf126
  v55 := Try.zeroValue126
  t66 := Try.underlying127
  a66 := Try.isAgg127
  z66 := Try.sizeOf127
  v66 := Try.zeroValue127
  t70 := Try.underlying131
  a70 := Try.isAgg131
  z70 := Try.sizeOf131
  v70 := Try.zeroValue131
  t76 := Try.underlying133
  a76 := Try.isAgg133
  z76 := Try.sizeOf133
  v76 := Try.zeroValue133
  t77 := Try.underlying134
  a77 := Try.isAgg134
  z77 := Try.sizeOf134
  v77 := Try.zeroValue134 }
def Try.layGrow_ren : Go.Shelf.Ren := ⟨fun | 4 => 86 | n => n, fun | 22 => 25 | 25 => 3 | 3 => 3 | 4 => 4 | 9 => 9 | 20 => 20 | 0 => 0 | n => n, fun | n => n⟩
theorem Try.layGrow : Go.Proofs.Lays8.n4 Try.prog Try.layGrow_ren := {
  mixed := by kernel_rfl
  f4 := ⟨Try.f86.name, by decide, Try.func86.trans (congrArg some (by kernel_rfl))⟩
  t0 := Try.underlying0
  a0 := Try.isAgg0
  z0 := Try.sizeOf0
  v0 := Try.zeroValue0
  t3 := Try.underlying3
  a3 := Try.isAgg3
  z3 := Try.sizeOf3
  v3 := Try.zeroValue3
  t4 := Try.underlying4
  a4 := Try.isAgg4
  z4 := Try.sizeOf4
  v4 := Try.zeroValue4
  t9 := Try.underlying9
  a9 := Try.isAgg9
  z9 := Try.sizeOf9
  v9 := Try.zeroValue9
  t20 := Try.underlying20
  a20 := Try.isAgg20
  z20 := Try.sizeOf20
  v20 := Try.zeroValue20
  t22 := Try.underlying25
  a22 := Try.isAgg25
  z22 := Try.sizeOf25
  v22 := Try.zeroValue25 }
end Go.Proofs
end

section
/- What comes in: arguments that can be read are plain data, of which all cells are known. -/
namespace Go.Abs
open Go.ChangeShapes Go.WideShapes Go.RowKit

/-- All that lies in a world is known, for good. -/
def knowAll (w : World) : Know where
  cells := fun b => match w.heap[b]? with
    | some (.cells cs _ _) => some cs
    | _ => none
  inv := fun _ => none
  y := none

theorem knowAll_cells {w : World} {b : Nat} {cs : Array Value} (h : (knowAll w).cells b = some cs) : ∃ e fz, w.heap[b]? = some (.cells cs e fz) := by
  simp only [knowAll] at h
  split at h
  · rename_i cs' e fz hb
    cases h
    exact ⟨e, fz, hb⟩
  · cases h

theorem wok_all (w : World) : WOk (fun b => b < w.heap.size) (knowAll w) w where
  knows := ⟨fun b cs h => knowAll_cells h, fun b p h => by cases h⟩
  lt := fun b h => h
  inv := fun b p h => by cases h
  apart := fun b p h => by cases h

theorem below_of_kept {w w' : World} (h : Kept (fun b => b < w.heap.size) w w') : Below w.heap.size w w' := ⟨h.os, h.tape, h.output, h.size, fun k hk => h.block k hk⟩

theorem cells_slab {w : World} {base : Nat} {a : Addr} {n : Nat} {cs : List Value} (h : w.cells? base a n = some cs) (hn : 0 < n) :
    a.spot = none ∧ ∃ arr, (knowAll w).cells a.block = some arr ∧ cs = slab arr a.off n := by
  obtain ⟨_, hl, hc⟩ := World.cells?_some h
  have h0 := hc 0 hn
  have e0 : a.add 0 = a := by simp [Addr.add]
  rw [e0, List.getElem?_eq_getElem (by omega)] at h0
  have hs := World.cell?_spot h0
  refine ⟨hs, ?_⟩
  have hb : ∃ arr e fz, w.heap[a.block]? = some (.cells arr e fz) := by
    unfold World.cell? at h0
    split at h0
    · exact ⟨_, _, _, ‹_›⟩
    · cases h0
  obtain ⟨arr, e, fz, hb⟩ := hb
  refine ⟨arr, by simp only [knowAll, hb], ?_⟩
  have hcell : ∀ i, i < n → arr[a.off + i]? = cs[i]? := by
    intro i hi
    rw [← hc i hi]
    have e1 : (a.add i).block = a.block := by unfold Addr.add; split <;> rfl
    have e2 : (a.add i).off = a.off + i := by unfold Addr.add; split <;> simp_all
    have e3 : (a.add i).spot = none := by unfold Addr.add; split <;> simp_all
    unfold World.cell?
    rw [e1, hb]
    simp only [e3, e2, Option.isSome_none, Bool.false_eq_true, if_false]
  apply List.ext_getElem?
  intro i
  unfold slab
  rw [List.getElem?_take, List.getElem?_drop]
  by_cases hi : i < n
  · rw [if_pos hi, ← hcell i hi, Array.getElem?_toList]
  · rw [if_neg hi, List.getElem?_eq_none (by omega)]

/-- All numbers fit their kinds. -/
def Ty.wf : (t : Ty) → t.den → Prop
  | .int k, n => (Lit.int k n).wf = true
  | .bool, _ => True
  | .slice e, l => ∀ x ∈ (show List e.den from l), e.wf x
  | .pair a b, x => a.wf x.1 ∧ b.wf x.2

variable {H : Type} {enc : TypeId × Value → H} {P : Program} {w : World} {base : Nat} {spare : Nat → Bool} {held : Bool}

theorem trod_bool {t : TypeId} {fuel : Nat} {cs : List Value} {x : DataW H × List MemPlace} (ht : P.underlying t = some .bool) (h : DataW.trod enc P w base spare held fuel t cs = some x) : ∃ b, cs = [.bool b] := by
  cases fuel with
  | zero => simp [DataW.trod] at h
  | succ n =>
    unfold DataW.trod at h
    rw [ht] at h
    split at h <;> simp_all

theorem den_fields {f : TypeId → Option Ty} {K : Know} {n : Nat} {cs : List Value} (hsz : ∀ t ty, f t = some ty → P.cellsOf t = ty.size)
    (hf : ∀ t ty, f t = some ty → ∀ cs x, DataW.trod enc P w base spare held n t cs = some x → ∃ y : ty.den, DenRep K ty y cs ∧ ty.wf y) :
    ∀ (fs : List Field) (o : Nat) (ty : Ty), tyFields f fs o = some ty → cs.length = o + ty.size → (∀ a ∈ fs, ∃ x, DataW.trod enc P w base spare held n a.type ((cs.drop a.offset).take (P.cellsOf a.type)) = some x) → ∃ y : ty.den, DenRep K ty y (cs.drop o) ∧ ty.wf y
  | [], _, _, h, _, _ => by simp [tyFields] at h
  | [a], o, ty, h, hl, hx => by
    replace h : (if a.offset = o then f a.type else none) = some ty := h
    split at h
    · rename_i ho
      obtain ⟨x, hx⟩ := hx a (by simp)
      rw [hsz _ _ h, ho, List.take_of_length_le (by rw [List.length_drop]; omega)] at hx
      exact hf _ _ h _ _ hx
    · cases h
  | a :: b :: r, o, ty, h, hl, hx => by
    replace h : (if a.offset = o then (match f a.type with
      | some x => match tyFields f (b :: r) (o + x.size) with
        | some y => some (.pair x y)
        | none => none
      | none => none) else none) = some ty := h
    split at h
    · rename_i ho
      split at h
      · rename_i x1 h1
        split at h
        · rename_i x2 h2
          cases h
          simp only [Ty.size] at hl
          obtain ⟨z, hz⟩ := hx a (by simp)
          rw [hsz _ _ h1, ho] at hz
          obtain ⟨y1, d1, w1⟩ := hf _ _ h1 _ _ hz
          obtain ⟨y2, d2, w2⟩ := den_fields hsz hf (b :: r) (o + x1.size) x2 h2 (by omega) (fun c hc => hx c (List.mem_cons_of_mem _ hc))
          refine ⟨(y1, y2), ⟨_, _, ?_, d1, d2⟩, ⟨w1, w2⟩⟩
          rw [← List.drop_drop]
          exact (List.take_append_drop _ _).symm
        · cases h
      · cases h
    · cases h

theorem den_of_trod : ∀ (d : Nat) (t : TypeId) (ty : Ty), tyOf P d t = some ty → ∀ (fuel : Nat) (cs : List Value) (x : DataW H × List MemPlace), DataW.trod enc P w base spare held fuel t cs = some x → ∃ y : ty.den, DenRep (knowAll w) ty y cs ∧ ty.wf y := by
  intro d
  induction d with
  | zero => intro t ty h; simp [tyOf] at h
  | succ d ih =>
    intro t ty h fuel cs x hx
    unfold tyOf at h
    split at h
    · rename_i i k hi hu
      split at h
      · cases h
        obtain ⟨n, rfl, _, hw⟩ := DataW.trod_int hu hx
        exact ⟨n, rfl, hw⟩
      · cases h
    · rename_i i hi hu
      split at h
      · cases h
        obtain ⟨b, rfl⟩ := trod_bool hu hx
        exact ⟨b, rfl, trivial⟩
      · cases h
    · rename_i i e hi hu
      split at h
      · split at h
        · rename_i a ha
          cases h
          obtain ⟨_, _, hi2, hi3, _, _⟩ := tyOf_info d e a ha
          have hco : P.cellsOf e = a.size := by simp only [Program.cellsOf, hi2, Option.map_some, Option.getD_some, hi3]
          rcases Deep.open_slice hu hx with ⟨rfl, _⟩ | ⟨ad, len, cap, m, n, D, Pl, rfl, _, hlc, _, hm, _, hel⟩
          · exact ⟨([] : List a.den), ⟨none, 0, rfl, Nat.le_refl _, Or.inl rfl⟩, fun x hx => by cases hx⟩
          · have hlm : len ≤ m := by rw [hm]; split <;> omega
            have hall : ∀ i, i < len → ∃ y : a.den, a.wf y ∧ ad.spot = none ∧ ∃ arr, (knowAll w).cells ad.block = some arr ∧ DenRep (knowAll w) a y (slab arr (ad.off + i * a.size) a.size) := by
              intro i hi
              obtain ⟨cs', hc1, hc2⟩ := hel i (by omega)
              rw [hco] at hc1
              obtain ⟨s1, arr, s2, s3⟩ := cells_slab hc1 a.size_pos
              obtain ⟨y, y1, y2⟩ := ih e a ha n cs' _ hc2
              have e1 : (ad.add (i * a.size)).block = ad.block := by unfold Addr.add; split <;> rfl
              have e2 : (ad.add (i * a.size)).off = ad.off + i * a.size := by unfold Addr.add; split <;> simp_all
              have e3 : ad.spot = none := by
                obtain ⟨cs0, hc0, _⟩ := hel 0 (by omega)
                rw [hco, Nat.zero_mul] at hc0
                have e0 : ad.add 0 = ad := by simp [Addr.add]
                rw [e0] at hc0
                exact (cells_slab hc0 a.size_pos).1
              rw [e1] at s2
              rw [e2] at s3
              rw [s3] at y1
              exact ⟨y, y2, e3, arr, s2, y1⟩
            let g : Nat → a.den := fun i => if h : i < len then Classical.choose (hall i h) else a.zero
            have hg : ∀ i (h : i < len), g i = Classical.choose (hall i h) := fun i h => by simp only [g, dif_pos h]
            refine ⟨((List.range len).map g : List a.den), ⟨some ad, cap, ?_, ?_, ?_⟩, ?_⟩
            · rw [List.length_map, List.length_range]
            · rw [List.length_map, List.length_range]; exact hlc
            · rcases Nat.eq_zero_or_pos len with h0 | h0
              · subst h0; exact Or.inl rfl
              · have h1 := Classical.choose_spec (hall 0 h0)
                obtain ⟨_, s1, arr, s2, _⟩ := h1
                refine Or.inr ⟨ad.block, ad.off, arr, ?_, s2, ?_⟩
                · rw [← s1]
                · intro i hi
                  rw [List.length_map, List.length_range] at hi
                  have h2 := Classical.choose_spec (hall i hi)
                  obtain ⟨_, _, arr', s3, s4⟩ := h2
                  rw [s2] at s3
                  cases s3
                  rw [List.getElem_map, List.getElem_range, hg i hi]
                  exact s4
            · intro x hx
              obtain ⟨i, hi, rfl⟩ := List.mem_map.1 hx
              have hi := List.mem_range.1 hi
              rw [hg i hi]
              exact (Classical.choose_spec (hall i hi)).1
        · cases h
      · cases h
    · rename_i i fs hi hu
      split at h
      · rename_i a ha
        split at h
        · rename_i hs
          cases h
          obtain ⟨xs, n, rfl, _, hl, hxl, hx⟩ := DataW.trod_struct hu hx
          have hco : P.cellsOf t = ty.size := by simp only [Program.cellsOf, hi, Option.map_some, Option.getD_some, hs]
          have := den_fields (K := knowAll w) (cs := cs) (n := n) (enc := enc) (P := P) (w := w) (base := base) (spare := spare) (held := held) (f := tyOf P d) (fun t ty h => by
              obtain ⟨_, _, hi2, hi3, _, _⟩ := tyOf_info d t ty h
              simp only [Program.cellsOf, hi2, Option.map_some, Option.getD_some, hi3]) (fun t ty h cs x hx => ih t ty h n cs x hx) fs.toList 0 ty ha (by omega) (fun f hf => by
              obtain ⟨i, hi, rfl⟩ := List.getElem_of_mem hf
              have hi' : i < fs.size := by simpa using hi
              have := hx i fs[i] (by simp [hi'])
              rw [List.getElem?_eq_getElem (by omega)] at this
              exact ⟨_, by simpa using this⟩)
          simpa using this
        · cases h
      · cases h
    · cases h

def isStructT (P : Program) (t : TypeId) : Bool := match P.underlying t with
  | some (.struct _) => true
  | _ => false
def isSliceT (P : Program) (t : TypeId) : Bool := match P.underlying t with
  | some (.slice _) => true
  | _ => false
theorem isStructT_spec {t : TypeId} (h : isStructT P t = true) : ∃ fs, P.underlying t = some (.struct fs) := by
  unfold isStructT at h
  split at h
  · exact ⟨_, ‹_›⟩
  · cases h
theorem isSliceT_spec {t : TypeId} (h : isSliceT P t = true) : ∃ e, P.underlying t = some (.slice e) := by
  unfold isSliceT at h
  split at h
  · exact ⟨_, ‹_›⟩
  · cases h

/-- An argument that is a struct. -/
theorem arg_struct {r : Reach} {b0 d : Nat} {t : TypeId} (ty : Ty) {v : Value} {dd : DataW H} {ps : List MemPlace} (hs : isStructT P t = true) (ht : tyOf P d t = some ty)
    (hv : Value.okWide P w r b0 t v) (h : DataW.Trod enc P w base spare held t v dd ps) (Hs : Nat → Option Hd) : ∃ y : ty.den, Rep (knowAll w) Hs (.agg (ty.cells y)) v ∧ ty.wf y := by
  obtain ⟨fs, hu⟩ := isStructT_spec hs
  obtain ⟨cs, rfl, _⟩ := okWide_struct hu hv
  obtain ⟨fuel, hf⟩ := h
  obtain ⟨y, h1, h2⟩ := den_of_trod d t ty ht fuel _ _ hf
  refine ⟨y, ?_, h2⟩
  simp only [Rep]
  exact ⟨cs, rfl, repL_cells ty y _ h1⟩

/-- An argument that is a slice. -/
theorem arg_slice {r : Reach} {b0 d : Nat} {t : TypeId} (ty : Ty) {v : Value} {dd : DataW H} {ps : List MemPlace} (hs : isSliceT P t = true) (ht : tyOf P d t = some (.slice ty))
    (hv : Value.okWide P w r b0 t v) (h : DataW.Trod enc P w base spare held t v dd ps) (Hs : Nat → Option Hd) : ∃ l : List ty.den, Rep (knowAll w) Hs (.imm ty l false) v ∧ ∀ x ∈ l, ty.wf x := by
  obtain ⟨e, hu⟩ := isSliceT_spec hs
  obtain ⟨a, len, cap, rfl⟩ := okWide_slice hu hv
  obtain ⟨fuel, hf⟩ := h
  obtain ⟨y, h1, h2⟩ := den_of_trod d t (.slice ty) ht fuel _ _ hf
  refine ⟨(show List ty.den from y), ?_, h2⟩
  obtain ⟨ba, ca, e1, e2, e3⟩ := h1
  simp only [Rep]
  refine ⟨ba, ca, ?_, e2, ⟨fun h => absurd h (by simp), e3⟩⟩
  simpa [Value.cells] using e1

/-- An argument that is a number. -/
theorem arg_int {r : Reach} {b0 : Nat} {t : TypeId} (k : IntKind) {v : Value} {dd : DataW H} {ps : List MemPlace} (hu : P.underlying t = some (.int k))
    (hv : Value.okWide P w r b0 t v) (h : DataW.Trod enc P w base spare held t v dd ps) (Hs : Nat → Option Hd) : ∃ n, Rep (knowAll w) Hs (.int k n) v ∧ (Lit.int k n).wf = true := by
  obtain ⟨n, rfl, _, _, h2⟩ := open_int hu hv h
  exact ⟨n, by simp [Rep], h2⟩

/-- A function that returns true, at arguments that can be read, does so, and leaves all as it was. -/
theorem law_calls {P : Program} {f : FuncId} {gs : List AVal} {W : World} {vs : List Value} (h : ASpec P f gs [] (fun v _ => v = .bool true)) (hr : RepL (knowAll W) (fun _ => none) gs vs) :
    Calls P f vs.toArray W fun e w' => e = .returned (.bool true) ∧ Below W.heap.size W w' := by
  refine (h (fun b => b < W.heap.size) (knowAll W) (fun _ => none) W vs (wok_all W) hr ⟨fun r c f hd h => (by cases h), fun r c hd b h => (by cases h), fun r c hd b h => (by cases h), fun r r' c c' hd hd' b h => (by cases h)⟩ (fun _ _ => rfl)).mono ?_
  rintro e w' ⟨v, r, RM, K', H', rfl, rfl, _, hrep, _, _, _, hk, _⟩
  simp only [Rep] at hrep
  subst hrep
  exact ⟨rfl, below_of_kept hk⟩
theorem byte_wf {n : Int} (h : (Lit.int .u8 n).wf = true) : 0 ≤ n ∧ n ≤ 255 := by
  unfold Lit.wf at h
  rw [Bool.and_eq_true, decide_eq_true_eq, decide_eq_true_eq] at h
  have e1 : IntKind.min .u8 = 0 := by decide
  have e2 : IntKind.max .u8 = 255 := by decide
  omega
theorem half_wf {n : Int} (h : (Lit.int .u16 n).wf = true) : 0 ≤ n ∧ n ≤ 65535 := by
  unfold Lit.wf at h
  rw [Bool.and_eq_true, decide_eq_true_eq, decide_eq_true_eq] at h
  have e1 : IntKind.min .u16 = 0 := by decide
  have e2 : IntKind.max .u16 = 65535 := by decide
  omega
end Go.Abs
end

section
/- Functions that keep contracts, put together. -/
namespace Go.Abs

/-- A function keeps its contract at each of these shapes of arguments. -/
structure Keeps (P : Program) (f : FuncId) (vs : List Var) : Prop where
  code : ∃ fn c, P.funcs[f]? = some fn ∧ fn.body = some c ∧ (fn.name == "runtime.NumGoroutine") = false
  kept : ∀ v ∈ vs, v.Kept P f

theorem Keeps.add {P : Program} {f : FuncId} {vs : List Var} {l : List (FuncId × Contract)} (h : Keeps P f vs) (hG : Good P (envOf l)) : Good P (envOf ((f, mkC vs) :: l)) := by
  obtain ⟨fn, c, h1, h2, h3⟩ := h.code
  exact good_cons hG h1 h2 h3 (spec_vars vs h.kept)

/-- A function's code is there. -/
structure HasCode (P : Program) (f : FuncId) : Prop where
  code : ∃ fn c, P.funcs[f]? = some fn ∧ fn.body = some c ∧ (fn.name == "runtime.NumGoroutine") = false
theorem hasCode {P : Program} {f : FuncId} {fn : Func} (hf : P.funcs[f]? = some fn) (hb : fn.body.isSome = true) (hn : (fn.name == "runtime.NumGoroutine") = false) : HasCode P f := by
  obtain ⟨c, hc⟩ := Option.isSome_iff_exists.1 hb
  exact ⟨fn, c, hf, hc, hn⟩

theorem keeps1 {P : Program} {f : FuncId} {v : Var} (h : HasCode P f) (hv : v.Kept P f) : Keeps P f [v] := ⟨h.code, fun v' hm => by simp at hm; subst hm; exact hv⟩
theorem keeps2 {P : Program} {f : FuncId} {v v2 : Var} (h : HasCode P f) (hv : v.Kept P f) (hv2 : v2.Kept P f) : Keeps P f [v, v2] := ⟨h.code, fun v' hm => by simp at hm; rcases hm with rfl | rfl; exact hv; exact hv2⟩
theorem Keeps.one {P : Program} {f : FuncId} {v : Var} (h : Keeps P f [v]) : v.Kept P f := h.kept v (by simp)

theorem kept_zero {P : Program} {f : FuncId} {v : Var} (μ : v.D → Nat) : (v.below μ 0).Kept P f := fun _ hx => absurd hx.2 (Nat.not_lt_zero _)
theorem kept_all {P : Program} {f : FuncId} {v : Var} (μ : v.D → Nat) (h : ∀ n, (v.below μ n).Kept P f) : v.Kept P f := fun x hx k hk => h (μ x + 1) x ⟨hx, Nat.lt_succ_self _⟩ k hk
theorem keeps_rec {P : Program} {f : FuncId} {v : Var} (μ : v.D → Nat) (hc : HasCode P f) (step : ∀ n, Keeps P f [v.below μ n] → (v.below μ (n + 1)).Kept P f) : Keeps P f [v] := by
  have key : ∀ n, (v.below μ n).Kept P f := by
    intro n
    induction n with
    | zero => exact kept_zero μ
    | succ n ih => exact step n (keeps1 hc ih)
  exact keeps1 hc (kept_all μ key)

theorem aspec_mono {P : Program} {f : FuncId} {gs : List AVal} {cs : List Cont} {k k' : AVal → List Cont → Prop} (h : ASpec P f gs cs k) (hk : ∀ v c, k v c → k' v c) : ASpec P f gs cs k' := by
  intro F K H w vs h1 h2 h3 h4
  refine (h F K H w vs h1 h2 h3 h4).mono ?_
  rintro e w' ⟨v, r, RM, K', H', g1, g2, g3⟩
  exact ⟨v, r, RM, K', H', g1, hk _ _ g2, g3⟩
end Go.Abs
end

section
/- The library's SortFunc, at elements of one cell: its contract over regions handed to it. -/
namespace Go.Abs
open Go.Proofs Go.Shelf Go.Sort

/-! ### values that hang on known cells alone -/
theorem ElemsBy.cells {α : Type} {K K' : Know} {sz : Nat} {R R' : α → List Value → Prop} {l : List α} {base : Option Addr}
    (hK : ∀ b cs, K.cells b = some cs → K'.cells b = some cs) (hR : ∀ x cs, R x cs → R' x cs) (h : ElemsBy K sz R l base) : ElemsBy K' sz R' l base := by
  rcases h with h | ⟨b, off, arr, h1, h2, h3⟩
  · exact .inl h
  · exact .inr ⟨b, off, arr, h1, hK _ _ h2, fun i hi => hR _ _ (h3 i hi)⟩
theorem DenRep.cells {K K' : Know} (hK : ∀ b cs, K.cells b = some cs → K'.cells b = some cs) : ∀ (t : Ty) (x : t.den) (cs : List Value), DenRep K t x cs → DenRep K' t x cs
  | .int _, _, _, h => h
  | .bool, _, _, h => h
  | .slice e, l, cs, h => by
    obtain ⟨base, cap, h1, h2, h3⟩ := h
    exact ⟨base, cap, h1, h2, h3.cells hK (DenRep.cells hK e)⟩
  | .pair a b, x, cs, h => by
    obtain ⟨c1, c2, h1, h2, h3⟩ := h
    exact ⟨c1, c2, h1, DenRep.cells hK a _ _ h2, DenRep.cells hK b _ _ h3⟩

mutual
def AVal.plainV : AVal → Bool
  | .bool _ => true
  | .int _ _ => true
  | .nilc => true
  | .nils _ => true
  | .imm _ _ _ => true
  | .arrv _ _ => true
  | .nilfn => true
  | .iptr cs => plainVs cs
  | .agg cs => plainVs cs
  | .tup cs => plainVs cs
  | .fn _ a b => plainVs a && plainVs b
  | _ => false
def plainVs : List AVal → Bool
  | [] => true
  | a :: us => a.plainV && plainVs us
end

mutual
theorem plain_rep {K K' : Know} {H H' : Nat → Option Hd} (hK : ∀ b cs, K.cells b = some cs → K'.cells b = some cs) : ∀ (a : AVal) (v : Value), a.plainV = true → Rep K H a v → Rep K' H' a v
  | .bool _, _, _, h => by simpa [Rep] using h
  | .int _ _, _, _, h => by simpa [Rep] using h
  | .nilc, _, _, h => by simpa [Rep] using h
  | .nils _, _, _, h => by simpa [Rep] using h
  | .nilfn, _, _, h => by simpa [Rep] using h
  | .imm _ _ _, _, _, h => by
    simp only [Rep] at h ⊢
    obtain ⟨base, cap, h1, h2, h3, h4⟩ := h
    exact ⟨base, cap, h1, h2, h3, h4.cells hK (DenRep.cells hK _)⟩
  | .arrv _ _, _, _, h => by
    simp only [Rep] at h ⊢
    obtain ⟨cs, h1, h2, h3⟩ := h
    exact ⟨cs, h1, h2, fun i hi => DenRep.cells hK _ _ _ (h3 i hi)⟩
  | .iptr cs, _, hp, h => by
    simp only [Rep] at h ⊢
    obtain ⟨b, off, arr, h1, h2, h3⟩ := h
    exact ⟨b, off, arr, h1, hK _ _ h2, plain_repL hK cs _ (by simpa [AVal.plainV] using hp) h3⟩
  | .agg cs, _, hp, h => by
    simp only [Rep] at h ⊢
    obtain ⟨c, h1, h2⟩ := h
    exact ⟨c, h1, plain_repL hK cs _ (by simpa [AVal.plainV] using hp) h2⟩
  | .tup cs, _, hp, h => by
    simp only [Rep] at h ⊢
    obtain ⟨c, h1, h2⟩ := h
    exact ⟨c, h1, plain_repL hK cs _ (by simpa [AVal.plainV] using hp) h2⟩
  | .fn f a b, _, hp, h => by
    simp only [Rep] at h ⊢
    simp only [AVal.plainV, Bool.and_eq_true] at hp
    obtain ⟨fi, ca, h1, h2, h3⟩ := h
    exact ⟨fi, ca, h1, plain_repL hK a _ hp.1 h2, plain_repL hK b _ hp.2 h3⟩
  | .unk, _, hp, _ => by simp [AVal.plainV] at hp
  | .reg _ _, _, hp, _ => by simp [AVal.plainV] at hp
  | .sub _ _ _ _, _, hp, _ => by simp [AVal.plainV] at hp
  | .ptr _ _, _, hp, _ => by simp [AVal.plainV] at hp
  | .eptr _ _ _, _, hp, _ => by simp [AVal.plainV] at hp
  | .aptr _, _, hp, _ => by simp [AVal.plainV] at hp
  | .mref _, _, hp, _ => by simp [AVal.plainV] at hp
  | .yieldv, _, hp, _ => by simp [AVal.plainV] at hp
  | .sem _, _, hp, _ => by simp [AVal.plainV] at hp
theorem plain_repL {K K' : Know} {H H' : Nat → Option Hd} (hK : ∀ b cs, K.cells b = some cs → K'.cells b = some cs) : ∀ (us : List AVal) (vs : List Value), plainVs us = true → RepL K H us vs → RepL K' H' us vs
  | [], _, _, h => by simpa [RepL] using h
  | a :: us, vs, hp, h => by
    simp only [plainVs, Bool.and_eq_true] at hp
    simp only [RepL] at h ⊢
    obtain ⟨c, cs', h1, h2, h3⟩ := h
    exact ⟨c, cs', h1, plain_rep hK a c hp.1 h2, plain_repL hK us cs' hp.2 h3⟩
end

/-! ### worlds -/
theorem world_grow {W w' : World} (h : Kept (fun b => b < W.heap.size) W w') : ∃ q os', w' = grow (W.drewN q) os' := by
  refine ⟨w'.drawn - W.drawn, w'.heap.extract W.heap.size w'.heap.size, ?_⟩
  obtain ⟨h1, h2, h3, h4, h5, h6⟩ := h
  obtain ⟨heap, tape, drawn, os, output⟩ := w'
  obtain ⟨heap0, tape0, drawn0, os0, output0⟩ := W
  simp only at h1 h2 h3 h4 h5 h6
  subst h1; subst h2; subst h3
  simp only [grow, World.drewN, World.mk.injEq, and_true, true_and]
  refine ⟨?_, by omega⟩
  apply Array.ext_getElem?
  intro i
  rw [Array.getElem?_append]
  split
  · rename_i hi; exact h5 i hi
  · rename_i hi
    rw [Array.getElem?_extract]
    split
    · congr 1; omega
    · exact Array.getElem?_eq_none (by omega)

theorem sort_heap {α : Type} [Inhabited α] (enc : α → Value) (w : World) (blk off m : Nat) (dk : Array α) (os : Array Obj) {b : Nat} (hb : b < w.heap.size) (hne : b ≠ blk) :
    (sortWorld enc w blk off m dk os).heap[b]? = w.heap[b]? := by
  unfold sortWorld
  rw [heap_grow_old _ _ (by rw [Go.Proofs.size_putRow]; exact hb)]
  unfold putRow mapBlock
  simp only [Array.getElem?_modify]
  rw [if_neg (fun e => hne e.symm)]; rfl
theorem sort_heap_at {α : Type} [Inhabited α] (enc : α → Value) (w : World) (blk off m : Nat) (dk : Array α) (os : Array Obj) {cs : Array Value} {e : TypeId} {fz : Nat × Nat} (h : w.heap[blk]? = some (.cells cs e fz)) :
    (sortWorld enc w blk off m dk os).heap[blk]? = some (.cells (putCells enc off dk cs) e fz) := by
  unfold sortWorld
  rw [heap_grow_old _ _ (by rw [Go.Proofs.size_putRow]; exact lt_of_heap h)]
  unfold putRow mapBlock
  simp only [Array.getElem?_modify, if_true]
  show Option.map _ w.heap[blk]? = _
  rw [h]; rfl
theorem sort_size {α : Type} [Inhabited α] (enc : α → Value) (w : World) (blk off m : Nat) (dk : Array α) (os : Array Obj) : w.heap.size ≤ (sortWorld enc w blk off m dk os).heap.size := by
  unfold sortWorld
  rw [size_grow, Go.Proofs.size_putRow]
  show w.heap.size ≤ w.heap.size + _
  omega

theorem sort_ok {α : Type} [Inhabited α] {F : Nat → Prop} {K : Know} {w : World} (hok : WOk F K w) (enc : α → Value) (blk off m : Nat) (dk : Array α) (os : Array Obj) (h1 : K.cells blk = none) (h2 : K.inv blk = none) : WOk F K (sortWorld enc w blk off m dk os) where
  knows := ⟨fun b cs h => by
    obtain ⟨e, fz, g⟩ := hok.knows.1 b cs h
    exact ⟨e, fz, by rw [sort_heap _ _ _ _ _ _ _ (lt_of_heap g) (fun e => by subst e; rw [h1] at h; cases h)]; exact g⟩, fun b p h => by
    obtain ⟨o, g, hp⟩ := hok.knows.2 b p h
    exact ⟨o, by rw [sort_heap _ _ _ _ _ _ _ (lt_of_heap g) (fun e => by subst e; rw [h2] at h; cases h)]; exact g, hp⟩⟩
  lt := fun b hb => Nat.lt_of_lt_of_le (hok.lt b hb) (sort_size ..)
  inv := hok.inv
  apart := hok.apart

theorem sort_kept {α : Type} [Inhabited α] {F : Nat → Prop} {K : Know} {w : World} (hok : WOk F K w) (enc : α → Value) (blk off m : Nat) (dk : Array α) (os : Array Obj) (h1 : ¬ F blk) : Kept F w (sortWorld enc w blk off m dk os) where
  os := rfl
  tape := rfl
  output := rfl
  size := sort_size ..
  block := fun b hb => sort_heap _ _ _ _ _ _ _ (hok.lt b hb) (fun e => h1 (e ▸ hb))
  drawn := Nat.le_add_right _ _

/-- The same cells, and no more. -/
def Know.bare (K : Know) : Know := ⟨K.cells, fun _ => none, none⟩
theorem wok_bare {F : Nat → Prop} {K : Know} {w : World} (h : WOk F K w) : WOk (fun b => b < w.heap.size) K.bare w where
  knows := ⟨h.knows.1, fun b p h => by cases h⟩
  lt := fun b h => h
  inv := fun b p h => by cases h
  apart := fun b p h => by cases h

theorem slab_one {cs : Array Value} {i : Nat} {v : Value} (h : slab cs i 1 = [v]) : cs[i]? = some v := by
  unfold slab at h
  have : ((cs.toList.drop i).take 1)[0]? = some v := by rw [h]; rfl
  rw [List.getElem?_take, List.getElem?_drop] at this
  simpa using this
theorem slab_of {cs : Array Value} {i : Nat} {v : Value} (h : cs[i]? = some v) : slab cs i 1 = [v] := by
  unfold slab
  apply List.ext_getElem?
  intro j
  rw [List.getElem?_take, List.getElem?_drop]
  cases j with
  | zero => simpa using h
  | succ j => simp

theorem den_cell1 {K : Know} {t : Ty} (ht : t.size = 1) {x : t.den} {cs : List Value} (h : DenRep K t x cs) : ∃ v, cs = [v] ∧ v.oneCell' = true := by
  cases t with
  | int k => exact ⟨_, h, rfl⟩
  | bool => exact ⟨_, h, rfl⟩
  | slice e =>
    obtain ⟨base, cap, h1, _⟩ := h
    exact ⟨_, h1, rfl⟩
  | pair a b =>
    have := a.size_pos; have := b.size_pos
    simp only [Ty.size] at ht
    omega

theorem repL_append {K : Know} {H : Nat → Option Hd} : ∀ {us bs : List AVal} {vs ws : List Value}, RepL K H us vs → RepL K H bs ws → RepL K H (us ++ bs) (vs ++ ws)
  | [], _, vs, _, h, k => by
    have : vs = [] := RepL.nil_iff.1 h
    subst this; exact k
  | a :: us, _, vs, _, h, k => by
    obtain ⟨x, xs, rfl, h1, h2⟩ := h.inv
    exact .cons h1 (repL_append h2 k)

/-! ### the contract -/
/-- An element, with the cell that holds it. -/
structure SEl (K : Know) (t : Ty) (l : List t.den) where
  x : t.den
  v : Value
  mem : x ∈ l
  rep : DenRep K t x [v]

theorem mrel_nil {F : Nat → Prop} {K : Know} {H : Nat → Option Hd} {w : World} : MRel F K H w (newM (fun _ => none) 0 []) :=
  ⟨fun r c f hd h => (by cases h), fun r c hd b h => (by cases h), fun r c hd b h => (by cases h), fun r r' c c' hd hd' b h => (by cases h)⟩

theorem sort_spec {P : Program} {ρ : Ren} (L : SlLaysF.n6 P ρ) {t : Ty} (h1 : t.size = 1) {g : FuncId} {caps : List AVal} (hp : plainVs caps = true) (eg : ∀ args w, (callFunc g args).run P w = .ok (.enter g args) w)
    {l : List t.den} {cf : t.den → t.den → Int} (hlen : l.length < 4611686018427387904)
    (irr : ∀ x ∈ l, ¬ cf x x < 0) (tr : ∀ x ∈ l, ∀ y ∈ l, ∀ z ∈ l, cf x y < 0 → cf y z < 0 → cf x z < 0) (ntr : ∀ x ∈ l, ∀ y ∈ l, ∀ z ∈ l, ¬ cf x y < 0 → ¬ cf y z < 0 → ¬ cf x z < 0)
    (hcmp : ∀ x ∈ l, ∀ y ∈ l, ASpec P g (t.cells x ++ (t.cells y ++ caps)) [] (fun v _ => v = .int .i64 (cf x y)))
    {full : Bool} {k : AVal → List Cont → Prop} (hk : ∀ l' : List t.den, l'.Perm l → l'.Pairwise (fun a b => ¬ cf b a < 0) → k (.tup []) [.sl t l']) :
    ASpec P (ρ.f 6) [.reg 0 full, .fn (.func g) [] caps] [.sl t l] k := by
  intro F K H w vs hok hargs hm hfr
  obtain ⟨v0, vs', rfl, hr0, hargs'⟩ := hargs.inv
  obtain ⟨v1, vs'', rfl, hr1, hargs''⟩ := hargs'.inv
  obtain rfl : vs'' = [] := RepL.nil_iff.1 hargs''
  clear hargs hargs' hargs''
  simp only [Rep] at hr0 hr1
  obtain ⟨hd, hH, rfl, hfull⟩ := hr0
  obtain ⟨fi, ca, rfl, hfi, hca⟩ := hr1
  obtain rfl : fi = #[] := by
    have := RepL.nil_iff.1 hfi
    exact Array.toList_eq_nil_iff.1 this
  clear hfi
  obtain ⟨c1, c2, c3, c4⟩ := hm.cont 0 (.sl t l) .own hd rfl (by simp) hH
  rcases Nat.eq_zero_or_pos l.length with h0 | hpos
  · have e0 : hd.len = 0 := by omega
    have el : l = [] := List.eq_nil_of_length_eq_zero h0
    subst el
    rw [e0]
    refine (AnyF.slices_SortFunc_none { L with } _ hd.cap _ w).mono ?_
    rintro e w' ⟨rfl, rfl⟩
    refine ⟨_, .tup [], [.sl t []], K, H, rfl, hk [] (.refl _) .nil, .refl K, ?_, hm, hfr, hok, .refl _ _, .refl _ _, Nat.le_refl _, fun _ _ => rfl⟩
    simp only [Rep]
    exact ⟨#[], rfl, .nil⟩
  rcases c4 with ⟨c4, c5⟩ | ⟨b, cs, e, fz, g1, g2, g3, g4⟩
  · omega
  obtain ⟨o1, o2, o3, o4⟩ := hm.own 0 (.sl t l) hd b rfl hH g1
  obtain ⟨cs', e', o5⟩ := o4 rfl
  rw [g2] at o5
  cases o5
  clear o4
  rw [h1, Nat.mul_one] at g3
  have hsz : l.length ≤ cs.size := by omega
  have hel : ∀ i (h : i < l.length), DenRep K t l[i] [cs[i]'(by omega)] := by
    intro i h
    have := g4 i h
    rw [h1, Nat.mul_one, Nat.zero_add, slab_of (Array.getElem?_eq_getElem (by omega))] at this
    exact this
  let d : Array (SEl K t l) := Array.ofFn (fun i : Fin l.length => ⟨l[i.1], cs[i.1]'(by omega), List.getElem_mem _, hel i.1 i.2⟩)
  have hds : d.size = l.length := Array.size_ofFn
  haveI : Inhabited (SEl K t l) := ⟨d[0]'(by omega)⟩
  have hdi : ∀ i (h : i < l.length), (d[i]!).x = l[i] ∧ (d[i]!).v = cs[i]'(by omega) := by
    intro i h
    rw [getElem!_pos d i (by omega)]
    simp only [d, Array.getElem_ofFn]
    exact ⟨trivial, trivial⟩
  let enc : SEl K t l → Value := SEl.v
  let cf' : SEl K t l → SEl K t l → Int := fun a b => cf a.x b.x
  have hone : OneCell enc := fun x => by
    obtain ⟨v, e1, e2⟩ := den_cell1 h1 x.rep
    cases e1; exact e2
  have hO : SWO (ltOf cf') := by
    refine ⟨fun x => ?_, fun x y z h1 h2 => ?_, fun x y z h1 h2 => ?_⟩
    · simp only [ltOf, decide_eq_false_iff_not]; exact irr _ x.mem
    · simp only [ltOf, decide_eq_true_eq] at h1 h2 ⊢; exact tr _ x.mem _ y.mem _ z.mem h1 h2
    · simp only [ltOf, decide_eq_false_iff_not] at h1 h2 ⊢; exact ntr _ x.mem _ y.mem _ z.mem h1 h2
  have hcell : Holds enc w b 0 d := by
    intro j hj
    have hj' : j < l.length := by omega
    refine ⟨?_, ?_⟩
    · unfold World.cell?
      rw [g2]
      simp only [Option.isSome_none, Bool.false_eq_true, if_false, Nat.zero_add]
      rw [Array.getElem?_eq_getElem (by omega)]
      rw [← (hdi j hj').2]
    · unfold World.frozen?
      rw [g2]
      simp
  have hcl : CmpLays1 P g ca enc cf' b 0 d.size w := by
    intro m os dk hs x y
    have hokW := sort_ok hok enc b 0 m dk os o2 o3
    generalize hW : sortWorld enc w b 0 m dk os = W at hokW
    have hr : RepL K.bare (fun _ => none) (t.cells x.x ++ (t.cells y.x ++ caps)) ([x.v] ++ ([y.v] ++ ca.toList)) :=
      repL_append (repL_cells t x.x _ (DenRep.cells (K := K) (K' := K.bare) (fun _ _ h => h) t _ _ x.rep)) (repL_append (repL_cells t y.x _ (DenRep.cells (K := K) (K' := K.bare) (fun _ _ h => h) t _ _ y.rep)) (plain_repL (K := K) (K' := K.bare) (fun _ _ h => h) caps _ hp hca))
    have := hcmp x.x x.mem y.x y.mem (fun b => b < W.heap.size) K.bare (fun _ => none) W _ (wok_bare hokW) hr mrel_nil (fun _ _ => rfl)
    have ea : ([x.v] ++ ([y.v] ++ ca.toList)).toArray = #[enc x, enc y] ++ ca := by
      apply Array.ext'
      simp [enc]
    rw [ea] at this
    refine this.mono ?_
    rintro e w' ⟨v, r, RM, K', H', rfl, rfl, _, hrep, _, _, _, hkp, _⟩
    simp only [Rep] at hrep
    subst hrep
    exact ⟨rfl, world_grow hkp⟩
  have hblk : b < w.heap.size := lt_of_heap g2
  have := Any.slices_SortFunc L enc hone cf' hO g ca b 0 hd.cap d w eg hcl hcell hblk (by omega)
  rw [g1]
  have ev : hd.len = d.size := by omega
  rw [ev]
  refine this.mono ?_
  rintro e2 w' ⟨rfl, d', n, os, hperm, hsort, rfl⟩
  obtain ⟨p1, p2, p3⟩ := hperm
  have q1 : d'.extract 0 d.size = d' := by rw [← p1]; exact Array.extract_size
  have q2 : d.extract 0 d.size = d := Array.extract_size
  rw [q1, q2] at p3
  have hdl : d.toList.map SEl.x = l := by
    apply List.ext_getElem
    · simp [hds]
    · intro i h1 h2
      rw [List.getElem_map]
      have := (hdi i h2).1
      rw [getElem!_pos d i (by omega)] at this
      rw [← this]; simp
  let l' : List t.den := d'.toList.map SEl.x
  have hl' : l'.length = l.length := by simp [l', p1, hds]
  have hpl : l'.Perm l := by
    have := p3.map SEl.x
    rw [hdl] at this
    exact this
  have hpw : l'.Pairwise (fun a b => ¬ cf b a < 0) := by
    rw [List.pairwise_iff_getElem]
    intro i j hi hj hij
    have := hsort i j (Nat.zero_le _) hij (by omega)
    rw [getElem!_pos d' i (by omega), getElem!_pos d' j (by omega)] at this
    simp only [ltOf, cf', decide_eq_false_iff_not] at this
    simpa [l'] using this
  have hcont : ContRel K H (sortWorld enc w b 0 n d' os) hd (.sl t l') := by
    refine ⟨c1, by omega, c3, .inr ⟨b, _, _, (0, 0), g1, sort_heap_at enc w b 0 n d' os g2, ?_, ?_⟩⟩
    · rw [h1, Nat.mul_one]; simpa [putCells] using g3
    · intro i hi
      have hi2 : i < d'.size := by omega
      have : (putCells enc 0 d' cs)[i]? = some (d'[i]).v := by
        simp only [putCells, Array.getElem?_mapIdx, Nat.zero_add, Nat.zero_le, true_and, Nat.sub_zero]
        rw [Array.getElem?_eq_getElem (by omega), Option.map_some, if_pos hi2, getElem!_pos d' i hi2]
      rw [h1, Nat.mul_one, Nat.zero_add, slab_of this]
      have e3 : l'[i] = (d'[i]).x := by simp [l']
      rw [e3]
      exact (d'[i]).rep
  refine ⟨_, .tup [], [.sl t l'], K, H, rfl, hk l' hpl hpw, .refl K, ?_, ?_, hfr, sort_ok hok enc b 0 n d' os o2 o3, sort_kept hok enc b 0 n d' os o1, .refl _ _, Nat.le_refl _, fun _ _ => rfl⟩
  · simp only [Rep]
    exact ⟨#[], rfl, .nil⟩
  have only : ∀ {r : Nat} {c : Cont} {f : Flag}, newM (fun _ => none) 0 [Cont.sl t l'] r = some (c, f) → r = 0 ∧ c = .sl t l' ∧ f = .own := by
    intro r c f h
    have h' : upd (fun _ => none) 0 (Cont.sl t l', Flag.own) r = some (c, f) := h
    by_cases hr : r = 0
    · subst hr; rw [upd_same] at h'; cases h'; exact ⟨rfl, rfl, rfl⟩
    · rw [upd_ne _ _ _ _ hr] at h'; cases h'
  refine ⟨?_, ?_, ?_, ?_⟩
  · intro r c f hd' h2 _ h3
    obtain ⟨rfl, rfl, rfl⟩ := only h2
    rw [hH] at h3; cases h3
    exact hcont
  · intro r c hd' b' h2 h3 h4
    obtain ⟨rfl, rfl, _⟩ := only h2
    rw [hH] at h3; cases h3
    rw [g1] at h4; cases h4
    exact ⟨o1, o2, o3, fun _ => ⟨_, _, sort_heap_at enc w b 0 n d' os g2⟩⟩
  · intro r c hd' b' h2
    obtain ⟨_, _, h3⟩ := only h2
    cases h3
  · intro r r' c c' hd1 hd2 b' h2 h3
    rw [(only h2).1, (only h3).1]; intros; rfl
end Go.Abs
end

section
/- The ship's functions keep their contracts: the sort of boxes, and room for more. -/
open Go.Proofs
set_option maxRecDepth 100000
set_option linter.unusedVariables false
namespace Go.Abs.Ship

theorem perm_unique {α : Type} (R : α → α → Prop) (anti : ∀ a b, R a b → R b a → a = b) : ∀ (l l' : List α), l.Perm l' → l.Pairwise R → l'.Pairwise R → l = l'
  | [], l', h, _, _ => h.nil_eq
  | a :: l, [], h, _, _ => by have := h.length_eq; simp at this
  | a :: l, b :: l', h, h1, h2 => by
    obtain ⟨g1, g2⟩ := List.pairwise_cons.1 h1
    obtain ⟨g3, g4⟩ := List.pairwise_cons.1 h2
    have e : a = b := by
      rcases List.mem_cons.1 (h.subset (List.mem_cons_self ..)) with e | ha
      · exact e
      rcases List.mem_cons.1 (h.symm.subset (List.mem_cons_self ..)) with e | hb
      · exact e.symm
      exact anti a b (g1 b hb) (g3 a ha)
    subst e
    rw [perm_unique R anti l l' (List.perm_cons a |>.1 h) g2 g4]

/-! ### the order in which boxes go out -/
theorem cmp_irr (bs : List (Int × Int)) (s : List Int) (x : Int) : ¬ cmpOut bs s x x < 0 := by unfold cmpOut; simp
theorem cmp_tr {bs : List (Int × Int)} {s : List Int} {x y z : Int} (h1 : cmpOut bs s x y < 0) (h2 : cmpOut bs s y z < 0) : cmpOut bs s x z < 0 := by
  unfold cmpOut at *
  generalize pt bs x = a at *; generalize pt bs y = b at *; generalize pt bs z = c at *
  generalize s.getD x.toNat 0 = d at *; generalize s.getD y.toNat 0 = e at *; generalize s.getD z.toNat 0 = f at *
  split at h1 <;> split at h2 <;> split <;> (try split at h1) <;> (try split at h2) <;> (try split) <;> omega
theorem cmp_ntr {bs : List (Int × Int)} {s : List Int} {x y z : Int} (h1 : ¬ cmpOut bs s x y < 0) (h2 : ¬ cmpOut bs s y z < 0) : ¬ cmpOut bs s x z < 0 := by
  unfold cmpOut at *
  generalize pt bs x = a at *; generalize pt bs y = b at *; generalize pt bs z = c at *
  generalize s.getD x.toNat 0 = d at *; generalize s.getD y.toNat 0 = e at *; generalize s.getD z.toNat 0 = f at *
  split at h1 <;> split at h2 <;> split <;> (try split at h1) <;> (try split at h2) <;> (try split) <;> omega
theorem cmp_anti {bs : List (Int × Int)} {s : List Int} {x y : Int} (h1 : ¬ cmpOut bs s y x < 0) (h2 : ¬ cmpOut bs s x y < 0) : x = y := by
  unfold cmpOut at *
  generalize pt bs x = a at *; generalize pt bs y = b at *
  generalize s.getD x.toNat 0 = d at *; generalize s.getD y.toNat 0 = e at *
  split at h1 <;> split at h2 <;> (try split at h1) <;> (try split at h2) <;> omega
theorem cmp_or {bs : List (Int × Int)} {s : List Int} {x y : Int} (h1 : ¬ cmpOut bs s y x < 0) (h : x ≠ y) : cmpOut bs s x y < 0 := by
  by_cases h2 : cmpOut bs s x y < 0
  · exact h2
  · exact absurd (cmp_anti h1 h2) h

theorem outSorted_perm (bs : List (Int × Int)) (s l : List Int) : (outSorted bs s l).Perm l := List.mergeSort_perm _ _
theorem outSorted_pair (bs : List (Int × Int)) (s l : List Int) : (outSorted bs s l).Pairwise (fun a b => ¬ cmpOut bs s b a < 0) := by
  have := List.pairwise_mergeSort (le := fun x y => !decide (cmpOut bs s y x < 0)) (fun a b c h1 h2 => by
    simp only [Bool.not_eq_true', decide_eq_false_iff_not] at h1 h2 ⊢
    exact cmp_ntr h2 h1) (fun a b => by
    simp only [Bool.or_eq_true, Bool.not_eq_true', decide_eq_false_iff_not]
    by_cases h : cmpOut bs s b a < 0
    · right; intro h2; exact cmp_irr bs s a (cmp_tr h2 h)
    · left; exact h) l
  exact this.imp (fun h => by simpa using h)
theorem outSorted_unique {bs : List (Int × Int)} {s l l' : List Int} (h1 : l'.Perm l) (h2 : l'.Pairwise (fun a b => ¬ cmpOut bs s b a < 0)) : l' = outSorted bs s l :=
  perm_unique (fun a b => ¬ cmpOut bs s b a < 0) (fun a b g1 g2 => cmp_anti g1 g2) _ _ (h1.trans (outSorted_perm bs s l).symm) h2 (outSorted_pair bs s l)

theorem k73 (hG : Good Try.prog (envOf [(74, mkC [v74])])) : v73.Kept Try.prog 73 := by
  rintro ⟨bs, st, fl, s, l, ⟨⟩⟩ ⟨h1, h2, h3, h4, h5⟩ k hk
  have h1 : Fine bs st fl := h1
  have h2 : s.length = bs.length := h2
  have h3 : allIn 5 s := h3
  have h4 : allIn (bs.length : Int) l := h4
  have h5 : l.length ≤ 1000 := h5
  refine sort_spec Try.laySort (t := .int .i64) rfl (g := 74) (caps := [.iptr [hold bs st fl], .iptr [.imm (.int .i64) s false]]) rfl (hG.call 74 _ rfl) (l := l) (cf := cmpOut bs s) (Nat.lt_of_le_of_lt h5 (by decide))
    (fun x _ => cmp_irr bs s x) (fun x _ y _ z _ => cmp_tr) (fun x _ y _ z _ => cmp_ntr) (fun x hx y hy => ?_) (full := false) (fun l' g1 g2 => ?_)
  · refine hG.spec 74 _ rfl _ [] _ ⟨?_, ?_⟩
    · exact ⟨h1, h2, h3, h4 x hx, h4 y hy⟩
    · show (rI (cmpOut bs s x y)) = _
      rfl
  · have e := outSorted_unique (l := l) (l' := l') g1 g2
    rw [e]
    exact hk

theorem out_mem {bs : List (Int × Int)} {s : List Int} {st fl : Int} (hf : Fine bs st fl) (hs : s.length = bs.length) (ha : allIn st s) {x : Int} : x ∈ outOrder bs s st ↔ 0 ≤ x ∧ x < (bs.length : Int) := by
  obtain ⟨f1, f2, f3, f4, f5, f6⟩ := fine_spec hf
  unfold outOrder outOfPort
  simp only [List.mem_flatMap, List.mem_map, List.mem_filter, List.mem_reverse, List.mem_range, decide_eq_true_eq]
  constructor
  · rintro ⟨p, hp, k, hk, i, ⟨hi, h1, h2⟩, rfl⟩
    exact ⟨Int.natCast_nonneg i, by show (i : Int) < _; omega⟩
  · rintro ⟨h0, h1⟩
    have hi : x.toNat < bs.length := by omega
    obtain ⟨p1, p2⟩ := pt_pos f6 h0 h1
    have hk := ha (s[x.toNat]'(by omega)) (List.getElem_mem _)
    refine ⟨(pt bs x - 1).toNat, by omega, (s[x.toNat]'(by omega)).toNat, by omega, x.toNat, ⟨by omega, ?_, ?_⟩, by show ((x.toNat : Nat) : Int) = x; omega⟩
    · rw [getD_at (by omega)]; omega
    · rw [show ((x.toNat : Nat) : Int) = x by omega]; omega
theorem out_pair (bs : List (Int × Int)) (s : List Int) (st : Int) : (outOrder bs s st).Pairwise (fun a b => cmpOut bs s a b < 0) := by
  unfold outOrder
  rw [List.pairwise_flatMap]
  have inP : ∀ p (x : Int), x ∈ outOfPort bs s st p → pt bs x = (p : Int) + 1 := by
    intro p x hx
    unfold outOfPort at hx
    obtain ⟨k, _, hx⟩ := List.mem_flatMap.1 hx
    obtain ⟨i, hi, rfl⟩ := List.mem_map.1 hx
    have := (List.mem_filter.1 hi).2
    simp only [decide_eq_true_eq] at this
    exact this.2
  refine ⟨fun p _ => ?_, ?_⟩
  · unfold outOfPort
    rw [List.pairwise_flatMap]
    have inK : ∀ k : Nat, ∀ x ∈ ((List.range s.length).reverse.filter (fun i : Nat => decide (s.getD i 0 = (k : Int) ∧ pt bs i = (p : Int) + 1))).map Int.ofNat, s.getD x.toNat 0 = (k : Int) ∧ pt bs x = (p : Int) + 1 := by
      intro k x hx
      obtain ⟨i, hi, rfl⟩ := List.mem_map.1 hx
      have := (List.mem_filter.1 hi).2
      simp only [decide_eq_true_eq] at this
      exact this
    refine ⟨fun k _ => ?_, ?_⟩
    · refine List.Pairwise.imp_of_mem (R := fun a b => b < a) (fun {a b} ha hb hab => ?_) ?_
      · obtain ⟨a1, a2⟩ := inK k a ha
        obtain ⟨b1, b2⟩ := inK k b hb
        unfold cmpOut
        rw [if_neg (by omega), if_neg (by omega)]
        omega
      · rw [List.pairwise_map]
        refine List.Pairwise.filter _ ?_
        rw [List.pairwise_reverse]
        exact (List.pairwise_lt_range).imp (fun h => by show (Int.ofNat _) < Int.ofNat _; exact Int.ofNat_lt.2 h)
    · refine (List.pairwise_lt_range).imp (fun {k1 k2} h x hx y hy => ?_)
      obtain ⟨a1, a2⟩ := inK k1 x hx
      obtain ⟨b1, b2⟩ := inK k2 y hy
      unfold cmpOut
      rw [if_neg (by omega), if_pos (by omega)]
      omega
  · refine (List.pairwise_lt_range).imp (fun {p1 p2} h x hx y hy => ?_)
    have a1 := inP p1 x hx
    have b1 := inP p2 y hy
    unfold cmpOut
    rw [if_pos (by omega)]
    omega
theorem out_sorted {bs : List (Int × Int)} {s : List Int} {st fl : Int} (hf : Fine bs st fl) (hs : s.length = bs.length) (ha : allIn st s) : outSorted bs s (allOf bs) = outOrder bs s st := by
  refine sorted_ext (fun a b => cmpOut bs s a b < 0) (fun a => cmp_irr bs s a) (fun a b c => cmp_tr) _ _ ?_ (out_pair bs s st) (fun x => ?_)
  · have hn : (outSorted bs s (allOf bs)).Nodup := (outSorted_perm bs s (allOf bs)).nodup_iff.2 (by
      unfold allOf
      rw [List.nodup_iff_pairwise_ne, List.pairwise_map]
      exact (List.pairwise_lt_range).imp (fun h => by intro e; have := Int.ofNat.inj e; omega))
    exact (List.Pairwise.and (outSorted_pair bs s (allOf bs)) hn).imp (fun h => cmp_or h.1 h.2)
  · rw [(outSorted_perm bs s (allOf bs)).mem_iff, allOf_mem, out_mem hf hs ha]

theorem k38 (hG : Good Try.prog (envOf [(51, mkC [v51]), (63, mkC [v63]), (73, mkC [v73])])) : v38.Kept Try.prog 38 := by
  rintro ⟨bs, st, fl, s, ⟨⟩⟩ hpre k hk
  change List (Int × Int) at bs
  change Int at st fl
  change List Int at s
  refine aspec hmix hG Try.func38 tx38 (Eq.mpr (eq38 bs st fl s k) ?_)
  replace hk : k (.tup [.reg 0 false, rI (stowErr bs st fl s)]) [.sl (.int .i64) (outL bs st fl s)] := hk
  unfold vc38
  obtain ⟨hb, hl⟩ := hpre
  have hb : bs.length ≤ 16 := hb
  have hl : s.length ≤ 1152921504606846976 := hl
  refine ⟨⟨hb, hl⟩, ?_⟩
  refine br_errsW (p := fun e => k (.tup [.reg 0 false, .int .i64 e]) [.sl (.int .i64) []]) (fun h => ?_) (fun h => ?_)
  · have e : outL bs st fl s = [] := by unfold outL; rw [if_neg h]
    rwa [e] at hk
  · obtain ⟨g1, g2, g3, g4⟩ := stow_spec h
    obtain ⟨f1, f2, f3, f4, f5, f6⟩ := fine_spec g1
    have ha := allIn_of g3
    have e : outL bs st fl s = outOrder bs s st := by unfold outL; rw [if_pos h]
    rw [e, h, ← out_sorted g1 g2 ha] at hk
    refine ⟨by show bs.length ≤ 1000; omega, ⟨g1, g2, fun j hj => ⟨(ha j hj).1, by have := (ha j hj).2; omega⟩, fun j hj => allOf_mem.1 hj, by show (allOf bs).length ≤ 1000; simp [allOf]; omega⟩, hk⟩
end Go.Abs.Ship
end

section
/- The contracts of the ship's functions: third part, the statements. -/
namespace Go.Abs.Ship
abbrev yes : RTree := one (.bool true)
abbrev isByte (n : Int) : Prop := 0 ≤ n ∧ n ≤ 255
abbrev isHalf (n : Int) : Prop := 0 ≤ n ∧ n ≤ 65535
abbrev sU8 : VS := .int .u8
abbrev sU16 : VS := .int .u16
def v18 : Var := ⟨.nl, [], fun _ => True, fun _ => yes⟩
def v3 : Var := ⟨.cs sLd (.cs sL .nl), [], fun _ => True, fun _ => yes⟩
def v4 : Var := ⟨.cs sLd (.cs sL .nl), [], fun _ => True, fun _ => yes⟩
def v5 : Var := ⟨.cs sLd (.cs sL .nl), [], fun _ => True, fun _ => yes⟩
def v6 : Var := ⟨.cs sLd (.cs sL .nl), [], fun _ => True, fun _ => yes⟩
def v7 : Var := ⟨.cs sLd (.cs sUL (.cs sU16 .nl)), [], fun x => isBytes x.2.2.2.1 ∧ isHalf x.2.2.2.2.1, fun _ => yes⟩
def v8 : Var := ⟨.cs sLd (.cs sUL .nl), [], fun x => isBytes x.2.2.2.1, fun _ => yes⟩
def v9 : Var := ⟨.cs sLd (.cs sUL .nl), [], fun x => isBytes x.2.2.2.1, fun _ => yes⟩
def v10 : Var := ⟨.cs sLd (.cs sU16 (.cs sU8 .nl)), [], fun x => isHalf x.2.2.2.1 ∧ isByte x.2.2.2.2.1, fun _ => yes⟩
def v11 : Var := ⟨.cs sLd (.cs sUL .nl), [], fun x => isBytes x.2.2.2.1, fun _ => yes⟩
def v12 : Var := ⟨.cs sLd .nl, [], fun _ => True, fun _ => yes⟩
def v13 : Var := ⟨.cs sLd (.cs sTop (.cs sU8 (.cs sU16 (.cs sUL .nl)))), [], fun x => isByte x.2.2.2.2.2.1 ∧ isHalf x.2.2.2.2.2.2.1 ∧ isBytes x.2.2.2.2.2.2.2.1, fun _ => yes⟩
def v14 : Var := ⟨.cs sLd (.cs sU8 .nl), [], fun x => isByte x.2.2.2.1, fun _ => yes⟩
def v15 : Var := ⟨.nl, [], fun _ => True, fun _ => yes⟩
end Go.Abs.Ship
end

section
/- Conditions and their equations, printed by a program. -/
open Go.Proofs
set_option maxRecDepth 100000
set_option linter.unusedVariables false
namespace Go.Abs.Ship
def vc18  (k : AVal → List Cont → Prop) : Prop :=
  (Go.Abs.Ship.v49.p ((3 : Int), ((40 : Int), ()))) ∧
  (Go.Abs.Ship.v49.p ((2 : Int), ((40 : Int), ()))) ∧
  (Go.Abs.Ship.v49.p ((4 : Int), ((35 : Int), ()))) ∧
  (Go.Abs.Ship.v50.p (((0 : Int) :: ((0 : Int) :: ((1 : Int) :: ((1 : Int) :: ((2 : Int) :: ((2 : Int) :: ([] : List Int))))))), ())) ∧
  (Go.Abs.Ship.v19.p (Go.Abs.Ship.sixB, ((3 : Int), ((40 : Int), (((0 : Int) :: ((0 : Int) :: ((1 : Int) :: ((1 : Int) :: ((2 : Int) :: ((2 : Int) :: ([] : List Int))))))), ()))))) ∧
  (Go.Abs.Ship.v50.p (((0 : Int) :: ((1 : Int) :: ((0 : Int) :: ((0 : Int) :: ((2 : Int) :: ((1 : Int) :: ([] : List Int))))))), ())) ∧
  (Go.Abs.Ship.v19.p (Go.Abs.Ship.sixB, ((3 : Int), ((40 : Int), (((0 : Int) :: ((1 : Int) :: ((0 : Int) :: ((0 : Int) :: ((2 : Int) :: ((1 : Int) :: ([] : List Int))))))), ()))))) ∧
  (Go.Abs.Ship.v50.p (((0 : Int) :: ((0 : Int) :: ((0 : Int) :: ((1 : Int) :: ((2 : Int) :: ((2 : Int) :: ([] : List Int))))))), ())) ∧
  (Go.Abs.Ship.v19.p (Go.Abs.Ship.sixB, ((3 : Int), ((40 : Int), (((0 : Int) :: ((0 : Int) :: ((0 : Int) :: ((1 : Int) :: ((2 : Int) :: ((2 : Int) :: ([] : List Int))))))), ()))))) ∧
  (Go.Abs.Ship.v50.p (((0 : Int) :: ((0 : Int) :: ((1 : Int) :: ((1 : Int) :: ((2 : Int) :: ((3 : Int) :: ([] : List Int))))))), ())) ∧
  (Go.Abs.Ship.v19.p (Go.Abs.Ship.sixB, ((3 : Int), ((40 : Int), (((0 : Int) :: ((0 : Int) :: ((1 : Int) :: ((1 : Int) :: ((2 : Int) :: ((3 : Int) :: ([] : List Int))))))), ()))))) ∧
  (Go.Abs.Ship.v50.p (((0 : Int) :: ((0 : Int) :: ((1 : Int) :: ([] : List Int)))), ())) ∧
  (Go.Abs.Ship.v19.p (Go.Abs.Ship.sixB, ((3 : Int), ((40 : Int), (((0 : Int) :: ((0 : Int) :: ((1 : Int) :: ([] : List Int)))), ()))))) ∧
  (Go.Abs.Ship.v23.p (Go.Abs.Ship.sixB, ((3 : Int), ((40 : Int), ())))) ∧
  (Go.Abs.Ship.v27.p (Go.Abs.Ship.sixB, ((3 : Int), ((40 : Int), ())))) ∧
  (Go.Abs.Ship.v50.p (((1 : Int) :: ((2 : Int) :: ((4 : Int) :: ([] : List Int)))), ())) ∧
  (Go.Abs.Ship.v25.p (Go.Abs.Ship.sixB, ((3 : Int), ((40 : Int), (((1 : Int) :: ((2 : Int) :: ((4 : Int) :: ([] : List Int)))), ()))))) ∧
  (Go.Abs.Ship.v50.p (((0 : Int) :: ((2 : Int) :: ((4 : Int) :: ([] : List Int)))), ())) ∧
  (Go.Abs.Ship.v25.p (Go.Abs.Ship.sixB, ((3 : Int), ((40 : Int), (((0 : Int) :: ((2 : Int) :: ((4 : Int) :: ([] : List Int)))), ()))))) ∧
  (Go.Abs.Ship.v50.p (((2 : Int) :: ((1 : Int) :: ([] : List Int))), ())) ∧
  (Go.Abs.Ship.v25.p (Go.Abs.Ship.sixB, ((3 : Int), ((40 : Int), (((2 : Int) :: ((1 : Int) :: ([] : List Int))), ()))))) ∧
  (Go.Abs.Ship.v32.p (Go.Abs.Ship.sixB, ((3 : Int), ((40 : Int), ())))) ∧
  (Go.Abs.Ship.v32.p (Go.Abs.Ship.sixB, ((2 : Int), ((40 : Int), ())))) ∧
  (Go.Abs.Ship.v32.p (Go.Abs.Ship.sixB, ((4 : Int), ((35 : Int), ())))) ∧
  (Go.Abs.Ship.v50.p (((0 : Int) :: ((0 : Int) :: ((1 : Int) :: ((1 : Int) :: ((2 : Int) :: ([] : List Int)))))), ())) ∧
  (Go.Abs.Ship.v34.p (Go.Abs.Ship.sixB, ((3 : Int), ((40 : Int), (((0 : Int) :: ((0 : Int) :: ((1 : Int) :: ((1 : Int) :: ((2 : Int) :: ([] : List Int)))))), ()))))) ∧
  (Go.Abs.Ship.v50.p (((0 : Int) :: ((0 : Int) :: ((1 : Int) :: ((1 : Int) :: ((2 : Int) :: ((0 : Int) :: ([] : List Int))))))), ())) ∧
  (Go.Abs.Ship.v34.p (Go.Abs.Ship.sixB, ((3 : Int), ((40 : Int), (((0 : Int) :: ((0 : Int) :: ((1 : Int) :: ((1 : Int) :: ((2 : Int) :: ((0 : Int) :: ([] : List Int))))))), ()))))) ∧
  (Go.Abs.Ship.v36.p (Go.Abs.Ship.sixB, ((2 : Int), ((40 : Int), ())))) ∧
  (Go.Abs.Ship.v50.p (((0 : Int) :: ((0 : Int) :: ((1 : Int) :: ((1 : Int) :: ((2 : Int) :: ((2 : Int) :: ([] : List Int))))))), ())) ∧
  (Go.Abs.Ship.v38.p (Go.Abs.Ship.sixB, ((3 : Int), ((40 : Int), (((0 : Int) :: ((0 : Int) :: ((1 : Int) :: ((1 : Int) :: ((2 : Int) :: ((2 : Int) :: ([] : List Int))))))), ()))))) ∧
  (Go.Abs.Ship.v29.p (Go.Abs.Ship.sixB, ((2 : Int), ((40 : Int), ())))) ∧
  (Go.Abs.Ship.v50.p (((1 : Int) :: ((2 : Int) :: ((4 : Int) :: ([] : List Int)))), ())) ∧
  (Go.Abs.Ship.v30.p ((Go.Abs.Ship.risingN Go.Abs.Ship.sixB (3 : Int) (40 : Int)), (((1 : Int) :: ((2 : Int) :: ((4 : Int) :: ([] : List Int)))), ()))) ∧
  (Go.Abs.Ship.v50.p (((0 : Int) :: ((0 : Int) :: ((1 : Int) :: ((1 : Int) :: ((2 : Int) :: ((0 : Int) :: ([] : List Int))))))), ())) ∧
  (Go.Abs.Ship.v30.p ((Go.Abs.Ship.stowL Go.Abs.Ship.sixB (3 : Int) (40 : Int)), (((0 : Int) :: ((0 : Int) :: ((1 : Int) :: ((1 : Int) :: ((2 : Int) :: ((0 : Int) :: ([] : List Int))))))), ()))) ∧
  (Go.Abs.Ship.v50.p (((0 : Int) :: ((0 : Int) :: ((1 : Int) :: ((2 : Int) :: ((3 : Int) :: ((1 : Int) :: ([] : List Int))))))), ())) ∧
  (Go.Abs.Ship.v30.p ((Go.Abs.Ship.stowL Go.Abs.Ship.sixB (4 : Int) (35 : Int)), (((0 : Int) :: ((0 : Int) :: ((1 : Int) :: ((2 : Int) :: ((3 : Int) :: ((1 : Int) :: ([] : List Int))))))), ()))) ∧
  (Go.Abs.Ship.v50.p (((0 : Int) :: ((2 : Int) :: ([] : List Int))), ())) ∧
  (Go.Abs.Ship.v30.p ((Go.Abs.Ship.chL Go.Abs.Ship.sixB (3 : Int) (40 : Int) ((0 : Int) :: ((0 : Int) :: ((1 : Int) :: ((1 : Int) :: ((2 : Int) :: ([] : List Int))))))), (((0 : Int) :: ((2 : Int) :: ([] : List Int))), ()))) ∧
  (Go.Abs.Ship.v50.p (((1 : Int) :: ([] : List Int)), ())) ∧
  (Go.Abs.Ship.v30.p ((Go.Abs.Ship.leftL Go.Abs.Ship.sixB (2 : Int) (40 : Int)), (((1 : Int) :: ([] : List Int)), ()))) ∧
  (Go.Abs.Ship.v50.p (((1 : Int) :: ((5 : Int) :: ((3 : Int) :: ((2 : Int) :: ((0 : Int) :: ((4 : Int) :: ([] : List Int))))))), ())) ∧
  (Go.Abs.Ship.v30.p ((Go.Abs.Ship.outL Go.Abs.Ship.sixB (3 : Int) (40 : Int) ((0 : Int) :: ((0 : Int) :: ((1 : Int) :: ((1 : Int) :: ((2 : Int) :: ((2 : Int) :: ([] : List Int)))))))), (((1 : Int) :: ((5 : Int) :: ((3 : Int) :: ((2 : Int) :: ((0 : Int) :: ((4 : Int) :: ([] : List Int))))))), ()))) ∧
  (Go.Abs.Ship.v31.p (Go.Abs.Ship.sixB, ((2 : Int), ((40 : Int), ((Go.Abs.Ship.smoothN Go.Abs.Ship.sixB (2 : Int) (40 : Int)), ()))))) ∧
  (k (Go.Abs.AVal.bool (Go.Abs.Ship.smoothest Go.Abs.Ship.sixB (Go.Abs.Ship.smoothN Go.Abs.Ship.sixB (2 : Int) (40 : Int)))) [])
theorem eq18  (k : AVal → List Cont → Prop) : awpF (envOf [(49, mkC [v49]), (50, mkC [v50]), (19, mkC [v19]), (23, mkC [v23]), (27, mkC [v27]), (25, mkC [v25]), (32, mkC [v32]), (34, mkC [v34]), (36, mkC [v36]), (38, mkC [v38]), (29, mkC [v29]), (30, mkC [v30]), (31, mkC [v31])]) Try.prog kt 18 false Try.f18 (v18.args ()) (v18.conts ()) k = vc18  k := by kernel_rfl
theorem tx18 : (Try.f18.body.map Code.textsOk).getD true = true := by kernel_rfl

def vc3 (bs : List (Int × Int)) (st fl : Int) (s : List Int) (k : AVal → List Cont → Prop) : Prop :=
  (Go.Abs.Ship.v16.p (bs, (st, (fl, ())))) ∧
  br (((Go.Abs.Ship.great bs) == Bool.false))
   ((Go.Abs.Ship.v17.p (s, ())) ∧
   br ((Go.Abs.Ship.longL s))
    ((Go.Abs.Ship.v18.p ()) ∧
    (k (Go.Abs.AVal.bool Bool.true) []))
    ((Go.Abs.Ship.v19.p (bs, (st, (fl, (s, ()))))) ∧
    (Go.Abs.Ship.v20.p (bs, (st, (fl, (s, ()))))) ∧
    (Go.Abs.Ship.v21.p (bs, (st, (fl, ())))) ∧
    (Go.Abs.Ship.v22.p (bs, (st, (fl, ())))) ∧
    br ((((Go.Abs.Ship.checkLoad bs st fl) == (Go.Abs.Ship.checkLoad bs st fl)) == Bool.true))
     (br ((((Go.Abs.Ship.csN bs st fl s) == (Go.Abs.Ship.csN bs st fl s)) == Bool.true))
      (br ((((Go.Abs.Ship.csW bs st fl s) == (Go.Abs.Ship.csW bs st fl s)) == Bool.true))
       (br ((((Go.Abs.Ship.csErr bs st fl s) == (Go.Abs.Ship.csErr bs st fl s)) == Bool.true))
        ((Go.Abs.Ship.v18.p ()) ∧
        (k (Go.Abs.AVal.bool Bool.true) []))
        ((k (Go.Abs.AVal.bool Bool.false) [])))
       ((k (Go.Abs.AVal.bool Bool.false) [])))
      ((k (Go.Abs.AVal.bool Bool.false) [])))
     ((k (Go.Abs.AVal.bool Bool.false) []))))
   ((Go.Abs.Ship.v18.p ()) ∧
   (k (Go.Abs.AVal.bool Bool.true) []))
theorem eq3 (bs : List (Int × Int)) (st fl : Int) (s : List Int) (k : AVal → List Cont → Prop) : awpF (envOf [(16, mkC [v16]), (17, mkC [v17]), (18, mkC [v18]), (19, mkC [v19]), (20, mkC [v20]), (21, mkC [v21]), (22, mkC [v22])]) Try.prog kt 3 false Try.f3 (v3.args (bs, st, fl, s, ())) (v3.conts (bs, st, fl, s, ())) k = vc3 bs st fl s k := by kernel_rfl
theorem tx3 : (Try.f3.body.map Code.textsOk).getD true = true := by kernel_rfl

def vc4 (bs : List (Int × Int)) (st fl : Int) (s : List Int) (k : AVal → List Cont → Prop) : Prop :=
  (Go.Abs.Ship.v16.p (bs, (st, (fl, ())))) ∧
  br (((Go.Abs.Ship.great bs) == Bool.false))
   ((Go.Abs.Ship.v17.p (s, ())) ∧
   br ((Go.Abs.Ship.longL s))
    ((Go.Abs.Ship.v18.p ()) ∧
    (k (Go.Abs.AVal.bool Bool.true) []))
    ((Go.Abs.Ship.v23.p (bs, (st, (fl, ())))) ∧
    (Go.Abs.Ship.v24.p (bs, (st, (fl, ())))) ∧
    (Go.Abs.Ship.v25.p (bs, (st, (fl, (s, ()))))) ∧
    (Go.Abs.Ship.v26.p (bs, (st, (fl, (s, ()))))) ∧
    (Go.Abs.Ship.v27.p (bs, (st, (fl, ())))) ∧
    (Go.Abs.Ship.v28.p (bs, (st, (fl, ())))) ∧
    (Go.Abs.Ship.v29.p (bs, (st, (fl, ())))) ∧
    br ((((Go.Abs.Ship.fewestN bs st fl) != (Go.Abs.Ship.fewestN bs st fl)) == Bool.false))
     (br ((((Go.Abs.Ship.checkLoad bs st fl) != (Go.Abs.Ship.checkLoad bs st fl)) == Bool.false))
      (br ((((Go.Abs.Ship.riseN bs st fl s) != (Go.Abs.Ship.riseN bs st fl s)) == Bool.false))
       (br ((((Go.Abs.Ship.riseErr bs st fl s) != (Go.Abs.Ship.riseErr bs st fl s)) == Bool.false))
        ((Go.Abs.Ship.v30.p ((Go.Abs.Ship.risingN bs st fl), ((Go.Abs.Ship.risingN bs st fl), ()))) ∧
        br (((Bool.not (Go.Abs.Ship.eqL (Go.Abs.Ship.risingN bs st fl) (Go.Abs.Ship.risingN bs st fl))) == Bool.false))
         (br ((((Go.Abs.Ship.checkLoad bs st fl) != (Go.Abs.Ship.checkLoad bs st fl)) == Bool.false))
          (br ((((Go.Abs.Ship.checkLoad bs st fl) != (Go.Abs.Ship.checkLoad bs st fl)) == Bool.false))
           ((Go.Abs.Ship.v17.p ((Go.Abs.Ship.smoothN bs st fl), ())) ∧
           br ((Go.Abs.Ship.longL (Go.Abs.Ship.smoothN bs st fl)))
            ((k (Go.Abs.AVal.bool Bool.false) []))
            (br (((Go.Abs.Ship.checkLoad bs st fl) != (0 : Int)))
             (br ((((((List.length (Go.Abs.Ship.smoothN bs st fl)) : Nat) : Int) == (0 : Int)) == Bool.true))
              ((Go.Abs.Ship.v18.p ()) ∧
              (k (Go.Abs.AVal.bool Bool.true) []))
              ((k (Go.Abs.AVal.bool Bool.false) [])))
             ((Go.Abs.Ship.v31.p (bs, (st, (fl, ((Go.Abs.Ship.smoothN bs st fl), ()))))) ∧
             br (((Go.Abs.Ship.smoothest bs (Go.Abs.Ship.smoothN bs st fl)) == Bool.true))
              ((Go.Abs.Ship.v18.p ()) ∧
              (k (Go.Abs.AVal.bool Bool.true) []))
              ((k (Go.Abs.AVal.bool Bool.false) [])))))
           ((k (Go.Abs.AVal.bool Bool.false) [])))
          ((k (Go.Abs.AVal.bool Bool.false) [])))
         ((k (Go.Abs.AVal.bool Bool.false) [])))
        ((k (Go.Abs.AVal.bool Bool.false) [])))
       ((k (Go.Abs.AVal.bool Bool.false) [])))
      ((k (Go.Abs.AVal.bool Bool.false) [])))
     ((k (Go.Abs.AVal.bool Bool.false) []))))
   ((Go.Abs.Ship.v18.p ()) ∧
   (k (Go.Abs.AVal.bool Bool.true) []))
theorem eq4 (bs : List (Int × Int)) (st fl : Int) (s : List Int) (k : AVal → List Cont → Prop) : awpF (envOf [(16, mkC [v16]), (17, mkC [v17]), (18, mkC [v18]), (23, mkC [v23]), (24, mkC [v24]), (25, mkC [v25]), (26, mkC [v26]), (27, mkC [v27]), (28, mkC [v28]), (29, mkC [v29]), (30, mkC [v30]), (31, mkC [v31])]) Try.prog kt 4 false Try.f4 (v4.args (bs, st, fl, s, ())) (v4.conts (bs, st, fl, s, ())) k = vc4 bs st fl s k := by kernel_rfl
theorem tx4 : (Try.f4.body.map Code.textsOk).getD true = true := by kernel_rfl

def vc5 (bs : List (Int × Int)) (st fl : Int) (s : List Int) (k : AVal → List Cont → Prop) : Prop :=
  (Go.Abs.Ship.v16.p (bs, (st, (fl, ())))) ∧
  br (((Go.Abs.Ship.great bs) == Bool.false))
   ((Go.Abs.Ship.v17.p (s, ())) ∧
   br ((Go.Abs.Ship.longL s))
    ((Go.Abs.Ship.v18.p ()) ∧
    (k (Go.Abs.AVal.bool Bool.true) []))
    ((Go.Abs.Ship.v32.p (bs, (st, (fl, ())))) ∧
    (Go.Abs.Ship.v33.p (bs, (st, (fl, ())))) ∧
    (Go.Abs.Ship.v34.p (bs, (st, (fl, (s, ()))))) ∧
    (Go.Abs.Ship.v35.p (bs, (st, (fl, (s, ()))))) ∧
    (Go.Abs.Ship.v30.p ((Go.Abs.Ship.stowL bs st fl), ((Go.Abs.Ship.stowL bs st fl), ()))) ∧
    br (((Go.Abs.Ship.eqL (Go.Abs.Ship.stowL bs st fl) (Go.Abs.Ship.stowL bs st fl)) == Bool.true))
     (br ((((Go.Abs.Ship.stowE bs st fl) == (Go.Abs.Ship.stowE bs st fl)) == Bool.true))
      ((Go.Abs.Ship.v30.p ((Go.Abs.Ship.chL bs st fl s), ((Go.Abs.Ship.chL bs st fl s), ()))) ∧
      br (((Go.Abs.Ship.eqL (Go.Abs.Ship.chL bs st fl s) (Go.Abs.Ship.chL bs st fl s)) == Bool.true))
       (br ((((Go.Abs.Ship.chE bs st fl s) == (Go.Abs.Ship.chE bs st fl s)) == Bool.true))
        ((Go.Abs.Ship.v18.p ()) ∧
        (k (Go.Abs.AVal.bool Bool.true) []))
        ((k (Go.Abs.AVal.bool Bool.false) [])))
       ((k (Go.Abs.AVal.bool Bool.false) [])))
      ((k (Go.Abs.AVal.bool Bool.false) [])))
     ((k (Go.Abs.AVal.bool Bool.false) []))))
   ((Go.Abs.Ship.v18.p ()) ∧
   (k (Go.Abs.AVal.bool Bool.true) []))
theorem eq5 (bs : List (Int × Int)) (st fl : Int) (s : List Int) (k : AVal → List Cont → Prop) : awpF (envOf [(16, mkC [v16]), (17, mkC [v17]), (18, mkC [v18]), (32, mkC [v32]), (33, mkC [v33]), (34, mkC [v34]), (35, mkC [v35]), (30, mkC [v30])]) Try.prog kt 5 false Try.f5 (v5.args (bs, st, fl, s, ())) (v5.conts (bs, st, fl, s, ())) k = vc5 bs st fl s k := by kernel_rfl
theorem tx5 : (Try.f5.body.map Code.textsOk).getD true = true := by kernel_rfl

def vc6 (bs : List (Int × Int)) (st fl : Int) (s : List Int) (k : AVal → List Cont → Prop) : Prop :=
  (Go.Abs.Ship.v16.p (bs, (st, (fl, ())))) ∧
  br (((Go.Abs.Ship.great bs) == Bool.false))
   ((Go.Abs.Ship.v17.p (s, ())) ∧
   br ((Go.Abs.Ship.longL s))
    ((Go.Abs.Ship.v18.p ()) ∧
    (k (Go.Abs.AVal.bool Bool.true) []))
    ((Go.Abs.Ship.v36.p (bs, (st, (fl, ())))) ∧
    (Go.Abs.Ship.v37.p (bs, (st, (fl, ())))) ∧
    (Go.Abs.Ship.v38.p (bs, (st, (fl, (s, ()))))) ∧
    (Go.Abs.Ship.v39.p (bs, (st, (fl, (s, ()))))) ∧
    (Go.Abs.Ship.v30.p ((Go.Abs.Ship.leftL bs st fl), ((Go.Abs.Ship.leftL bs st fl), ()))) ∧
    br (((Go.Abs.Ship.eqL (Go.Abs.Ship.leftL bs st fl) (Go.Abs.Ship.leftL bs st fl)) == Bool.true))
     (br ((((Go.Abs.Ship.checkLoad bs st fl) == (Go.Abs.Ship.checkLoad bs st fl)) == Bool.true))
      ((Go.Abs.Ship.v30.p ((Go.Abs.Ship.outL bs st fl s), ((Go.Abs.Ship.outL bs st fl s), ()))) ∧
      br (((Go.Abs.Ship.eqL (Go.Abs.Ship.outL bs st fl s) (Go.Abs.Ship.outL bs st fl s)) == Bool.true))
       (br ((((Go.Abs.Ship.stowErr bs st fl s) == (Go.Abs.Ship.stowErr bs st fl s)) == Bool.true))
        ((Go.Abs.Ship.v18.p ()) ∧
        (k (Go.Abs.AVal.bool Bool.true) []))
        ((k (Go.Abs.AVal.bool Bool.false) [])))
       ((k (Go.Abs.AVal.bool Bool.false) [])))
      ((k (Go.Abs.AVal.bool Bool.false) [])))
     ((k (Go.Abs.AVal.bool Bool.false) []))))
   ((Go.Abs.Ship.v18.p ()) ∧
   (k (Go.Abs.AVal.bool Bool.true) []))
theorem eq6 (bs : List (Int × Int)) (st fl : Int) (s : List Int) (k : AVal → List Cont → Prop) : awpF (envOf [(16, mkC [v16]), (17, mkC [v17]), (18, mkC [v18]), (36, mkC [v36]), (37, mkC [v37]), (38, mkC [v38]), (39, mkC [v39]), (30, mkC [v30])]) Try.prog kt 6 false Try.f6 (v6.args (bs, st, fl, s, ())) (v6.conts (bs, st, fl, s, ())) k = vc6 bs st fl s k := by kernel_rfl
theorem tx6 : (Try.f6.body.map Code.textsOk).getD true = true := by kernel_rfl

def vc7 (bs : List (Int × Int)) (st fl : Int) (bys : List Int) (bits : Int) (k : AVal → List Cont → Prop) : Prop :=
  (Go.Abs.Ship.v40.p (bs, (st, (fl, ())))) ∧
  br (((Bool.not (Go.Abs.Ship.fine bs st fl)) == Bool.false))
   (br ((decide ((((List.length bys) : Nat) : Int) > (20 : Int))))
    ((Go.Abs.Ship.v18.p ()) ∧
    (k (Go.Abs.AVal.bool Bool.true) []))
    ((Go.Abs.Ship.v41.p (bs, (st, (fl, ())))) ∧
    (Go.Abs.Ship.v42.p (st, ((1000 : Int), (bs, ())))) ∧
    (Go.Abs.Ship.v43.p (bs, (st, (fl, (bys, ()))))) ∧
    (Go.Abs.Ship.v19.p (bs, (st, ((1000 : Int), ((Go.Abs.Ship.givenL bs st bys), ()))))) ∧
    (Go.Abs.fitsK Go.IntKind.i64 bits) ∧
    (Go.Abs.Ship.v44.p (bits, ((((List.length bs) : Nat) : Int), ()))) ∧
    (Go.Abs.Ship.v25.p (bs, (st, (fl, ((Go.Abs.Ship.listed (Int.toNat bits) (Int.toNat (((List.length bs) : Nat) : Int))), ()))))) ∧
    br ((((Go.Abs.Ship.csErr bs st (1000 : Int) (Go.Abs.Ship.givenL bs st bys)) != (0 : Int)) == Bool.true))
     (br ((((Go.Abs.Ship.csErr bs st (1000 : Int) (Go.Abs.Ship.givenL bs st bys)) != (23 : Int)) == Bool.false))
      (br ((((Go.Abs.Ship.riseErr bs st fl (Go.Abs.Ship.listed (Int.toNat bits) (Int.toNat (((List.length bs) : Nat) : Int)))) != (0 : Int)) == Bool.true))
       (br (((Go.Abs.Ship.riseErr bs st fl (Go.Abs.Ship.listed (Int.toNat bits) (Int.toNat (((List.length bs) : Nat) : Int)))) != (16 : Int)))
        ((k (Go.Abs.AVal.bool Bool.false) []))
        (br ((((Go.Abs.Ship.csErr bs st (1000 : Int) (Go.Abs.Ship.givenL bs st bys)) != (0 : Int)) == Bool.false))
         (br (((decide ((Go.Abs.Ship.csN bs st (1000 : Int) (Go.Abs.Ship.givenL bs st bys)) ≥ (Go.Abs.Ship.fewestOf bs))) == Bool.true))
          (br ((((Go.Abs.Ship.riseErr bs st fl (Go.Abs.Ship.listed (Int.toNat bits) (Int.toNat (((List.length bs) : Nat) : Int)))) != (0 : Int)) == Bool.false))
           (br (((decide ((Go.Abs.Ship.csN bs st (1000 : Int) (Go.Abs.Ship.givenL bs st bys)) ≥ (Go.Abs.Ship.riseN bs st fl (Go.Abs.Ship.listed (Int.toNat bits) (Int.toNat (((List.length bs) : Nat) : Int)))))) == Bool.true))
            (br ((((Go.Abs.Ship.riseErr bs st fl (Go.Abs.Ship.listed (Int.toNat bits) (Int.toNat (((List.length bs) : Nat) : Int)))) != (0 : Int)) == Bool.false))
             (br (((decide ((Go.Abs.Ship.riseN bs st fl (Go.Abs.Ship.listed (Int.toNat bits) (Int.toNat (((List.length bs) : Nat) : Int)))) ≤ (Go.Abs.Ship.fewestOf bs))) == Bool.true))
              ((Go.Abs.Ship.v18.p ()) ∧
              (k (Go.Abs.AVal.bool Bool.true) []))
              ((k (Go.Abs.AVal.bool Bool.false) [])))
             ((Go.Abs.Ship.v18.p ()) ∧
             (k (Go.Abs.AVal.bool Bool.true) [])))
            ((k (Go.Abs.AVal.bool Bool.false) [])))
           (br ((((Go.Abs.Ship.riseErr bs st fl (Go.Abs.Ship.listed (Int.toNat bits) (Int.toNat (((List.length bs) : Nat) : Int)))) != (0 : Int)) == Bool.false))
            (br (((decide ((Go.Abs.Ship.riseN bs st fl (Go.Abs.Ship.listed (Int.toNat bits) (Int.toNat (((List.length bs) : Nat) : Int)))) ≤ (Go.Abs.Ship.fewestOf bs))) == Bool.true))
             ((Go.Abs.Ship.v18.p ()) ∧
             (k (Go.Abs.AVal.bool Bool.true) []))
             ((k (Go.Abs.AVal.bool Bool.false) [])))
            ((Go.Abs.Ship.v18.p ()) ∧
            (k (Go.Abs.AVal.bool Bool.true) []))))
          ((k (Go.Abs.AVal.bool Bool.false) [])))
         (br ((((Go.Abs.Ship.riseErr bs st fl (Go.Abs.Ship.listed (Int.toNat bits) (Int.toNat (((List.length bs) : Nat) : Int)))) != (0 : Int)) == Bool.false))
          (br (((decide ((Go.Abs.Ship.riseN bs st fl (Go.Abs.Ship.listed (Int.toNat bits) (Int.toNat (((List.length bs) : Nat) : Int)))) ≤ (Go.Abs.Ship.fewestOf bs))) == Bool.true))
           ((Go.Abs.Ship.v18.p ()) ∧
           (k (Go.Abs.AVal.bool Bool.true) []))
           ((k (Go.Abs.AVal.bool Bool.false) [])))
          ((Go.Abs.Ship.v18.p ()) ∧
          (k (Go.Abs.AVal.bool Bool.true) [])))))
       (br ((((Go.Abs.Ship.csErr bs st (1000 : Int) (Go.Abs.Ship.givenL bs st bys)) != (0 : Int)) == Bool.false))
        (br (((decide ((Go.Abs.Ship.csN bs st (1000 : Int) (Go.Abs.Ship.givenL bs st bys)) ≥ (Go.Abs.Ship.fewestOf bs))) == Bool.true))
         (br ((((Go.Abs.Ship.riseErr bs st fl (Go.Abs.Ship.listed (Int.toNat bits) (Int.toNat (((List.length bs) : Nat) : Int)))) != (0 : Int)) == Bool.false))
          (br (((decide ((Go.Abs.Ship.csN bs st (1000 : Int) (Go.Abs.Ship.givenL bs st bys)) ≥ (Go.Abs.Ship.riseN bs st fl (Go.Abs.Ship.listed (Int.toNat bits) (Int.toNat (((List.length bs) : Nat) : Int)))))) == Bool.true))
           (br ((((Go.Abs.Ship.riseErr bs st fl (Go.Abs.Ship.listed (Int.toNat bits) (Int.toNat (((List.length bs) : Nat) : Int)))) != (0 : Int)) == Bool.false))
            (br (((decide ((Go.Abs.Ship.riseN bs st fl (Go.Abs.Ship.listed (Int.toNat bits) (Int.toNat (((List.length bs) : Nat) : Int)))) ≤ (Go.Abs.Ship.fewestOf bs))) == Bool.true))
             ((Go.Abs.Ship.v18.p ()) ∧
             (k (Go.Abs.AVal.bool Bool.true) []))
             ((k (Go.Abs.AVal.bool Bool.false) [])))
            ((Go.Abs.Ship.v18.p ()) ∧
            (k (Go.Abs.AVal.bool Bool.true) [])))
           ((k (Go.Abs.AVal.bool Bool.false) [])))
          (br ((((Go.Abs.Ship.riseErr bs st fl (Go.Abs.Ship.listed (Int.toNat bits) (Int.toNat (((List.length bs) : Nat) : Int)))) != (0 : Int)) == Bool.false))
           (br (((decide ((Go.Abs.Ship.riseN bs st fl (Go.Abs.Ship.listed (Int.toNat bits) (Int.toNat (((List.length bs) : Nat) : Int)))) ≤ (Go.Abs.Ship.fewestOf bs))) == Bool.true))
            ((Go.Abs.Ship.v18.p ()) ∧
            (k (Go.Abs.AVal.bool Bool.true) []))
            ((k (Go.Abs.AVal.bool Bool.false) [])))
           ((Go.Abs.Ship.v18.p ()) ∧
           (k (Go.Abs.AVal.bool Bool.true) []))))
         ((k (Go.Abs.AVal.bool Bool.false) [])))
        (br ((((Go.Abs.Ship.riseErr bs st fl (Go.Abs.Ship.listed (Int.toNat bits) (Int.toNat (((List.length bs) : Nat) : Int)))) != (0 : Int)) == Bool.false))
         (br (((decide ((Go.Abs.Ship.riseN bs st fl (Go.Abs.Ship.listed (Int.toNat bits) (Int.toNat (((List.length bs) : Nat) : Int)))) ≤ (Go.Abs.Ship.fewestOf bs))) == Bool.true))
          ((Go.Abs.Ship.v18.p ()) ∧
          (k (Go.Abs.AVal.bool Bool.true) []))
          ((k (Go.Abs.AVal.bool Bool.false) [])))
         ((Go.Abs.Ship.v18.p ()) ∧
         (k (Go.Abs.AVal.bool Bool.true) [])))))
      ((k (Go.Abs.AVal.bool Bool.false) [])))
     (br ((((Go.Abs.Ship.riseErr bs st fl (Go.Abs.Ship.listed (Int.toNat bits) (Int.toNat (((List.length bs) : Nat) : Int)))) != (0 : Int)) == Bool.true))
      (br (((Go.Abs.Ship.riseErr bs st fl (Go.Abs.Ship.listed (Int.toNat bits) (Int.toNat (((List.length bs) : Nat) : Int)))) != (16 : Int)))
       ((k (Go.Abs.AVal.bool Bool.false) []))
       (br ((((Go.Abs.Ship.csErr bs st (1000 : Int) (Go.Abs.Ship.givenL bs st bys)) != (0 : Int)) == Bool.false))
        (br (((decide ((Go.Abs.Ship.csN bs st (1000 : Int) (Go.Abs.Ship.givenL bs st bys)) ≥ (Go.Abs.Ship.fewestOf bs))) == Bool.true))
         (br ((((Go.Abs.Ship.riseErr bs st fl (Go.Abs.Ship.listed (Int.toNat bits) (Int.toNat (((List.length bs) : Nat) : Int)))) != (0 : Int)) == Bool.false))
          (br (((decide ((Go.Abs.Ship.csN bs st (1000 : Int) (Go.Abs.Ship.givenL bs st bys)) ≥ (Go.Abs.Ship.riseN bs st fl (Go.Abs.Ship.listed (Int.toNat bits) (Int.toNat (((List.length bs) : Nat) : Int)))))) == Bool.true))
           (br ((((Go.Abs.Ship.riseErr bs st fl (Go.Abs.Ship.listed (Int.toNat bits) (Int.toNat (((List.length bs) : Nat) : Int)))) != (0 : Int)) == Bool.false))
            (br (((decide ((Go.Abs.Ship.riseN bs st fl (Go.Abs.Ship.listed (Int.toNat bits) (Int.toNat (((List.length bs) : Nat) : Int)))) ≤ (Go.Abs.Ship.fewestOf bs))) == Bool.true))
             ((Go.Abs.Ship.v18.p ()) ∧
             (k (Go.Abs.AVal.bool Bool.true) []))
             ((k (Go.Abs.AVal.bool Bool.false) [])))
            ((Go.Abs.Ship.v18.p ()) ∧
            (k (Go.Abs.AVal.bool Bool.true) [])))
           ((k (Go.Abs.AVal.bool Bool.false) [])))
          (br ((((Go.Abs.Ship.riseErr bs st fl (Go.Abs.Ship.listed (Int.toNat bits) (Int.toNat (((List.length bs) : Nat) : Int)))) != (0 : Int)) == Bool.false))
           (br (((decide ((Go.Abs.Ship.riseN bs st fl (Go.Abs.Ship.listed (Int.toNat bits) (Int.toNat (((List.length bs) : Nat) : Int)))) ≤ (Go.Abs.Ship.fewestOf bs))) == Bool.true))
            ((Go.Abs.Ship.v18.p ()) ∧
            (k (Go.Abs.AVal.bool Bool.true) []))
            ((k (Go.Abs.AVal.bool Bool.false) [])))
           ((Go.Abs.Ship.v18.p ()) ∧
           (k (Go.Abs.AVal.bool Bool.true) []))))
         ((k (Go.Abs.AVal.bool Bool.false) [])))
        (br ((((Go.Abs.Ship.riseErr bs st fl (Go.Abs.Ship.listed (Int.toNat bits) (Int.toNat (((List.length bs) : Nat) : Int)))) != (0 : Int)) == Bool.false))
         (br (((decide ((Go.Abs.Ship.riseN bs st fl (Go.Abs.Ship.listed (Int.toNat bits) (Int.toNat (((List.length bs) : Nat) : Int)))) ≤ (Go.Abs.Ship.fewestOf bs))) == Bool.true))
          ((Go.Abs.Ship.v18.p ()) ∧
          (k (Go.Abs.AVal.bool Bool.true) []))
          ((k (Go.Abs.AVal.bool Bool.false) [])))
         ((Go.Abs.Ship.v18.p ()) ∧
         (k (Go.Abs.AVal.bool Bool.true) [])))))
      (br ((((Go.Abs.Ship.csErr bs st (1000 : Int) (Go.Abs.Ship.givenL bs st bys)) != (0 : Int)) == Bool.false))
       (br (((decide ((Go.Abs.Ship.csN bs st (1000 : Int) (Go.Abs.Ship.givenL bs st bys)) ≥ (Go.Abs.Ship.fewestOf bs))) == Bool.true))
        (br ((((Go.Abs.Ship.riseErr bs st fl (Go.Abs.Ship.listed (Int.toNat bits) (Int.toNat (((List.length bs) : Nat) : Int)))) != (0 : Int)) == Bool.false))
         (br (((decide ((Go.Abs.Ship.csN bs st (1000 : Int) (Go.Abs.Ship.givenL bs st bys)) ≥ (Go.Abs.Ship.riseN bs st fl (Go.Abs.Ship.listed (Int.toNat bits) (Int.toNat (((List.length bs) : Nat) : Int)))))) == Bool.true))
          (br ((((Go.Abs.Ship.riseErr bs st fl (Go.Abs.Ship.listed (Int.toNat bits) (Int.toNat (((List.length bs) : Nat) : Int)))) != (0 : Int)) == Bool.false))
           (br (((decide ((Go.Abs.Ship.riseN bs st fl (Go.Abs.Ship.listed (Int.toNat bits) (Int.toNat (((List.length bs) : Nat) : Int)))) ≤ (Go.Abs.Ship.fewestOf bs))) == Bool.true))
            ((Go.Abs.Ship.v18.p ()) ∧
            (k (Go.Abs.AVal.bool Bool.true) []))
            ((k (Go.Abs.AVal.bool Bool.false) [])))
           ((Go.Abs.Ship.v18.p ()) ∧
           (k (Go.Abs.AVal.bool Bool.true) [])))
          ((k (Go.Abs.AVal.bool Bool.false) [])))
         (br ((((Go.Abs.Ship.riseErr bs st fl (Go.Abs.Ship.listed (Int.toNat bits) (Int.toNat (((List.length bs) : Nat) : Int)))) != (0 : Int)) == Bool.false))
          (br (((decide ((Go.Abs.Ship.riseN bs st fl (Go.Abs.Ship.listed (Int.toNat bits) (Int.toNat (((List.length bs) : Nat) : Int)))) ≤ (Go.Abs.Ship.fewestOf bs))) == Bool.true))
           ((Go.Abs.Ship.v18.p ()) ∧
           (k (Go.Abs.AVal.bool Bool.true) []))
           ((k (Go.Abs.AVal.bool Bool.false) [])))
          ((Go.Abs.Ship.v18.p ()) ∧
          (k (Go.Abs.AVal.bool Bool.true) []))))
        ((k (Go.Abs.AVal.bool Bool.false) [])))
       (br ((((Go.Abs.Ship.riseErr bs st fl (Go.Abs.Ship.listed (Int.toNat bits) (Int.toNat (((List.length bs) : Nat) : Int)))) != (0 : Int)) == Bool.false))
        (br (((decide ((Go.Abs.Ship.riseN bs st fl (Go.Abs.Ship.listed (Int.toNat bits) (Int.toNat (((List.length bs) : Nat) : Int)))) ≤ (Go.Abs.Ship.fewestOf bs))) == Bool.true))
         ((Go.Abs.Ship.v18.p ()) ∧
         (k (Go.Abs.AVal.bool Bool.true) []))
         ((k (Go.Abs.AVal.bool Bool.false) [])))
        ((Go.Abs.Ship.v18.p ()) ∧
        (k (Go.Abs.AVal.bool Bool.true) [])))))))
   ((Go.Abs.Ship.v18.p ()) ∧
   (k (Go.Abs.AVal.bool Bool.true) []))
theorem eq7 (bs : List (Int × Int)) (st fl : Int) (bys : List Int) (bits : Int) (k : AVal → List Cont → Prop) : awpF (envOf [(40, mkC [v40]), (18, mkC [v18]), (41, mkC [v41]), (42, mkC [v42]), (43, mkC [v43]), (19, mkC [v19]), (44, mkC [v44]), (25, mkC [v25])]) Try.prog kt 7 false Try.f7 (v7.args (bs, st, fl, bys, bits, ())) (v7.conts (bs, st, fl, bys, bits, ())) k = vc7 bs st fl bys bits k := by kernel_rfl
theorem tx7 : (Try.f7.body.map Code.textsOk).getD true = true := by kernel_rfl

def vc8 (bs : List (Int × Int)) (st fl : Int) (bys : List Int) (k : AVal → List Cont → Prop) : Prop :=
  (Go.Abs.Ship.v40.p (bs, (st, (fl, ())))) ∧
  br (((Bool.not (Go.Abs.Ship.fine bs st fl)) == Bool.false))
   (br ((decide ((((List.length bys) : Nat) : Int) > (20 : Int))))
    ((Go.Abs.Ship.v18.p ()) ∧
    (k (Go.Abs.AVal.bool Bool.true) []))
    ((Go.Abs.Ship.v32.p (bs, (st, (fl, ())))) ∧
    (Go.Abs.Ship.v43.p (bs, (st, (fl, (bys, ()))))) ∧
    (Go.Abs.Ship.v19.p (bs, (st, (fl, ((Go.Abs.Ship.givenL bs st bys), ()))))) ∧
    (Go.Abs.Ship.v41.p (bs, (st, (fl, ())))) ∧
    br ((decide ((Go.Abs.Ship.fewestOf bs) ≤ (5 : Int))))
     ((Go.Abs.Ship.v42.p ((ite ((Go.Abs.Ship.fewestOf bs) > (1 : Int)) (Go.Abs.Ship.fewestOf bs) (1 : Int)), ((1000 : Int), (bs, ())))) ∧
     (Go.Abs.Ship.v32.p (bs, ((ite ((Go.Abs.Ship.fewestOf bs) > (1 : Int)) (Go.Abs.Ship.fewestOf bs) (1 : Int)), ((1000 : Int), ())))) ∧
     br ((((Go.Abs.Ship.stowE bs (ite ((Go.Abs.Ship.fewestOf bs) > (1 : Int)) (Go.Abs.Ship.fewestOf bs) (1 : Int)) (1000 : Int)) != (0 : Int)) == Bool.false))
      ((Go.Abs.Ship.v45.p (bs, ((Go.Abs.Ship.stowL bs (ite ((Go.Abs.Ship.fewestOf bs) > (1 : Int)) (Go.Abs.Ship.fewestOf bs) (1 : Int)) (1000 : Int)), ()))) ∧
      br (((Bool.not (Go.Abs.Ship.smoothB bs (Go.Abs.Ship.stowL bs (ite ((Go.Abs.Ship.fewestOf bs) > (1 : Int)) (Go.Abs.Ship.fewestOf bs) (1 : Int)) (1000 : Int)))) == Bool.false))
       (br (((((List.length (Go.Abs.Ship.stowL bs (ite ((Go.Abs.Ship.fewestOf bs) > (1 : Int)) (Go.Abs.Ship.fewestOf bs) (1 : Int)) (1000 : Int))) : Nat) : Int) != (((List.length bs) : Nat) : Int)))
        ((k (Go.Abs.AVal.bool Bool.false) []))
        (br (((Go.Abs.Ship.stowE bs st fl) != (0 : Int)))
         (br ((((Go.Abs.Ship.stowE bs st fl) == (23 : Int)) == Bool.true))
          (br ((((((List.length (Go.Abs.Ship.stowL bs st fl)) : Nat) : Int) == (0 : Int)) == Bool.true))
           (br ((((Go.Abs.Ship.csErr bs st fl (Go.Abs.Ship.givenL bs st bys)) != (0 : Int)) == Bool.true))
            ((Go.Abs.Ship.v18.p ()) ∧
            (k (Go.Abs.AVal.bool Bool.true) []))
            ((k (Go.Abs.AVal.bool Bool.false) [])))
           ((k (Go.Abs.AVal.bool Bool.false) [])))
          ((k (Go.Abs.AVal.bool Bool.false) [])))
         ((Go.Abs.Ship.v19.p (bs, (st, (fl, ((Go.Abs.Ship.stowL bs st fl), ()))))) ∧
         (Go.Abs.Ship.v20.p (bs, (st, (fl, ((Go.Abs.Ship.stowL bs st fl), ()))))) ∧
         br ((((Go.Abs.Ship.csErr bs st fl (Go.Abs.Ship.stowL bs st fl)) == (0 : Int)) == Bool.true))
          (br ((((Go.Abs.Ship.csErr bs st fl (Go.Abs.Ship.stowL bs st fl)) == (0 : Int)) == Bool.true))
           (br ((((Go.Abs.Ship.csErr bs st fl (Go.Abs.Ship.givenL bs st bys)) != (0 : Int)) == Bool.false))
            ((Go.Abs.Ship.v46.p ((Go.Abs.Ship.givenL bs st bys), ((Go.Abs.Ship.stowL bs st fl), ()))) ∧
            br (((Bool.not (Go.Abs.Ship.earlier (Go.Abs.Ship.givenL bs st bys) (Go.Abs.Ship.stowL bs st fl))) == Bool.true))
             (br (((decide ((Go.Abs.Ship.fewestOf bs) ≤ st)) == Bool.true))
              ((Go.Abs.Ship.v18.p ()) ∧
              (k (Go.Abs.AVal.bool Bool.true) []))
              ((k (Go.Abs.AVal.bool Bool.false) [])))
             ((k (Go.Abs.AVal.bool Bool.false) [])))
            (br (((decide ((Go.Abs.Ship.fewestOf bs) ≤ st)) == Bool.true))
             ((Go.Abs.Ship.v18.p ()) ∧
             (k (Go.Abs.AVal.bool Bool.true) []))
             ((k (Go.Abs.AVal.bool Bool.false) []))))
           ((k (Go.Abs.AVal.bool Bool.false) [])))
          ((k (Go.Abs.AVal.bool Bool.false) [])))))
       ((k (Go.Abs.AVal.bool Bool.false) [])))
      ((k (Go.Abs.AVal.bool Bool.false) [])))
     (br (((Go.Abs.Ship.stowE bs st fl) != (0 : Int)))
      (br ((((Go.Abs.Ship.stowE bs st fl) == (23 : Int)) == Bool.true))
       (br ((((((List.length (Go.Abs.Ship.stowL bs st fl)) : Nat) : Int) == (0 : Int)) == Bool.true))
        (br ((((Go.Abs.Ship.csErr bs st fl (Go.Abs.Ship.givenL bs st bys)) != (0 : Int)) == Bool.true))
         ((Go.Abs.Ship.v18.p ()) ∧
         (k (Go.Abs.AVal.bool Bool.true) []))
         ((k (Go.Abs.AVal.bool Bool.false) [])))
        ((k (Go.Abs.AVal.bool Bool.false) [])))
       ((k (Go.Abs.AVal.bool Bool.false) [])))
      ((Go.Abs.Ship.v19.p (bs, (st, (fl, ((Go.Abs.Ship.stowL bs st fl), ()))))) ∧
      (Go.Abs.Ship.v20.p (bs, (st, (fl, ((Go.Abs.Ship.stowL bs st fl), ()))))) ∧
      br ((((Go.Abs.Ship.csErr bs st fl (Go.Abs.Ship.stowL bs st fl)) == (0 : Int)) == Bool.true))
       (br ((((Go.Abs.Ship.csErr bs st fl (Go.Abs.Ship.stowL bs st fl)) == (0 : Int)) == Bool.true))
        (br ((((Go.Abs.Ship.csErr bs st fl (Go.Abs.Ship.givenL bs st bys)) != (0 : Int)) == Bool.false))
         ((Go.Abs.Ship.v46.p ((Go.Abs.Ship.givenL bs st bys), ((Go.Abs.Ship.stowL bs st fl), ()))) ∧
         br (((Bool.not (Go.Abs.Ship.earlier (Go.Abs.Ship.givenL bs st bys) (Go.Abs.Ship.stowL bs st fl))) == Bool.true))
          (br (((decide ((Go.Abs.Ship.fewestOf bs) ≤ st)) == Bool.true))
           ((Go.Abs.Ship.v18.p ()) ∧
           (k (Go.Abs.AVal.bool Bool.true) []))
           ((k (Go.Abs.AVal.bool Bool.false) [])))
          ((k (Go.Abs.AVal.bool Bool.false) [])))
         (br (((decide ((Go.Abs.Ship.fewestOf bs) ≤ st)) == Bool.true))
          ((Go.Abs.Ship.v18.p ()) ∧
          (k (Go.Abs.AVal.bool Bool.true) []))
          ((k (Go.Abs.AVal.bool Bool.false) []))))
        ((k (Go.Abs.AVal.bool Bool.false) [])))
       ((k (Go.Abs.AVal.bool Bool.false) []))))))
   ((Go.Abs.Ship.v18.p ()) ∧
   (k (Go.Abs.AVal.bool Bool.true) []))
theorem eq8 (bs : List (Int × Int)) (st fl : Int) (bys : List Int) (k : AVal → List Cont → Prop) : awpF (envOf [(40, mkC [v40]), (18, mkC [v18]), (32, mkC [v32]), (43, mkC [v43]), (19, mkC [v19]), (41, mkC [v41]), (42, mkC [v42]), (45, mkC [v45]), (20, mkC [v20]), (46, mkC [v46])]) Try.prog kt 8 false Try.f8 (v8.args (bs, st, fl, bys, ())) (v8.conts (bs, st, fl, bys, ())) k = vc8 bs st fl bys k := by kernel_rfl
theorem tx8 : (Try.f8.body.map Code.textsOk).getD true = true := by kernel_rfl

def vc9 (bs : List (Int × Int)) (st fl : Int) (bys : List Int) (k : AVal → List Cont → Prop) : Prop :=
  (Go.Abs.Ship.v40.p (bs, (st, (fl, ())))) ∧
  br (((Bool.not (Go.Abs.Ship.fine bs st fl)) == Bool.false))
   (br ((decide ((((List.length bys) : Nat) : Int) > (20 : Int))))
    ((Go.Abs.Ship.v18.p ()) ∧
    (k (Go.Abs.AVal.bool Bool.true) []))
    ((Go.Abs.Ship.v32.p (bs, (st, (fl, ())))) ∧
    (Go.Abs.Ship.v43.p (bs, (st, (fl, (bys, ()))))) ∧
    (Go.Abs.Ship.v19.p (bs, (st, (fl, ((Go.Abs.Ship.givenL bs st bys), ()))))) ∧
    Go.Abs.Loop (σ := ((List Int) × ((List Int) × (Int × (Int × (Int × ((List (Int × Int)) × (Int × (Int × ((List Int) × ((List Int) × ((List Int) × Unit)))))))))))) (fun K5 x5 =>
      br ((decide (x5.2.2.2.2.1 < (((List.length x5.2.2.2.2.2.1) : Nat) : Int))))
       ((Go.Abs.Ship.v34.p (x5.2.2.2.2.2.1, (x5.2.2.2.2.2.2.1, (x5.2.2.2.2.2.2.2.1, (x5.2.2.2.2.2.2.2.2.1, ()))))) ∧
       (Go.Abs.Ship.v34.p (x5.2.2.2.2.2.1, (x5.2.2.2.2.2.2.1, (x5.2.2.2.2.2.2.2.1, (x5.2.2.2.2.2.2.2.2.2.1, ()))))) ∧
       (((0 : Int) ≤ x5.2.2.2.2.1) ∧ (x5.2.2.2.2.1 ≤ (((List.length x5.2.2.2.2.2.2.2.2.2.2.1) : Nat) : Int))) ∧
       (Go.Abs.Ship.v34.p (x5.2.2.2.2.2.1, (x5.2.2.2.2.2.2.1, (x5.2.2.2.2.2.2.2.1, ((List.take (Int.toNat x5.2.2.2.2.1) (List.drop (0 : Nat) x5.2.2.2.2.2.2.2.2.2.2.1)), ()))))) ∧
       br ((((Go.Abs.Ship.chE x5.2.2.2.2.2.1 x5.2.2.2.2.2.2.1 x5.2.2.2.2.2.2.2.1 x5.2.2.2.2.2.2.2.2.1) != (0 : Int)) == Bool.false))
        (br ((((Go.Abs.Ship.chE x5.2.2.2.2.2.1 x5.2.2.2.2.2.2.1 x5.2.2.2.2.2.2.2.1 x5.2.2.2.2.2.2.2.2.2.1) != (0 : Int)) == Bool.false))
         (br ((((Go.Abs.Ship.chE x5.2.2.2.2.2.1 x5.2.2.2.2.2.2.1 x5.2.2.2.2.2.2.2.1 (List.take (Int.toNat x5.2.2.2.2.1) (List.drop (0 : Nat) x5.2.2.2.2.2.2.2.2.2.2.1))) != (0 : Int)) == Bool.false))
          ((Go.Abs.Ship.v47.p ((Go.Abs.Ship.chL x5.2.2.2.2.2.1 x5.2.2.2.2.2.2.1 x5.2.2.2.2.2.2.2.1 x5.2.2.2.2.2.2.2.2.1), (x5.2.2.2.2.2.2.1, ()))) ∧
          br (((Bool.not (Go.Abs.Ship.isList (Go.Abs.Ship.chL x5.2.2.2.2.2.1 x5.2.2.2.2.2.2.1 x5.2.2.2.2.2.2.2.1 x5.2.2.2.2.2.2.2.2.1) x5.2.2.2.2.2.2.1)) == Bool.false))
           ((Go.Abs.Ship.v47.p ((Go.Abs.Ship.chL x5.2.2.2.2.2.1 x5.2.2.2.2.2.2.1 x5.2.2.2.2.2.2.2.1 x5.2.2.2.2.2.2.2.2.2.1), (x5.2.2.2.2.2.2.1, ()))) ∧
           br ((Bool.not (Go.Abs.Ship.isList (Go.Abs.Ship.chL x5.2.2.2.2.2.1 x5.2.2.2.2.2.2.1 x5.2.2.2.2.2.2.2.1 x5.2.2.2.2.2.2.2.2.2.1) x5.2.2.2.2.2.2.1)))
            ((k (Go.Abs.AVal.bool Bool.false) []))
            (br ((x5.2.2.1 != (0 : Int)))
             (br (((x5.2.2.1 == (23 : Int)) == Bool.true))
              (br ((((((List.length (Go.Abs.Ship.chL x5.2.2.2.2.2.1 x5.2.2.2.2.2.2.1 x5.2.2.2.2.2.2.2.1 x5.2.2.2.2.2.2.2.2.1)) : Nat) : Int) == (0 : Int)) == Bool.true))
               (br ((((((List.length (Go.Abs.Ship.chL x5.2.2.2.2.2.1 x5.2.2.2.2.2.2.1 x5.2.2.2.2.2.2.2.1 (List.take (Int.toNat x5.2.2.2.2.1) (List.drop (0 : Nat) x5.2.2.2.2.2.2.2.2.2.2.1)))) : Nat) : Int) == (0 : Int)) == Bool.true))
                (br (((x5.2.2.2.1 != (0 : Int)) == Bool.true))
                 ((Go.Abs.Ship.v18.p ()) ∧
                 (k (Go.Abs.AVal.bool Bool.true) []))
                 ((k (Go.Abs.AVal.bool Bool.false) [])))
                ((k (Go.Abs.AVal.bool Bool.false) [])))
               ((k (Go.Abs.AVal.bool Bool.false) [])))
              ((k (Go.Abs.AVal.bool Bool.false) [])))
             (br ((((((List.length (Go.Abs.Ship.chL x5.2.2.2.2.2.1 x5.2.2.2.2.2.2.1 x5.2.2.2.2.2.2.2.1 x5.2.2.2.2.2.2.2.2.1)) : Nat) : Int) == (0 : Int)) == Bool.false))
              (br (((((List.length (Go.Abs.Ship.chL x5.2.2.2.2.2.1 x5.2.2.2.2.2.2.1 x5.2.2.2.2.2.2.2.1 x5.2.2.2.2.2.2.2.2.2.1)) : Nat) : Int) == (0 : Int)))
               ((k (Go.Abs.AVal.bool Bool.false) []))
               (Go.Abs.Loop (σ := ((List Int) × ((List Int) × (Int × (Int × (Int × (Bool × (Int × ((List (Int × Int)) × (Int × (Int × ((List Int) × ((List Int) × ((List Int) × ((List Int) × ((List Int) × ((List Int) × Unit))))))))))))))))) (fun K7 x7 =>
                 br ((decide (x7.2.2.2.2.2.2.1 < (((List.length x7.2.2.2.2.2.2.2.2.2.2.2.2.2.2.2.1) : Nat) : Int))))
                  (br ((x7.2.2.2.2.2.1 == Bool.false))
                   ((((0 : Int) ≤ x7.2.2.2.2.2.2.1) ∧ ((Int.toNat x7.2.2.2.2.2.2.1) < (List.length x7.2.2.2.2.2.2.2.2.2.2.2.2.2.2.2.1))) ∧
                   ∃ h9 : ((Int.toNat x7.2.2.2.2.2.2.1) < (List.length x7.2.2.2.2.2.2.2.2.2.2.2.2.2.2.2.1)),
                   (((0 : Int) ≤ x7.2.2.2.2.1) ∧ ((Int.toNat x7.2.2.2.2.1) < (List.length x7.2.2.2.2.2.2.2.2.2.2.2.2.1))) ∧
                   ∃ h10 : ((Int.toNat x7.2.2.2.2.1) < (List.length x7.2.2.2.2.2.2.2.2.2.2.2.2.1)),
                   (Go.Abs.fitsK Go.IntKind.i64 (x7.2.2.2.2.2.2.1 + (1 : Int))) ∧
                   (K7 (x7.1, (x7.2.1, (x7.2.2.1, (x7.2.2.2.1, (x7.2.2.2.2.1, (((x7.2.2.2.2.2.2.2.2.2.2.2.2.2.2.2.1[(Int.toNat x7.2.2.2.2.2.2.1)]'h9) == (x7.2.2.2.2.2.2.2.2.2.2.2.2.1[(Int.toNat x7.2.2.2.2.1)]'h10)), ((x7.2.2.2.2.2.2.1 + (1 : Int)), (x7.2.2.2.2.2.2.2.1, (x7.2.2.2.2.2.2.2.2.1, (x7.2.2.2.2.2.2.2.2.2.1, (x7.2.2.2.2.2.2.2.2.2.2.1, (x7.2.2.2.2.2.2.2.2.2.2.2.1, (x7.2.2.2.2.2.2.2.2.2.2.2.2.1, (x7.2.2.2.2.2.2.2.2.2.2.2.2.2.1, (x7.2.2.2.2.2.2.2.2.2.2.2.2.2.2.1, (x7.2.2.2.2.2.2.2.2.2.2.2.2.2.2.2.1, ()))))))))))))))))))
                   ((Go.Abs.fitsK Go.IntKind.i64 (x7.2.2.2.2.2.2.1 + (1 : Int))) ∧
                   (K7 (x7.1, (x7.2.1, (x7.2.2.1, (x7.2.2.2.1, (x7.2.2.2.2.1, (Bool.true, ((x7.2.2.2.2.2.2.1 + (1 : Int)), (x7.2.2.2.2.2.2.2.1, (x7.2.2.2.2.2.2.2.2.1, (x7.2.2.2.2.2.2.2.2.2.1, (x7.2.2.2.2.2.2.2.2.2.2.1, (x7.2.2.2.2.2.2.2.2.2.2.2.1, (x7.2.2.2.2.2.2.2.2.2.2.2.2.1, (x7.2.2.2.2.2.2.2.2.2.2.2.2.2.1, (x7.2.2.2.2.2.2.2.2.2.2.2.2.2.2.1, (x7.2.2.2.2.2.2.2.2.2.2.2.2.2.2.2.1, ())))))))))))))))))))
                  (br (((x7.2.2.2.1 == (0 : Int)) == Bool.true))
                   (br ((Bool.not x7.2.2.2.2.2.1))
                    ((k (Go.Abs.AVal.bool Bool.false) []))
                    (br ((decide ((((List.length x7.1) : Nat) : Int) > (0 : Int))))
                     ((((0 : Int) ≤ x7.2.2.2.2.1) ∧ ((0 : Int) < (((List.length x7.1) : Nat) : Int))) ∧
                     ∃ h9 : (((0 : Int) ≤ (HMod.hMod x7.2.2.2.2.1 (((List.length x7.1) : Nat) : Int))) ∧ ((Int.toNat (HMod.hMod x7.2.2.2.2.1 (((List.length x7.1) : Nat) : Int))) < (List.length x7.1))),
                     (Go.Abs.fitsK Go.IntKind.i64 (x7.1[(Int.toNat (HMod.hMod x7.2.2.2.2.1 (((List.length x7.1) : Nat) : Int)))]'h9.2)) ∧
                     (((0 : Int) ≤ (x7.1[(Int.toNat (HMod.hMod x7.2.2.2.2.1 (((List.length x7.1) : Nat) : Int)))]'h9.2)) ∧ ((0 : Int) < (((List.length x7.2.2.2.2.2.2.2.2.2.2.2.2.2.1) : Nat) : Int))) ∧
                     (((0 : Int) ≤ (HMod.hMod (x7.1[(Int.toNat (HMod.hMod x7.2.2.2.2.1 (((List.length x7.1) : Nat) : Int)))]'h9.2) (((List.length x7.2.2.2.2.2.2.2.2.2.2.2.2.2.1) : Nat) : Int))) ∧ ((Int.toNat (HMod.hMod (x7.1[(Int.toNat (HMod.hMod x7.2.2.2.2.1 (((List.length x7.1) : Nat) : Int)))]'h9.2) (((List.length x7.2.2.2.2.2.2.2.2.2.2.2.2.2.1) : Nat) : Int))) < (List.length x7.2.2.2.2.2.2.2.2.2.2.2.2.2.1))) ∧
                     ∃ h10 : ((Int.toNat (HMod.hMod (x7.1[(Int.toNat (HMod.hMod x7.2.2.2.2.1 (((List.length x7.1) : Nat) : Int)))]'h9.2) (((List.length x7.2.2.2.2.2.2.2.2.2.2.2.2.2.1) : Nat) : Int))) < (List.length x7.2.2.2.2.2.2.2.2.2.2.2.2.2.1)),
                     (((List.length x7.2.2.2.2.2.2.2.2.2.2.1) + (List.length ((x7.2.2.2.2.2.2.2.2.2.2.2.2.2.1[(Int.toNat (HMod.hMod (x7.1[(Int.toNat (HMod.hMod x7.2.2.2.2.1 (((List.length x7.1) : Nat) : Int)))]'h9.2) (((List.length x7.2.2.2.2.2.2.2.2.2.2.2.2.2.1) : Nat) : Int)))]'h10) :: ([] : List Int)))) ≤ Go.Abs.big) ∧
                     (((0 : Int) ≤ (0 : Int)) ∧ ((Int.toNat (0 : Int)) < (List.length x7.2.2.2.2.2.2.2.2.2.2.2.2.2.2.1))) ∧
                     ∃ h11 : ((Int.toNat (0 : Int)) < (List.length x7.2.2.2.2.2.2.2.2.2.2.2.2.2.2.1)),
                     (((List.length x7.2.2.2.2.2.2.2.2.2.2.2.1) + (List.length ((x7.2.2.2.2.2.2.2.2.2.2.2.2.2.2.1[(Int.toNat (0 : Int))]'h11) :: ([] : List Int)))) ≤ Go.Abs.big) ∧
                     (Go.Abs.fitsK Go.IntKind.i64 (x7.2.2.2.2.1 + (1 : Int))) ∧
                     (K5 (x7.1, (x7.2.1, (x7.2.2.1, (x7.2.2.2.1, ((x7.2.2.2.2.1 + (1 : Int)), (x7.2.2.2.2.2.2.2.1, (x7.2.2.2.2.2.2.2.2.1, (x7.2.2.2.2.2.2.2.2.2.1, ((x7.2.2.2.2.2.2.2.2.2.2.1 ++ ((x7.2.2.2.2.2.2.2.2.2.2.2.2.2.1[(Int.toNat (HMod.hMod (x7.1[(Int.toNat (HMod.hMod x7.2.2.2.2.1 (((List.length x7.1) : Nat) : Int)))]'h9.2) (((List.length x7.2.2.2.2.2.2.2.2.2.2.2.2.2.1) : Nat) : Int)))]'h10) :: ([] : List Int))), ((x7.2.2.2.2.2.2.2.2.2.2.2.1 ++ ((x7.2.2.2.2.2.2.2.2.2.2.2.2.2.2.1[(Int.toNat (0 : Int))]'h11) :: ([] : List Int))), (x7.2.2.2.2.2.2.2.2.2.2.2.2.1, ())))))))))))))
                     ((((0 : Int) ≤ (0 : Int)) ∧ ((0 : Int) < (((List.length x7.2.2.2.2.2.2.2.2.2.2.2.2.2.1) : Nat) : Int))) ∧
                     (((0 : Int) ≤ (HMod.hMod (0 : Int) (((List.length x7.2.2.2.2.2.2.2.2.2.2.2.2.2.1) : Nat) : Int))) ∧ ((Int.toNat (HMod.hMod (0 : Int) (((List.length x7.2.2.2.2.2.2.2.2.2.2.2.2.2.1) : Nat) : Int))) < (List.length x7.2.2.2.2.2.2.2.2.2.2.2.2.2.1))) ∧
                     ∃ h9 : ((Int.toNat (HMod.hMod (0 : Int) (((List.length x7.2.2.2.2.2.2.2.2.2.2.2.2.2.1) : Nat) : Int))) < (List.length x7.2.2.2.2.2.2.2.2.2.2.2.2.2.1)),
                     (((List.length x7.2.2.2.2.2.2.2.2.2.2.1) + (List.length ((x7.2.2.2.2.2.2.2.2.2.2.2.2.2.1[(Int.toNat (HMod.hMod (0 : Int) (((List.length x7.2.2.2.2.2.2.2.2.2.2.2.2.2.1) : Nat) : Int)))]'h9) :: ([] : List Int)))) ≤ Go.Abs.big) ∧
                     (((0 : Int) ≤ (0 : Int)) ∧ ((Int.toNat (0 : Int)) < (List.length x7.2.2.2.2.2.2.2.2.2.2.2.2.2.2.1))) ∧
                     ∃ h10 : ((Int.toNat (0 : Int)) < (List.length x7.2.2.2.2.2.2.2.2.2.2.2.2.2.2.1)),
                     (((List.length x7.2.2.2.2.2.2.2.2.2.2.2.1) + (List.length ((x7.2.2.2.2.2.2.2.2.2.2.2.2.2.2.1[(Int.toNat (0 : Int))]'h10) :: ([] : List Int)))) ≤ Go.Abs.big) ∧
                     (Go.Abs.fitsK Go.IntKind.i64 (x7.2.2.2.2.1 + (1 : Int))) ∧
                     (K5 (x7.1, (x7.2.1, (x7.2.2.1, (x7.2.2.2.1, ((x7.2.2.2.2.1 + (1 : Int)), (x7.2.2.2.2.2.2.2.1, (x7.2.2.2.2.2.2.2.2.1, (x7.2.2.2.2.2.2.2.2.2.1, ((x7.2.2.2.2.2.2.2.2.2.2.1 ++ ((x7.2.2.2.2.2.2.2.2.2.2.2.2.2.1[(Int.toNat (HMod.hMod (0 : Int) (((List.length x7.2.2.2.2.2.2.2.2.2.2.2.2.2.1) : Nat) : Int)))]'h9) :: ([] : List Int))), ((x7.2.2.2.2.2.2.2.2.2.2.2.1 ++ ((x7.2.2.2.2.2.2.2.2.2.2.2.2.2.2.1[(Int.toNat (0 : Int))]'h10) :: ([] : List Int))), (x7.2.2.2.2.2.2.2.2.2.2.2.2.1, ())))))))))))))))
                   (br ((decide ((((List.length x7.1) : Nat) : Int) > (0 : Int))))
                    ((((0 : Int) ≤ x7.2.2.2.2.1) ∧ ((0 : Int) < (((List.length x7.1) : Nat) : Int))) ∧
                    ∃ h9 : (((0 : Int) ≤ (HMod.hMod x7.2.2.2.2.1 (((List.length x7.1) : Nat) : Int))) ∧ ((Int.toNat (HMod.hMod x7.2.2.2.2.1 (((List.length x7.1) : Nat) : Int))) < (List.length x7.1))),
                    (Go.Abs.fitsK Go.IntKind.i64 (x7.1[(Int.toNat (HMod.hMod x7.2.2.2.2.1 (((List.length x7.1) : Nat) : Int)))]'h9.2)) ∧
                    (((0 : Int) ≤ (x7.1[(Int.toNat (HMod.hMod x7.2.2.2.2.1 (((List.length x7.1) : Nat) : Int)))]'h9.2)) ∧ ((0 : Int) < (((List.length x7.2.2.2.2.2.2.2.2.2.2.2.2.2.1) : Nat) : Int))) ∧
                    (((0 : Int) ≤ (HMod.hMod (x7.1[(Int.toNat (HMod.hMod x7.2.2.2.2.1 (((List.length x7.1) : Nat) : Int)))]'h9.2) (((List.length x7.2.2.2.2.2.2.2.2.2.2.2.2.2.1) : Nat) : Int))) ∧ ((Int.toNat (HMod.hMod (x7.1[(Int.toNat (HMod.hMod x7.2.2.2.2.1 (((List.length x7.1) : Nat) : Int)))]'h9.2) (((List.length x7.2.2.2.2.2.2.2.2.2.2.2.2.2.1) : Nat) : Int))) < (List.length x7.2.2.2.2.2.2.2.2.2.2.2.2.2.1))) ∧
                    ∃ h10 : ((Int.toNat (HMod.hMod (x7.1[(Int.toNat (HMod.hMod x7.2.2.2.2.1 (((List.length x7.1) : Nat) : Int)))]'h9.2) (((List.length x7.2.2.2.2.2.2.2.2.2.2.2.2.2.1) : Nat) : Int))) < (List.length x7.2.2.2.2.2.2.2.2.2.2.2.2.2.1)),
                    (((List.length x7.2.2.2.2.2.2.2.2.2.2.1) + (List.length ((x7.2.2.2.2.2.2.2.2.2.2.2.2.2.1[(Int.toNat (HMod.hMod (x7.1[(Int.toNat (HMod.hMod x7.2.2.2.2.1 (((List.length x7.1) : Nat) : Int)))]'h9.2) (((List.length x7.2.2.2.2.2.2.2.2.2.2.2.2.2.1) : Nat) : Int)))]'h10) :: ([] : List Int)))) ≤ Go.Abs.big) ∧
                    (((0 : Int) ≤ (0 : Int)) ∧ ((Int.toNat (0 : Int)) < (List.length x7.2.2.2.2.2.2.2.2.2.2.2.2.2.2.1))) ∧
                    ∃ h11 : ((Int.toNat (0 : Int)) < (List.length x7.2.2.2.2.2.2.2.2.2.2.2.2.2.2.1)),
                    (((List.length x7.2.2.2.2.2.2.2.2.2.2.2.1) + (List.length ((x7.2.2.2.2.2.2.2.2.2.2.2.2.2.2.1[(Int.toNat (0 : Int))]'h11) :: ([] : List Int)))) ≤ Go.Abs.big) ∧
                    (Go.Abs.fitsK Go.IntKind.i64 (x7.2.2.2.2.1 + (1 : Int))) ∧
                    (K5 (x7.1, (x7.2.1, (x7.2.2.1, (x7.2.2.2.1, ((x7.2.2.2.2.1 + (1 : Int)), (x7.2.2.2.2.2.2.2.1, (x7.2.2.2.2.2.2.2.2.1, (x7.2.2.2.2.2.2.2.2.2.1, ((x7.2.2.2.2.2.2.2.2.2.2.1 ++ ((x7.2.2.2.2.2.2.2.2.2.2.2.2.2.1[(Int.toNat (HMod.hMod (x7.1[(Int.toNat (HMod.hMod x7.2.2.2.2.1 (((List.length x7.1) : Nat) : Int)))]'h9.2) (((List.length x7.2.2.2.2.2.2.2.2.2.2.2.2.2.1) : Nat) : Int)))]'h10) :: ([] : List Int))), ((x7.2.2.2.2.2.2.2.2.2.2.2.1 ++ ((x7.2.2.2.2.2.2.2.2.2.2.2.2.2.2.1[(Int.toNat (0 : Int))]'h11) :: ([] : List Int))), (x7.2.2.2.2.2.2.2.2.2.2.2.2.1, ())))))))))))))
                    ((((0 : Int) ≤ (0 : Int)) ∧ ((0 : Int) < (((List.length x7.2.2.2.2.2.2.2.2.2.2.2.2.2.1) : Nat) : Int))) ∧
                    (((0 : Int) ≤ (HMod.hMod (0 : Int) (((List.length x7.2.2.2.2.2.2.2.2.2.2.2.2.2.1) : Nat) : Int))) ∧ ((Int.toNat (HMod.hMod (0 : Int) (((List.length x7.2.2.2.2.2.2.2.2.2.2.2.2.2.1) : Nat) : Int))) < (List.length x7.2.2.2.2.2.2.2.2.2.2.2.2.2.1))) ∧
                    ∃ h9 : ((Int.toNat (HMod.hMod (0 : Int) (((List.length x7.2.2.2.2.2.2.2.2.2.2.2.2.2.1) : Nat) : Int))) < (List.length x7.2.2.2.2.2.2.2.2.2.2.2.2.2.1)),
                    (((List.length x7.2.2.2.2.2.2.2.2.2.2.1) + (List.length ((x7.2.2.2.2.2.2.2.2.2.2.2.2.2.1[(Int.toNat (HMod.hMod (0 : Int) (((List.length x7.2.2.2.2.2.2.2.2.2.2.2.2.2.1) : Nat) : Int)))]'h9) :: ([] : List Int)))) ≤ Go.Abs.big) ∧
                    (((0 : Int) ≤ (0 : Int)) ∧ ((Int.toNat (0 : Int)) < (List.length x7.2.2.2.2.2.2.2.2.2.2.2.2.2.2.1))) ∧
                    ∃ h10 : ((Int.toNat (0 : Int)) < (List.length x7.2.2.2.2.2.2.2.2.2.2.2.2.2.2.1)),
                    (((List.length x7.2.2.2.2.2.2.2.2.2.2.2.1) + (List.length ((x7.2.2.2.2.2.2.2.2.2.2.2.2.2.2.1[(Int.toNat (0 : Int))]'h10) :: ([] : List Int)))) ≤ Go.Abs.big) ∧
                    (Go.Abs.fitsK Go.IntKind.i64 (x7.2.2.2.2.1 + (1 : Int))) ∧
                    (K5 (x7.1, (x7.2.1, (x7.2.2.1, (x7.2.2.2.1, ((x7.2.2.2.2.1 + (1 : Int)), (x7.2.2.2.2.2.2.2.1, (x7.2.2.2.2.2.2.2.2.1, (x7.2.2.2.2.2.2.2.2.2.1, ((x7.2.2.2.2.2.2.2.2.2.2.1 ++ ((x7.2.2.2.2.2.2.2.2.2.2.2.2.2.1[(Int.toNat (HMod.hMod (0 : Int) (((List.length x7.2.2.2.2.2.2.2.2.2.2.2.2.2.1) : Nat) : Int)))]'h9) :: ([] : List Int))), ((x7.2.2.2.2.2.2.2.2.2.2.2.1 ++ ((x7.2.2.2.2.2.2.2.2.2.2.2.2.2.2.1[(Int.toNat (0 : Int))]'h10) :: ([] : List Int))), (x7.2.2.2.2.2.2.2.2.2.2.2.2.1, ())))))))))))))))) ((x5.1, (x5.2.1, (x5.2.2.1, (x5.2.2.2.1, (x5.2.2.2.2.1, (Bool.false, ((0 : Int), (x5.2.2.2.2.2.1, (x5.2.2.2.2.2.2.1, (x5.2.2.2.2.2.2.2.1, (x5.2.2.2.2.2.2.2.2.1, (x5.2.2.2.2.2.2.2.2.2.1, (x5.2.2.2.2.2.2.2.2.2.2.1, ((Go.Abs.Ship.chL x5.2.2.2.2.2.1 x5.2.2.2.2.2.2.1 x5.2.2.2.2.2.2.2.1 x5.2.2.2.2.2.2.2.2.1), ((Go.Abs.Ship.chL x5.2.2.2.2.2.1 x5.2.2.2.2.2.2.1 x5.2.2.2.2.2.2.2.1 x5.2.2.2.2.2.2.2.2.2.1), ((Go.Abs.Ship.chL x5.2.2.2.2.2.1 x5.2.2.2.2.2.2.1 x5.2.2.2.2.2.2.2.1 (List.take (Int.toNat x5.2.2.2.2.1) (List.drop (0 : Nat) x5.2.2.2.2.2.2.2.2.2.2.1))), ())))))))))))))))))))
              ((k (Go.Abs.AVal.bool Bool.false) [])))))
           ((k (Go.Abs.AVal.bool Bool.false) [])))
          ((k (Go.Abs.AVal.bool Bool.false) [])))
         ((k (Go.Abs.AVal.bool Bool.false) [])))
        ((k (Go.Abs.AVal.bool Bool.false) [])))
       ((Go.Abs.Ship.v19.p (x5.2.2.2.2.2.1, (x5.2.2.2.2.2.2.1, (x5.2.2.2.2.2.2.2.1, (x5.2.2.2.2.2.2.2.2.1, ()))))) ∧
       br (((x5.2.2.1 == (0 : Int)) == Bool.true))
        (br ((((Go.Abs.Ship.csErr x5.2.2.2.2.2.1 x5.2.2.2.2.2.2.1 x5.2.2.2.2.2.2.2.1 x5.2.2.2.2.2.2.2.2.1) == (0 : Int)) == Bool.true))
         ((Go.Abs.Ship.v30.p (x5.2.2.2.2.2.2.2.2.2.1, (x5.2.1, ()))) ∧
         br (((Go.Abs.Ship.eqL x5.2.2.2.2.2.2.2.2.2.1 x5.2.1) == Bool.true))
          ((Go.Abs.Ship.v18.p ()) ∧
          (k (Go.Abs.AVal.bool Bool.true) []))
          ((k (Go.Abs.AVal.bool Bool.false) [])))
         ((k (Go.Abs.AVal.bool Bool.false) [])))
        ((k (Go.Abs.AVal.bool Bool.false) [])))) ((bys, ((Go.Abs.Ship.stowL bs st fl), ((Go.Abs.Ship.stowE bs st fl), ((Go.Abs.Ship.csErr bs st fl (Go.Abs.Ship.givenL bs st bys)), ((0 : Int), (bs, (st, (fl, (([] : List Int), (([] : List Int), ((Go.Abs.Ship.givenL bs st bys), ()))))))))))))))
   ((Go.Abs.Ship.v18.p ()) ∧
   (k (Go.Abs.AVal.bool Bool.true) []))
theorem eq9 (bs : List (Int × Int)) (st fl : Int) (bys : List Int) (k : AVal → List Cont → Prop) : awpF (envOf [(40, mkC [v40]), (18, mkC [v18]), (32, mkC [v32]), (43, mkC [v43]), (19, mkC [v19]), (34, mkC [v34]), (47, mkC [v47]), (30, mkC [v30])]) Try.prog kt 9 false Try.f9 (v9.args (bs, st, fl, bys, ())) (v9.conts (bs, st, fl, bys, ())) k = vc9 bs st fl bys k := by kernel_rfl
theorem tx9 : (Try.f9.body.map Code.textsOk).getD true = true := by kernel_rfl

def vc10 (bs : List (Int × Int)) (st fl : Int) (bits which : Int) (k : AVal → List Cont → Prop) : Prop :=
  (Go.Abs.Ship.v40.p (bs, (st, (fl, ())))) ∧
  br ((Bool.not (Go.Abs.Ship.fine bs st fl)))
   ((Go.Abs.Ship.v18.p ()) ∧
   (k (Go.Abs.AVal.bool Bool.true) []))
   ((Go.Abs.Ship.v41.p (bs, (st, (fl, ())))) ∧
   (Go.Abs.Ship.v36.p (bs, (st, (fl, ())))) ∧
   br ((((Go.Abs.Ship.checkLoad bs st fl) != (0 : Int)) == Bool.false))
    ((Go.Abs.Ship.v47.p ((Go.Abs.Ship.leftL bs st fl), ((((List.length bs) : Nat) : Int), ()))) ∧
    br (((Bool.not (Go.Abs.Ship.isList (Go.Abs.Ship.leftL bs st fl) (((List.length bs) : Nat) : Int))) == Bool.false))
     (br ((Bool.not (((((List.length (Go.Abs.Ship.leftL bs st fl)) : Nat) : Int) == (0 : Int)) == (decide ((Go.Abs.Ship.fewestOf bs) ≤ st)))))
      ((k (Go.Abs.AVal.bool Bool.false) []))
      ((Go.Abs.Ship.v48.p (bs, ((Go.Abs.Ship.leftL bs st fl), ()))) ∧
      (Go.Abs.Ship.v42.p (st, (fl, ((Go.Abs.Ship.others bs (Go.Abs.Ship.leftL bs st fl)), ())))) ∧
      (Go.Abs.Ship.v41.p ((Go.Abs.Ship.others bs (Go.Abs.Ship.leftL bs st fl)), (st, (fl, ())))) ∧
      br ((decide ((Go.Abs.Ship.fewestOf (Go.Abs.Ship.others bs (Go.Abs.Ship.leftL bs st fl))) > st)))
       ((k (Go.Abs.AVal.bool Bool.false) []))
       ((Go.Abs.fitsK Go.IntKind.i64 bits) ∧
       (Go.Abs.Ship.v44.p (bits, ((((List.length bs) : Nat) : Int), ()))) ∧
       (Go.Abs.Ship.v48.p (bs, ((Go.Abs.Ship.listed (Int.toNat bits) (Int.toNat (((List.length bs) : Nat) : Int))), ()))) ∧
       (Go.Abs.Ship.v42.p (st, (fl, ((Go.Abs.Ship.others bs (Go.Abs.Ship.listed (Int.toNat bits) (Int.toNat (((List.length bs) : Nat) : Int)))), ())))) ∧
       (Go.Abs.Ship.v41.p ((Go.Abs.Ship.others bs (Go.Abs.Ship.listed (Int.toNat bits) (Int.toNat (((List.length bs) : Nat) : Int)))), (st, (fl, ())))) ∧
       br (((decide ((Go.Abs.Ship.fewestOf (Go.Abs.Ship.others bs (Go.Abs.Ship.listed (Int.toNat bits) (Int.toNat (((List.length bs) : Nat) : Int))))) ≤ st)) == Bool.true))
        (br ((decide ((((List.length (Go.Abs.Ship.listed (Int.toNat bits) (Int.toNat (((List.length bs) : Nat) : Int)))) : Nat) : Int) < (((List.length (Go.Abs.Ship.leftL bs st fl)) : Nat) : Int))))
         ((k (Go.Abs.AVal.bool Bool.false) []))
         (br (((((List.length (Go.Abs.Ship.leftL bs st fl)) : Nat) : Int) == (0 : Int)))
          ((Go.Abs.Ship.v18.p ()) ∧
          (k (Go.Abs.AVal.bool Bool.true) []))
          ((Go.Abs.fitsK Go.IntKind.i64 which) ∧
          (((0 : Int) ≤ which) ∧ ((0 : Int) < (((List.length (Go.Abs.Ship.leftL bs st fl)) : Nat) : Int))) ∧
          Go.Abs.Loop (σ := ((List Int) × (Int × (Int × ((List (Int × Int)) × (Int × (Int × ((List Int) × Unit)))))))) (fun K6 x6 =>
            br ((decide (x6.2.2.1 < (((List.length x6.1) : Nat) : Int))))
             (br ((x6.2.2.1 != x6.2.1))
              (∃ h8 : (((0 : Int) ≤ x6.2.2.1) ∧ ((Int.toNat x6.2.2.1) < (List.length x6.1))),
              (((List.length x6.2.2.2.2.2.2.1) + (List.length ((x6.1[(Int.toNat x6.2.2.1)]'h8.2) :: ([] : List Int)))) ≤ Go.Abs.big) ∧
              (Go.Abs.fitsK Go.IntKind.i64 (x6.2.2.1 + (1 : Int))) ∧
              (K6 (x6.1, (x6.2.1, ((x6.2.2.1 + (1 : Int)), (x6.2.2.2.1, (x6.2.2.2.2.1, (x6.2.2.2.2.2.1, ((x6.2.2.2.2.2.2.1 ++ ((x6.1[(Int.toNat x6.2.2.1)]'h8.2) :: ([] : List Int))), ())))))))))
              ((Go.Abs.fitsK Go.IntKind.i64 (x6.2.2.1 + (1 : Int))) ∧
              (K6 (x6.1, (x6.2.1, ((x6.2.2.1 + (1 : Int)), (x6.2.2.2.1, (x6.2.2.2.2.1, (x6.2.2.2.2.2.1, (x6.2.2.2.2.2.2.1, ()))))))))))
             ((Go.Abs.Ship.v48.p (x6.2.2.2.1, (x6.2.2.2.2.2.2.1, ()))) ∧
             (Go.Abs.Ship.v42.p (x6.2.2.2.2.1, (x6.2.2.2.2.2.1, ((Go.Abs.Ship.others x6.2.2.2.1 x6.2.2.2.2.2.2.1), ())))) ∧
             (Go.Abs.Ship.v41.p ((Go.Abs.Ship.others x6.2.2.2.1 x6.2.2.2.2.2.2.1), (x6.2.2.2.2.1, (x6.2.2.2.2.2.1, ())))) ∧
             br (((decide ((Go.Abs.Ship.fewestOf (Go.Abs.Ship.others x6.2.2.2.1 x6.2.2.2.2.2.2.1)) > x6.2.2.2.2.1)) == Bool.true))
              ((Go.Abs.Ship.v18.p ()) ∧
              (k (Go.Abs.AVal.bool Bool.true) []))
              ((k (Go.Abs.AVal.bool Bool.false) [])))) (((Go.Abs.Ship.leftL bs st fl), ((HMod.hMod which (((List.length (Go.Abs.Ship.leftL bs st fl)) : Nat) : Int)), ((0 : Int), (bs, (st, (fl, (([] : List Int), ())))))))))))
        (br (((((List.length (Go.Abs.Ship.leftL bs st fl)) : Nat) : Int) == (0 : Int)))
         ((Go.Abs.Ship.v18.p ()) ∧
         (k (Go.Abs.AVal.bool Bool.true) []))
         ((Go.Abs.fitsK Go.IntKind.i64 which) ∧
         (((0 : Int) ≤ which) ∧ ((0 : Int) < (((List.length (Go.Abs.Ship.leftL bs st fl)) : Nat) : Int))) ∧
         Go.Abs.Loop (σ := ((List Int) × (Int × (Int × ((List (Int × Int)) × (Int × (Int × ((List Int) × Unit)))))))) (fun K6 x6 =>
           br ((decide (x6.2.2.1 < (((List.length x6.1) : Nat) : Int))))
            (br ((x6.2.2.1 != x6.2.1))
             (∃ h8 : (((0 : Int) ≤ x6.2.2.1) ∧ ((Int.toNat x6.2.2.1) < (List.length x6.1))),
             (((List.length x6.2.2.2.2.2.2.1) + (List.length ((x6.1[(Int.toNat x6.2.2.1)]'h8.2) :: ([] : List Int)))) ≤ Go.Abs.big) ∧
             (Go.Abs.fitsK Go.IntKind.i64 (x6.2.2.1 + (1 : Int))) ∧
             (K6 (x6.1, (x6.2.1, ((x6.2.2.1 + (1 : Int)), (x6.2.2.2.1, (x6.2.2.2.2.1, (x6.2.2.2.2.2.1, ((x6.2.2.2.2.2.2.1 ++ ((x6.1[(Int.toNat x6.2.2.1)]'h8.2) :: ([] : List Int))), ())))))))))
             ((Go.Abs.fitsK Go.IntKind.i64 (x6.2.2.1 + (1 : Int))) ∧
             (K6 (x6.1, (x6.2.1, ((x6.2.2.1 + (1 : Int)), (x6.2.2.2.1, (x6.2.2.2.2.1, (x6.2.2.2.2.2.1, (x6.2.2.2.2.2.2.1, ()))))))))))
            ((Go.Abs.Ship.v48.p (x6.2.2.2.1, (x6.2.2.2.2.2.2.1, ()))) ∧
            (Go.Abs.Ship.v42.p (x6.2.2.2.2.1, (x6.2.2.2.2.2.1, ((Go.Abs.Ship.others x6.2.2.2.1 x6.2.2.2.2.2.2.1), ())))) ∧
            (Go.Abs.Ship.v41.p ((Go.Abs.Ship.others x6.2.2.2.1 x6.2.2.2.2.2.2.1), (x6.2.2.2.2.1, (x6.2.2.2.2.2.1, ())))) ∧
            br (((decide ((Go.Abs.Ship.fewestOf (Go.Abs.Ship.others x6.2.2.2.1 x6.2.2.2.2.2.2.1)) > x6.2.2.2.2.1)) == Bool.true))
             ((Go.Abs.Ship.v18.p ()) ∧
             (k (Go.Abs.AVal.bool Bool.true) []))
             ((k (Go.Abs.AVal.bool Bool.false) [])))) (((Go.Abs.Ship.leftL bs st fl), ((HMod.hMod which (((List.length (Go.Abs.Ship.leftL bs st fl)) : Nat) : Int)), ((0 : Int), (bs, (st, (fl, (([] : List Int), ())))))))))))))
     ((k (Go.Abs.AVal.bool Bool.false) [])))
    ((k (Go.Abs.AVal.bool Bool.false) [])))
theorem eq10 (bs : List (Int × Int)) (st fl : Int) (bits which : Int) (k : AVal → List Cont → Prop) : awpF (envOf [(40, mkC [v40]), (18, mkC [v18]), (41, mkC [v41]), (36, mkC [v36]), (47, mkC [v47]), (48, mkC [v48]), (42, mkC [v42]), (44, mkC [v44])]) Try.prog kt 10 false Try.f10 (v10.args (bs, st, fl, bits, which, ())) (v10.conts (bs, st, fl, bits, which, ())) k = vc10 bs st fl bits which k := by kernel_rfl
theorem tx10 : (Try.f10.body.map Code.textsOk).getD true = true := by kernel_rfl

def vc11 (bs : List (Int × Int)) (st fl : Int) (bys : List Int) (k : AVal → List Cont → Prop) : Prop :=
  (Go.Abs.Ship.v40.p (bs, (st, (fl, ())))) ∧
  br (((Bool.not (Go.Abs.Ship.fine bs st fl)) == Bool.false))
   (br ((decide ((((List.length bys) : Nat) : Int) > (20 : Int))))
    ((Go.Abs.Ship.v18.p ()) ∧
    (k (Go.Abs.AVal.bool Bool.true) []))
    ((Go.Abs.Ship.v43.p (bs, (st, (fl, (bys, ()))))) ∧
    (Go.Abs.Ship.v38.p (bs, (st, (fl, ((Go.Abs.Ship.givenL bs st bys), ()))))) ∧
    br (((Go.Abs.Ship.stowErr bs st fl (Go.Abs.Ship.givenL bs st bys)) != (0 : Int)))
     (br ((((Go.Abs.Ship.stowErr bs st fl (Go.Abs.Ship.givenL bs st bys)) == (23 : Int)) == Bool.true))
      (br ((((((List.length (Go.Abs.Ship.outL bs st fl (Go.Abs.Ship.givenL bs st bys))) : Nat) : Int) == (0 : Int)) == Bool.true))
       ((Go.Abs.Ship.v45.p (bs, ((Go.Abs.Ship.givenL bs st bys), ()))) ∧
       br (((Bool.not (Go.Abs.Ship.smoothB bs (Go.Abs.Ship.givenL bs st bys))) == Bool.true))
        ((Go.Abs.Ship.v18.p ()) ∧
        (k (Go.Abs.AVal.bool Bool.true) []))
        ((k (Go.Abs.AVal.bool Bool.false) [])))
       ((k (Go.Abs.AVal.bool Bool.false) [])))
      ((k (Go.Abs.AVal.bool Bool.false) [])))
     (br ((((((List.length (Go.Abs.Ship.outL bs st fl (Go.Abs.Ship.givenL bs st bys))) : Nat) : Int) != (((List.length (Go.Abs.Ship.givenL bs st bys)) : Nat) : Int)) == Bool.false))
      ((Go.Abs.Ship.v45.p (bs, ((Go.Abs.Ship.givenL bs st bys), ()))) ∧
      br ((Bool.not (Go.Abs.Ship.smoothB bs (Go.Abs.Ship.givenL bs st bys))))
       ((k (Go.Abs.AVal.bool Bool.false) []))
       ((((0 : Int) ≤ (((List.length (Go.Abs.Ship.givenL bs st bys)) : Nat) : Int)) ∧ (((((List.length (Go.Abs.Ship.givenL bs st bys)) : Nat) : Int) = (((List.length (Go.Abs.Ship.givenL bs st bys)) : Nat) : Int)) ∧ ((((List.length (Go.Abs.Ship.givenL bs st bys)) : Nat) : Int) ≤ ((Go.Abs.big : Nat) : Int)))) ∧
       Go.Abs.Loop (σ := (Int × (Int × ((List (Int × Int)) × (Int × (Int × ((List Int) × ((List Int) × ((List Int) × Unit))))))))) (fun K5 x5 =>
         br ((decide (x5.2.1 < (((List.length x5.2.2.2.2.2.2.1) : Nat) : Int))))
          ((((0 : Int) ≤ x5.2.1) ∧ ((Int.toNat x5.2.1) < (List.length x5.2.2.2.2.2.2.1))) ∧
          ∃ h7 : ((Int.toNat x5.2.1) < (List.length x5.2.2.2.2.2.2.1)),
          br (((decide ((x5.2.2.2.2.2.2.1[(Int.toNat x5.2.1)]'h7) < (0 : Int))) == Bool.false))
           (br (((decide ((x5.2.2.2.2.2.2.1[(Int.toNat x5.2.1)]'h7) ≥ (((List.length x5.2.2.2.2.2.1) : Nat) : Int))) == Bool.false))
            ((((0 : Int) ≤ (x5.2.2.2.2.2.2.1[(Int.toNat x5.2.1)]'h7)) ∧ ((Int.toNat (x5.2.2.2.2.2.2.1[(Int.toNat x5.2.1)]'h7)) < (List.length x5.2.2.2.2.2.2.2.1))) ∧
            ∃ h8 : ((Int.toNat (x5.2.2.2.2.2.2.1[(Int.toNat x5.2.1)]'h7)) < (List.length x5.2.2.2.2.2.2.2.1)),
            br (((decide ((x5.2.2.2.2.2.2.2.1[(Int.toNat (x5.2.2.2.2.2.2.1[(Int.toNat x5.2.1)]'h7))]'h8) > (0 : Int))) == Bool.false))
             (∃ h9 : (((0 : Int) ≤ (x5.2.2.2.2.2.2.1[(Int.toNat x5.2.1)]'h7)) ∧ ((Int.toNat (x5.2.2.2.2.2.2.1[(Int.toNat x5.2.1)]'h7)) < (List.length x5.2.2.1))),
             br ((decide ((x5.2.2.1[(Int.toNat (x5.2.2.2.2.2.2.1[(Int.toNat x5.2.1)]'h7))]'h9.2).1 < x5.1)))
              ((k (Go.Abs.AVal.bool Bool.false) []))
              ((Go.Abs.fitsK Go.IntKind.i64 ((x5.2.2.2.2.2.2.1[(Int.toNat x5.2.1)]'h7) + (1 : Int))) ∧
              Go.Abs.Loop (σ := (Int × (Int × (Int × ((List (Int × Int)) × (Int × (Int × ((List Int) × ((List Int) × ((List Int) × Unit)))))))))) (fun K10 x10 =>
                br ((decide (x10.2.2.1 < (((List.length x10.2.2.2.2.2.2.1) : Nat) : Int))))
                 ((((0 : Int) ≤ x10.2.2.1) ∧ ((Int.toNat x10.2.2.1) < (List.length x10.2.2.2.2.2.2.1))) ∧
                 ∃ h12 : ((Int.toNat x10.2.2.1) < (List.length x10.2.2.2.2.2.2.1)),
                 (((0 : Int) ≤ x10.2.1) ∧ ((Int.toNat x10.2.1) < (List.length x10.2.2.2.2.2.2.1))) ∧
                 ∃ h13 : ((Int.toNat x10.2.1) < (List.length x10.2.2.2.2.2.2.1)),
                 br ((((x10.2.2.2.2.2.2.1[(Int.toNat x10.2.2.1)]'h12) == (x10.2.2.2.2.2.2.1[(Int.toNat x10.2.1)]'h13)) == Bool.true))
                  ((((0 : Int) ≤ x10.2.2.1) ∧ ((Int.toNat x10.2.2.1) < (List.length x10.2.2.2.2.2.2.2.2.1))) ∧
                  ∃ h14 : ((Int.toNat x10.2.2.1) < (List.length x10.2.2.2.2.2.2.2.2.1)),
                  br (((x10.2.2.2.2.2.2.2.2.1[(Int.toNat x10.2.2.1)]'h14) == (0 : Int)))
                   ((k (Go.Abs.AVal.bool Bool.false) []))
                   ((Go.Abs.fitsK Go.IntKind.i64 (x10.2.2.1 + (1 : Int))) ∧
                   (K10 (x10.1, (x10.2.1, ((x10.2.2.1 + (1 : Int)), (x10.2.2.2.1, (x10.2.2.2.2.1, (x10.2.2.2.2.2.1, (x10.2.2.2.2.2.2.1, (x10.2.2.2.2.2.2.2.1, (x10.2.2.2.2.2.2.2.2.1, ()))))))))))))
                  ((Go.Abs.fitsK Go.IntKind.i64 (x10.2.2.1 + (1 : Int))) ∧
                  (K10 (x10.1, (x10.2.1, ((x10.2.2.1 + (1 : Int)), (x10.2.2.2.1, (x10.2.2.2.2.1, (x10.2.2.2.2.2.1, (x10.2.2.2.2.2.2.1, (x10.2.2.2.2.2.2.2.1, (x10.2.2.2.2.2.2.2.2.1, ()))))))))))))
                 (∃ h12 : (((0 : Int) ≤ x10.2.1) ∧ ((Int.toNat x10.2.1) < (List.length x10.2.2.2.1))),
                 (((0 : Int) ≤ x10.2.1) ∧ ((Int.toNat x10.2.1) < (List.length x10.2.2.2.2.2.2.2.2.1))) ∧
                 ∃ h13 : ((Int.toNat x10.2.1) < (List.length x10.2.2.2.2.2.2.2.2.1)),
                 (Go.Abs.fitsK Go.IntKind.i64 (x10.1 + (1 : Int))) ∧
                 (K5 ((x10.2.2.2.1[(Int.toNat x10.2.1)]'h12.2).1, ((x10.1 + (1 : Int)), (x10.2.2.2.1, (x10.2.2.2.2.1, (x10.2.2.2.2.2.1, (x10.2.2.2.2.2.2.1, (x10.2.2.2.2.2.2.2.1, ((List.set x10.2.2.2.2.2.2.2.2.1 (Int.toNat x10.2.1) (1 : Int)), ()))))))))))) ((x5.2.1, ((x5.2.2.2.2.2.2.1[(Int.toNat x5.2.1)]'h7), (((x5.2.2.2.2.2.2.1[(Int.toNat x5.2.1)]'h7) + (1 : Int)), (x5.2.2.1, (x5.2.2.2.1, (x5.2.2.2.2.1, (x5.2.2.2.2.2.1, (x5.2.2.2.2.2.2.1, (x5.2.2.2.2.2.2.2.1, ()))))))))))))
             ((k (Go.Abs.AVal.bool Bool.false) [])))
            ((k (Go.Abs.AVal.bool Bool.false) [])))
           ((k (Go.Abs.AVal.bool Bool.false) [])))
          ((Go.Abs.Ship.v18.p ()) ∧
          (k (Go.Abs.AVal.bool Bool.true) []))) (((0 : Int), ((0 : Int), (bs, (st, (fl, ((Go.Abs.Ship.givenL bs st bys), ((Go.Abs.Ship.outL bs st fl (Go.Abs.Ship.givenL bs st bys)), ((List.replicate (Int.toNat (((List.length (Go.Abs.Ship.givenL bs st bys)) : Nat) : Int)) (Int.ofNat 0)), ())))))))))))
      ((k (Go.Abs.AVal.bool Bool.false) [])))))
   ((Go.Abs.Ship.v18.p ()) ∧
   (k (Go.Abs.AVal.bool Bool.true) []))
theorem eq11 (bs : List (Int × Int)) (st fl : Int) (bys : List Int) (k : AVal → List Cont → Prop) : awpF (envOf [(40, mkC [v40]), (18, mkC [v18]), (43, mkC [v43]), (38, mkC [v38]), (45, mkC [v45])]) Try.prog kt 11 false Try.f11 (v11.args (bs, st, fl, bys, ())) (v11.conts (bs, st, fl, bys, ())) k = vc11 bs st fl bys k := by kernel_rfl
theorem tx11 : (Try.f11.body.map Code.textsOk).getD true = true := by kernel_rfl

def vc12 (bs : List (Int × Int)) (st fl : Int) (k : AVal → List Cont → Prop) : Prop :=
  (Go.Abs.Ship.v40.p (bs, (st, (fl, ())))) ∧
  br ((Bool.not (Go.Abs.Ship.fine bs st fl)))
   ((Go.Abs.Ship.v18.p ()) ∧
   (k (Go.Abs.AVal.bool Bool.true) []))
   ((Go.Abs.fitsK Go.IntKind.i64 ((((List.length bs) : Nat) : Int) - (1 : Int))) ∧
   Go.Abs.Loop (σ := (Int × ((List (Int × Int)) × (Int × (Int × ((List (Int × Int)) × Unit)))))) (fun K4 x4 =>
     br ((decide (x4.1 ≥ (0 : Int))))
      (∃ h6 : (((0 : Int) ≤ x4.1) ∧ ((Int.toNat x4.1) < (List.length x4.2.1))),
      (Go.Abs.fitsK Go.IntKind.i64 ((21 : Int) - (x4.2.1[(Int.toNat x4.1)]'h6.2).1)) ∧
      ∃ h7 : (((0 : Int) ≤ x4.1) ∧ ((Int.toNat x4.1) < (List.length x4.2.1))),
      (((List.length x4.2.2.2.2.1) + (List.length ((((21 : Int) - (x4.2.1[(Int.toNat x4.1)]'h6.2).1), (x4.2.1[(Int.toNat x4.1)]'h7.2).2) :: ([] : List (Int × Int))))) ≤ Go.Abs.big) ∧
      (Go.Abs.fitsK Go.IntKind.i64 (x4.1 - (1 : Int))) ∧
      (K4 ((x4.1 - (1 : Int)), (x4.2.1, (x4.2.2.1, (x4.2.2.2.1, ((x4.2.2.2.2.1 ++ ((((21 : Int) - (x4.2.1[(Int.toNat x4.1)]'h6.2).1), (x4.2.1[(Int.toNat x4.1)]'h7.2).2) :: ([] : List (Int × Int)))), ())))))))
      ((Go.Abs.Ship.v42.p (x4.2.2.1, (x4.2.2.2.1, (x4.2.2.2.2.1, ())))) ∧
      (Go.Abs.Ship.v41.p (x4.2.1, (x4.2.2.1, (x4.2.2.2.1, ())))) ∧
      (Go.Abs.Ship.v41.p (x4.2.2.2.2.1, (x4.2.2.1, (x4.2.2.2.1, ())))) ∧
      (Go.Abs.Ship.v36.p (x4.2.1, (x4.2.2.1, (x4.2.2.2.1, ())))) ∧
      (Go.Abs.Ship.v36.p (x4.2.2.2.2.1, (x4.2.2.1, (x4.2.2.2.1, ())))) ∧
      br ((((Go.Abs.Ship.fewestOf x4.2.1) == (Go.Abs.Ship.fewestOf x4.2.2.2.2.1)) == Bool.true))
       (br ((((Go.Abs.Ship.checkLoad x4.2.1 x4.2.2.1 x4.2.2.2.1) == (0 : Int)) == Bool.true))
        (br ((((Go.Abs.Ship.checkLoad x4.2.2.2.2.1 x4.2.2.1 x4.2.2.2.1) == (0 : Int)) == Bool.true))
         (br ((((((List.length (Go.Abs.Ship.leftL x4.2.1 x4.2.2.1 x4.2.2.2.1)) : Nat) : Int) == (((List.length (Go.Abs.Ship.leftL x4.2.2.2.2.1 x4.2.2.1 x4.2.2.2.1)) : Nat) : Int)) == Bool.true))
          ((Go.Abs.Ship.v18.p ()) ∧
          (k (Go.Abs.AVal.bool Bool.true) []))
          ((k (Go.Abs.AVal.bool Bool.false) [])))
         ((k (Go.Abs.AVal.bool Bool.false) [])))
        ((k (Go.Abs.AVal.bool Bool.false) [])))
       ((k (Go.Abs.AVal.bool Bool.false) [])))) ((((((List.length bs) : Nat) : Int) - (1 : Int)), (bs, (st, (fl, (([] : List (Int × Int)), ())))))))
theorem eq12 (bs : List (Int × Int)) (st fl : Int) (k : AVal → List Cont → Prop) : awpF (envOf [(40, mkC [v40]), (18, mkC [v18]), (42, mkC [v42]), (41, mkC [v41]), (36, mkC [v36])]) Try.prog kt 12 false Try.f12 (v12.args (bs, st, fl, ())) (v12.conts (bs, st, fl, ())) k = vc12 bs st fl k := by kernel_rfl
theorem tx12 : (Try.f12.body.map Code.textsOk).getD true = true := by kernel_rfl

def vc13 (bs : List (Int × Int)) (st fl : Int) (bp bw more floor : Int) (bys : List Int) (k : AVal → List Cont → Prop) : Prop :=
  (Go.Abs.Ship.v40.p (bs, (st, (fl, ())))) ∧
  br (((Bool.not (Go.Abs.Ship.fine bs st fl)) == Bool.false))
   (br ((decide ((((List.length bys) : Nat) : Int) > (20 : Int))))
    ((Go.Abs.Ship.v18.p ()) ∧
    (k (Go.Abs.AVal.bool Bool.true) []))
    ((Go.Abs.Ship.v41.p (bs, (st, (fl, ())))) ∧
    (((List.length ([] : List (Int × Int))) + (List.length bs)) ≤ Go.Abs.big) ∧
    (((List.length (([] : List (Int × Int)) ++ bs)) + (List.length ((bp, bw) :: ([] : List (Int × Int))))) ≤ Go.Abs.big) ∧
    (Go.Abs.Ship.v42.p (st, (fl, (((([] : List (Int × Int)) ++ bs) ++ ((bp, bw) :: ([] : List (Int × Int)))), ())))) ∧
    (Go.Abs.Ship.v40.p (((([] : List (Int × Int)) ++ bs) ++ ((bp, bw) :: ([] : List (Int × Int)))), (st, (fl, ())))) ∧
    br ((Go.Abs.Ship.fine ((([] : List (Int × Int)) ++ bs) ++ ((bp, bw) :: ([] : List (Int × Int)))) st fl))
     ((Go.Abs.Ship.v41.p (((([] : List (Int × Int)) ++ bs) ++ ((bp, bw) :: ([] : List (Int × Int)))), (st, (fl, ())))) ∧
     br (((decide ((Go.Abs.Ship.fewestOf ((([] : List (Int × Int)) ++ bs) ++ ((bp, bw) :: ([] : List (Int × Int))))) < (Go.Abs.Ship.fewestOf bs))) == Bool.false))
      ((Go.Abs.fitsK Go.IntKind.i64 ((Go.Abs.Ship.fewestOf bs) + (1 : Int))) ∧
      br ((decide ((Go.Abs.Ship.fewestOf ((([] : List (Int × Int)) ++ bs) ++ ((bp, bw) :: ([] : List (Int × Int))))) > ((Go.Abs.Ship.fewestOf bs) + (1 : Int)))))
       ((k (Go.Abs.AVal.bool Bool.false) []))
       ((((0 : Int) ≤ more) ∧ ((0 : Int) < (3 : Int))) ∧
       (Go.Abs.fitsK Go.IntKind.i64 (HMod.hMod more (3 : Int))) ∧
       (Go.Abs.fitsK Go.IntKind.i64 (st + (HMod.hMod more (3 : Int)))) ∧
       (Go.Abs.fitsK Go.IntKind.i64 floor) ∧
       (Go.Abs.fitsK Go.IntKind.i64 (fl + floor)) ∧
       (Go.Abs.Ship.v42.p ((ite ((st + (HMod.hMod more (3 : Int))) < (5 : Int)) (st + (HMod.hMod more (3 : Int))) (5 : Int)), ((ite ((fl + floor) < (1000 : Int)) (fl + floor) (1000 : Int)), (bs, ())))) ∧
       (Go.Abs.Ship.v32.p (bs, (st, (fl, ())))) ∧
       (Go.Abs.Ship.v32.p (bs, ((ite ((st + (HMod.hMod more (3 : Int))) < (5 : Int)) (st + (HMod.hMod more (3 : Int))) (5 : Int)), ((ite ((fl + floor) < (1000 : Int)) (fl + floor) (1000 : Int)), ())))) ∧
       (Go.Abs.Ship.v36.p (bs, (st, (fl, ())))) ∧
       (Go.Abs.Ship.v36.p (bs, ((ite ((st + (HMod.hMod more (3 : Int))) < (5 : Int)) (st + (HMod.hMod more (3 : Int))) (5 : Int)), ((ite ((fl + floor) < (1000 : Int)) (fl + floor) (1000 : Int)), ())))) ∧
       (Go.Abs.Ship.v43.p (bs, (st, (fl, (bys, ()))))) ∧
       (Go.Abs.Ship.v19.p (bs, (st, (fl, ((Go.Abs.Ship.givenL bs st bys), ()))))) ∧
       (Go.Abs.Ship.v19.p (bs, ((ite ((st + (HMod.hMod more (3 : Int))) < (5 : Int)) (st + (HMod.hMod more (3 : Int))) (5 : Int)), ((ite ((fl + floor) < (1000 : Int)) (fl + floor) (1000 : Int)), ((Go.Abs.Ship.givenL bs st bys), ()))))) ∧
       br ((((Go.Abs.Ship.stowE bs st fl) != (0 : Int)) == Bool.false))
        (br ((((Go.Abs.Ship.stowE bs (ite ((st + (HMod.hMod more (3 : Int))) < (5 : Int)) (st + (HMod.hMod more (3 : Int))) (5 : Int)) (ite ((fl + floor) < (1000 : Int)) (fl + floor) (1000 : Int))) == (0 : Int)) == Bool.true))
         (br ((((Go.Abs.Ship.checkLoad bs st fl) == (0 : Int)) == Bool.true))
          (br ((((Go.Abs.Ship.checkLoad bs (ite ((st + (HMod.hMod more (3 : Int))) < (5 : Int)) (st + (HMod.hMod more (3 : Int))) (5 : Int)) (ite ((fl + floor) < (1000 : Int)) (fl + floor) (1000 : Int))) == (0 : Int)) == Bool.true))
           (br (((decide ((((List.length (Go.Abs.Ship.leftL bs (ite ((st + (HMod.hMod more (3 : Int))) < (5 : Int)) (st + (HMod.hMod more (3 : Int))) (5 : Int)) (ite ((fl + floor) < (1000 : Int)) (fl + floor) (1000 : Int)))) : Nat) : Int) ≤ (((List.length (Go.Abs.Ship.leftL bs st fl)) : Nat) : Int))) == Bool.true))
            (br ((((Go.Abs.Ship.csErr bs st fl (Go.Abs.Ship.givenL bs st bys)) != (0 : Int)) == Bool.false))
             (br ((((Go.Abs.Ship.csErr bs (ite ((st + (HMod.hMod more (3 : Int))) < (5 : Int)) (st + (HMod.hMod more (3 : Int))) (5 : Int)) (ite ((fl + floor) < (1000 : Int)) (fl + floor) (1000 : Int)) (Go.Abs.Ship.givenL bs st bys)) == (0 : Int)) == Bool.true))
              ((Go.Abs.Ship.v18.p ()) ∧
              (k (Go.Abs.AVal.bool Bool.true) []))
              ((k (Go.Abs.AVal.bool Bool.false) [])))
             ((Go.Abs.Ship.v18.p ()) ∧
             (k (Go.Abs.AVal.bool Bool.true) [])))
            ((k (Go.Abs.AVal.bool Bool.false) [])))
           ((k (Go.Abs.AVal.bool Bool.false) [])))
          ((k (Go.Abs.AVal.bool Bool.false) [])))
         ((k (Go.Abs.AVal.bool Bool.false) [])))
        (br ((((Go.Abs.Ship.checkLoad bs st fl) == (0 : Int)) == Bool.true))
         (br ((((Go.Abs.Ship.checkLoad bs (ite ((st + (HMod.hMod more (3 : Int))) < (5 : Int)) (st + (HMod.hMod more (3 : Int))) (5 : Int)) (ite ((fl + floor) < (1000 : Int)) (fl + floor) (1000 : Int))) == (0 : Int)) == Bool.true))
          (br (((decide ((((List.length (Go.Abs.Ship.leftL bs (ite ((st + (HMod.hMod more (3 : Int))) < (5 : Int)) (st + (HMod.hMod more (3 : Int))) (5 : Int)) (ite ((fl + floor) < (1000 : Int)) (fl + floor) (1000 : Int)))) : Nat) : Int) ≤ (((List.length (Go.Abs.Ship.leftL bs st fl)) : Nat) : Int))) == Bool.true))
           (br ((((Go.Abs.Ship.csErr bs st fl (Go.Abs.Ship.givenL bs st bys)) != (0 : Int)) == Bool.false))
            (br ((((Go.Abs.Ship.csErr bs (ite ((st + (HMod.hMod more (3 : Int))) < (5 : Int)) (st + (HMod.hMod more (3 : Int))) (5 : Int)) (ite ((fl + floor) < (1000 : Int)) (fl + floor) (1000 : Int)) (Go.Abs.Ship.givenL bs st bys)) == (0 : Int)) == Bool.true))
             ((Go.Abs.Ship.v18.p ()) ∧
             (k (Go.Abs.AVal.bool Bool.true) []))
             ((k (Go.Abs.AVal.bool Bool.false) [])))
            ((Go.Abs.Ship.v18.p ()) ∧
            (k (Go.Abs.AVal.bool Bool.true) [])))
           ((k (Go.Abs.AVal.bool Bool.false) [])))
          ((k (Go.Abs.AVal.bool Bool.false) [])))
         ((k (Go.Abs.AVal.bool Bool.false) [])))))
      ((k (Go.Abs.AVal.bool Bool.false) [])))
     ((((0 : Int) ≤ more) ∧ ((0 : Int) < (3 : Int))) ∧
     (Go.Abs.fitsK Go.IntKind.i64 (HMod.hMod more (3 : Int))) ∧
     (Go.Abs.fitsK Go.IntKind.i64 (st + (HMod.hMod more (3 : Int)))) ∧
     (Go.Abs.fitsK Go.IntKind.i64 floor) ∧
     (Go.Abs.fitsK Go.IntKind.i64 (fl + floor)) ∧
     (Go.Abs.Ship.v42.p ((ite ((st + (HMod.hMod more (3 : Int))) < (5 : Int)) (st + (HMod.hMod more (3 : Int))) (5 : Int)), ((ite ((fl + floor) < (1000 : Int)) (fl + floor) (1000 : Int)), (bs, ())))) ∧
     (Go.Abs.Ship.v32.p (bs, (st, (fl, ())))) ∧
     (Go.Abs.Ship.v32.p (bs, ((ite ((st + (HMod.hMod more (3 : Int))) < (5 : Int)) (st + (HMod.hMod more (3 : Int))) (5 : Int)), ((ite ((fl + floor) < (1000 : Int)) (fl + floor) (1000 : Int)), ())))) ∧
     (Go.Abs.Ship.v36.p (bs, (st, (fl, ())))) ∧
     (Go.Abs.Ship.v36.p (bs, ((ite ((st + (HMod.hMod more (3 : Int))) < (5 : Int)) (st + (HMod.hMod more (3 : Int))) (5 : Int)), ((ite ((fl + floor) < (1000 : Int)) (fl + floor) (1000 : Int)), ())))) ∧
     (Go.Abs.Ship.v43.p (bs, (st, (fl, (bys, ()))))) ∧
     (Go.Abs.Ship.v19.p (bs, (st, (fl, ((Go.Abs.Ship.givenL bs st bys), ()))))) ∧
     (Go.Abs.Ship.v19.p (bs, ((ite ((st + (HMod.hMod more (3 : Int))) < (5 : Int)) (st + (HMod.hMod more (3 : Int))) (5 : Int)), ((ite ((fl + floor) < (1000 : Int)) (fl + floor) (1000 : Int)), ((Go.Abs.Ship.givenL bs st bys), ()))))) ∧
     br ((((Go.Abs.Ship.stowE bs st fl) != (0 : Int)) == Bool.false))
      (br ((((Go.Abs.Ship.stowE bs (ite ((st + (HMod.hMod more (3 : Int))) < (5 : Int)) (st + (HMod.hMod more (3 : Int))) (5 : Int)) (ite ((fl + floor) < (1000 : Int)) (fl + floor) (1000 : Int))) == (0 : Int)) == Bool.true))
       (br ((((Go.Abs.Ship.checkLoad bs st fl) == (0 : Int)) == Bool.true))
        (br ((((Go.Abs.Ship.checkLoad bs (ite ((st + (HMod.hMod more (3 : Int))) < (5 : Int)) (st + (HMod.hMod more (3 : Int))) (5 : Int)) (ite ((fl + floor) < (1000 : Int)) (fl + floor) (1000 : Int))) == (0 : Int)) == Bool.true))
         (br (((decide ((((List.length (Go.Abs.Ship.leftL bs (ite ((st + (HMod.hMod more (3 : Int))) < (5 : Int)) (st + (HMod.hMod more (3 : Int))) (5 : Int)) (ite ((fl + floor) < (1000 : Int)) (fl + floor) (1000 : Int)))) : Nat) : Int) ≤ (((List.length (Go.Abs.Ship.leftL bs st fl)) : Nat) : Int))) == Bool.true))
          (br ((((Go.Abs.Ship.csErr bs st fl (Go.Abs.Ship.givenL bs st bys)) != (0 : Int)) == Bool.false))
           (br ((((Go.Abs.Ship.csErr bs (ite ((st + (HMod.hMod more (3 : Int))) < (5 : Int)) (st + (HMod.hMod more (3 : Int))) (5 : Int)) (ite ((fl + floor) < (1000 : Int)) (fl + floor) (1000 : Int)) (Go.Abs.Ship.givenL bs st bys)) == (0 : Int)) == Bool.true))
            ((Go.Abs.Ship.v18.p ()) ∧
            (k (Go.Abs.AVal.bool Bool.true) []))
            ((k (Go.Abs.AVal.bool Bool.false) [])))
           ((Go.Abs.Ship.v18.p ()) ∧
           (k (Go.Abs.AVal.bool Bool.true) [])))
          ((k (Go.Abs.AVal.bool Bool.false) [])))
         ((k (Go.Abs.AVal.bool Bool.false) [])))
        ((k (Go.Abs.AVal.bool Bool.false) [])))
       ((k (Go.Abs.AVal.bool Bool.false) [])))
      (br ((((Go.Abs.Ship.checkLoad bs st fl) == (0 : Int)) == Bool.true))
       (br ((((Go.Abs.Ship.checkLoad bs (ite ((st + (HMod.hMod more (3 : Int))) < (5 : Int)) (st + (HMod.hMod more (3 : Int))) (5 : Int)) (ite ((fl + floor) < (1000 : Int)) (fl + floor) (1000 : Int))) == (0 : Int)) == Bool.true))
        (br (((decide ((((List.length (Go.Abs.Ship.leftL bs (ite ((st + (HMod.hMod more (3 : Int))) < (5 : Int)) (st + (HMod.hMod more (3 : Int))) (5 : Int)) (ite ((fl + floor) < (1000 : Int)) (fl + floor) (1000 : Int)))) : Nat) : Int) ≤ (((List.length (Go.Abs.Ship.leftL bs st fl)) : Nat) : Int))) == Bool.true))
         (br ((((Go.Abs.Ship.csErr bs st fl (Go.Abs.Ship.givenL bs st bys)) != (0 : Int)) == Bool.false))
          (br ((((Go.Abs.Ship.csErr bs (ite ((st + (HMod.hMod more (3 : Int))) < (5 : Int)) (st + (HMod.hMod more (3 : Int))) (5 : Int)) (ite ((fl + floor) < (1000 : Int)) (fl + floor) (1000 : Int)) (Go.Abs.Ship.givenL bs st bys)) == (0 : Int)) == Bool.true))
           ((Go.Abs.Ship.v18.p ()) ∧
           (k (Go.Abs.AVal.bool Bool.true) []))
           ((k (Go.Abs.AVal.bool Bool.false) [])))
          ((Go.Abs.Ship.v18.p ()) ∧
          (k (Go.Abs.AVal.bool Bool.true) [])))
         ((k (Go.Abs.AVal.bool Bool.false) [])))
        ((k (Go.Abs.AVal.bool Bool.false) [])))
       ((k (Go.Abs.AVal.bool Bool.false) []))))))
   ((Go.Abs.Ship.v18.p ()) ∧
   (k (Go.Abs.AVal.bool Bool.true) []))
theorem eq13 (bs : List (Int × Int)) (st fl : Int) (bp bw more floor : Int) (bys : List Int) (k : AVal → List Cont → Prop) : awpF (envOf [(40, mkC [v40]), (18, mkC [v18]), (41, mkC [v41]), (42, mkC [v42]), (32, mkC [v32]), (36, mkC [v36]), (43, mkC [v43]), (19, mkC [v19])]) Try.prog kt 13 false Try.f13 (v13.args (bs, st, fl, bp, bw, more, floor, bys, ())) (v13.conts (bs, st, fl, bp, bw, more, floor, bys, ())) k = vc13 bs st fl bp bw more floor bys k := by kernel_rfl
theorem tx13 : (Try.f13.body.map Code.textsOk).getD true = true := by kernel_rfl

def vc14 (bs : List (Int × Int)) (st fl : Int) (many : Int) (k : AVal → List Cont → Prop) : Prop :=
  (Go.Abs.Ship.v40.p (bs, (st, (fl, ())))) ∧
  br ((Bool.not (Go.Abs.Ship.fine bs st fl)))
   ((Go.Abs.Ship.v18.p ()) ∧
   (k (Go.Abs.AVal.bool Bool.true) []))
   ((Go.Abs.fitsK Go.IntKind.i64 many) ∧
   (Go.Abs.fitsK Go.IntKind.i64 ((((List.length bs) : Nat) : Int) + (1 : Int))) ∧
   (((0 : Int) ≤ many) ∧ ((0 : Int) < ((((List.length bs) : Nat) : Int) + (1 : Int)))) ∧
   Go.Abs.Loop (σ := (Int × (Int × ((List (Int × Int)) × (Int × (Int × ((List (Int × Int)) × ((List (Int × Int)) × ((List (Int × Int)) × ((List (Int × Int)) × Unit)))))))))) (fun K5 x5 =>
     br ((decide (x5.2.1 < (((List.length x5.2.2.1) : Nat) : Int))))
      (∃ h7 : (((0 : Int) ≤ x5.2.1) ∧ ((Int.toNat x5.2.1) < (List.length x5.2.2.1))),
      (((0 : Int) ≤ (x5.2.2.1[(Int.toNat x5.2.1)]'h7.2).1) ∧ ((0 : Int) < (10 : Int))) ∧
      (Go.Abs.fitsK Go.IntKind.i64 ((1 : Int) + (HMod.hMod (x5.2.2.1[(Int.toNat x5.2.1)]'h7.2).1 (10 : Int)))) ∧
      ∃ h8 : (((0 : Int) ≤ x5.2.1) ∧ ((Int.toNat x5.2.1) < (List.length x5.2.2.1))),
      (Go.Abs.fitsK Go.IntKind.i64 (((1 : Int) + (HMod.hMod (x5.2.2.1[(Int.toNat x5.2.1)]'h7.2).1 (10 : Int))) + (10 : Int))) ∧
      br ((decide (x5.2.1 < x5.1)))
       ((((List.length x5.2.2.2.2.2.1) + (List.length ((((1 : Int) + (HMod.hMod (x5.2.2.1[(Int.toNat x5.2.1)]'h7.2).1 (10 : Int))), (x5.2.2.1[(Int.toNat x5.2.1)]'h8.2).2) :: ([] : List (Int × Int))))) ≤ Go.Abs.big) ∧
       (((List.length x5.2.2.2.2.2.2.2.1) + (List.length (((((1 : Int) + (HMod.hMod (x5.2.2.1[(Int.toNat x5.2.1)]'h7.2).1 (10 : Int))) + (10 : Int)), (x5.2.2.1[(Int.toNat x5.2.1)]'h8.2).2) :: ([] : List (Int × Int))))) ≤ Go.Abs.big) ∧
       (((List.length x5.2.2.2.2.2.2.2.2.1) + (List.length ((((1 : Int) + (HMod.hMod (x5.2.2.1[(Int.toNat x5.2.1)]'h7.2).1 (10 : Int))), (x5.2.2.1[(Int.toNat x5.2.1)]'h8.2).2) :: ([] : List (Int × Int))))) ≤ Go.Abs.big) ∧
       (Go.Abs.fitsK Go.IntKind.i64 (x5.2.1 + (1 : Int))) ∧
       (K5 (x5.1, ((x5.2.1 + (1 : Int)), (x5.2.2.1, (x5.2.2.2.1, (x5.2.2.2.2.1, ((x5.2.2.2.2.2.1 ++ ((((1 : Int) + (HMod.hMod (x5.2.2.1[(Int.toNat x5.2.1)]'h7.2).1 (10 : Int))), (x5.2.2.1[(Int.toNat x5.2.1)]'h8.2).2) :: ([] : List (Int × Int)))), (x5.2.2.2.2.2.2.1, ((x5.2.2.2.2.2.2.2.1 ++ (((((1 : Int) + (HMod.hMod (x5.2.2.1[(Int.toNat x5.2.1)]'h7.2).1 (10 : Int))) + (10 : Int)), (x5.2.2.1[(Int.toNat x5.2.1)]'h8.2).2) :: ([] : List (Int × Int)))), ((x5.2.2.2.2.2.2.2.2.1 ++ ((((1 : Int) + (HMod.hMod (x5.2.2.1[(Int.toNat x5.2.1)]'h7.2).1 (10 : Int))), (x5.2.2.1[(Int.toNat x5.2.1)]'h8.2).2) :: ([] : List (Int × Int)))), ())))))))))))
       ((((List.length x5.2.2.2.2.2.2.1) + (List.length ((((1 : Int) + (HMod.hMod (x5.2.2.1[(Int.toNat x5.2.1)]'h7.2).1 (10 : Int))), (x5.2.2.1[(Int.toNat x5.2.1)]'h8.2).2) :: ([] : List (Int × Int))))) ≤ Go.Abs.big) ∧
       (((List.length x5.2.2.2.2.2.2.2.1) + (List.length ((((1 : Int) + (HMod.hMod (x5.2.2.1[(Int.toNat x5.2.1)]'h7.2).1 (10 : Int))), (x5.2.2.1[(Int.toNat x5.2.1)]'h8.2).2) :: ([] : List (Int × Int))))) ≤ Go.Abs.big) ∧
       (((List.length x5.2.2.2.2.2.2.2.2.1) + (List.length (((((1 : Int) + (HMod.hMod (x5.2.2.1[(Int.toNat x5.2.1)]'h7.2).1 (10 : Int))) + (10 : Int)), (x5.2.2.1[(Int.toNat x5.2.1)]'h8.2).2) :: ([] : List (Int × Int))))) ≤ Go.Abs.big) ∧
       (Go.Abs.fitsK Go.IntKind.i64 (x5.2.1 + (1 : Int))) ∧
       (K5 (x5.1, ((x5.2.1 + (1 : Int)), (x5.2.2.1, (x5.2.2.2.1, (x5.2.2.2.2.1, (x5.2.2.2.2.2.1, ((x5.2.2.2.2.2.2.1 ++ ((((1 : Int) + (HMod.hMod (x5.2.2.1[(Int.toNat x5.2.1)]'h7.2).1 (10 : Int))), (x5.2.2.1[(Int.toNat x5.2.1)]'h8.2).2) :: ([] : List (Int × Int)))), ((x5.2.2.2.2.2.2.2.1 ++ ((((1 : Int) + (HMod.hMod (x5.2.2.1[(Int.toNat x5.2.1)]'h7.2).1 (10 : Int))), (x5.2.2.1[(Int.toNat x5.2.1)]'h8.2).2) :: ([] : List (Int × Int)))), ((x5.2.2.2.2.2.2.2.2.1 ++ (((((1 : Int) + (HMod.hMod (x5.2.2.1[(Int.toNat x5.2.1)]'h7.2).1 (10 : Int))) + (10 : Int)), (x5.2.2.1[(Int.toNat x5.2.1)]'h8.2).2) :: ([] : List (Int × Int)))), ()))))))))))))
      ((Go.Abs.Ship.v42.p (x5.2.2.2.1, (x5.2.2.2.2.1, (x5.2.2.2.2.2.1, ())))) ∧
      (Go.Abs.Ship.v41.p (x5.2.2.2.2.2.1, (x5.2.2.2.1, (x5.2.2.2.2.1, ())))) ∧
      (Go.Abs.Ship.v42.p (x5.2.2.2.1, (x5.2.2.2.2.1, (x5.2.2.2.2.2.2.1, ())))) ∧
      (Go.Abs.Ship.v41.p (x5.2.2.2.2.2.2.1, (x5.2.2.2.1, (x5.2.2.2.2.1, ())))) ∧
      (Go.Abs.Ship.v42.p (x5.2.2.2.1, (x5.2.2.2.2.1, (x5.2.2.2.2.2.2.2.1, ())))) ∧
      (Go.Abs.Ship.v41.p (x5.2.2.2.2.2.2.2.1, (x5.2.2.2.1, (x5.2.2.2.2.1, ())))) ∧
      (Go.Abs.Ship.v42.p (x5.2.2.2.1, (x5.2.2.2.2.1, (x5.2.2.2.2.2.2.2.2.1, ())))) ∧
      (Go.Abs.Ship.v41.p (x5.2.2.2.2.2.2.2.2.1, (x5.2.2.2.1, (x5.2.2.2.2.1, ())))) ∧
      br ((((Go.Abs.Ship.fewestOf x5.2.2.2.2.2.2.2.1) == (ite ((Go.Abs.Ship.fewestOf x5.2.2.2.2.2.2.1) > (Go.Abs.Ship.fewestOf x5.2.2.2.2.2.1)) (Go.Abs.Ship.fewestOf x5.2.2.2.2.2.2.1) (Go.Abs.Ship.fewestOf x5.2.2.2.2.2.1))) == Bool.true))
       ((Go.Abs.fitsK Go.IntKind.i64 ((Go.Abs.Ship.fewestOf x5.2.2.2.2.2.1) + (Go.Abs.Ship.fewestOf x5.2.2.2.2.2.2.1))) ∧
       br ((((Go.Abs.Ship.fewestOf x5.2.2.2.2.2.2.2.2.1) == ((Go.Abs.Ship.fewestOf x5.2.2.2.2.2.1) + (Go.Abs.Ship.fewestOf x5.2.2.2.2.2.2.1))) == Bool.true))
        ((Go.Abs.Ship.v18.p ()) ∧
        (k (Go.Abs.AVal.bool Bool.true) []))
        ((k (Go.Abs.AVal.bool Bool.false) [])))
       ((k (Go.Abs.AVal.bool Bool.false) [])))) (((HMod.hMod many ((((List.length bs) : Nat) : Int) + (1 : Int))), ((0 : Int), (bs, (st, (fl, (([] : List (Int × Int)), (([] : List (Int × Int)), (([] : List (Int × Int)), (([] : List (Int × Int)), ())))))))))))
theorem eq14 (bs : List (Int × Int)) (st fl : Int) (many : Int) (k : AVal → List Cont → Prop) : awpF (envOf [(40, mkC [v40]), (18, mkC [v18]), (41, mkC [v41]), (42, mkC [v42])]) Try.prog kt 14 false Try.f14 (v14.args (bs, st, fl, many, ())) (v14.conts (bs, st, fl, many, ())) k = vc14 bs st fl many k := by kernel_rfl
theorem tx14 : (Try.f14.body.map Code.textsOk).getD true = true := by kernel_rfl

def vc15  (k : AVal → List Cont → Prop) : Prop :=
  (Go.Abs.Ship.v49.p ((3 : Int), ((40 : Int), ()))) ∧
  (Go.Abs.Ship.v49.p ((4 : Int), ((35 : Int), ()))) ∧
  (Go.Abs.Ship.v50.p (((0 : Int) :: ((0 : Int) :: ((1 : Int) :: ((1 : Int) :: ((2 : Int) :: ((2 : Int) :: ([] : List Int))))))), ())) ∧
  (Go.Abs.Ship.v19.p (Go.Abs.Ship.sixB, ((4 : Int), ((35 : Int), (((0 : Int) :: ((0 : Int) :: ((1 : Int) :: ((1 : Int) :: ((2 : Int) :: ((2 : Int) :: ([] : List Int))))))), ()))))) ∧
  (Go.Abs.Ship.v34.p (Go.Abs.Ship.sixB, ((3 : Int), ((40 : Int), (([] : List Int), ()))))) ∧
  (Go.Abs.Ship.v50.p (((0 : Int) :: ((0 : Int) :: ([] : List Int))), ())) ∧
  (Go.Abs.Ship.v34.p (Go.Abs.Ship.sixB, ((3 : Int), ((40 : Int), (((0 : Int) :: ((0 : Int) :: ([] : List Int))), ()))))) ∧
  (Go.Abs.Ship.v50.p (((0 : Int) :: ((0 : Int) :: ((1 : Int) :: ((0 : Int) :: ([] : List Int))))), ())) ∧
  (Go.Abs.Ship.v34.p (Go.Abs.Ship.sixB, ((3 : Int), ((40 : Int), (((0 : Int) :: ((0 : Int) :: ((1 : Int) :: ((0 : Int) :: ([] : List Int))))), ()))))) ∧
  (Go.Abs.Ship.v36.p (Go.Abs.Ship.sixB, ((3 : Int), ((40 : Int), ())))) ∧
  (Go.Abs.Ship.v42.p ((1 : Int), ((1 : Int), (([] : List (Int × Int)), ())))) ∧
  (Go.Abs.Ship.v23.p (([] : List (Int × Int)), ((1 : Int), ((1 : Int), ())))) ∧
  (Go.Abs.Ship.v50.p (((0 : Int) :: ((1 : Int) :: ((2 : Int) :: ([] : List Int)))), ())) ∧
  (Go.Abs.Ship.v30.p ((Go.Abs.Ship.chL Go.Abs.Ship.sixB (3 : Int) (40 : Int) ([] : List Int)), (((0 : Int) :: ((1 : Int) :: ((2 : Int) :: ([] : List Int)))), ()))) ∧
  (Go.Abs.Ship.v50.p (((1 : Int) :: ((2 : Int) :: ([] : List Int))), ())) ∧
  (Go.Abs.Ship.v30.p ((Go.Abs.Ship.chL Go.Abs.Ship.sixB (3 : Int) (40 : Int) ((0 : Int) :: ((0 : Int) :: ([] : List Int)))), (((1 : Int) :: ((2 : Int) :: ([] : List Int))), ()))) ∧
  (Go.Abs.Ship.v21.p (Go.Abs.Ship.sixB, ((3 : Int), ((40 : Int), ())))) ∧
  (Go.Abs.Ship.v18.p ()) ∧
  (k (Go.Abs.AVal.bool Bool.true) [])
theorem eq15  (k : AVal → List Cont → Prop) : awpF (envOf [(49, mkC [v49]), (50, mkC [v50]), (19, mkC [v19]), (34, mkC [v34]), (36, mkC [v36]), (23, mkC [v23]), (42, mkC [v42]), (21, mkC [v21]), (30, mkC [v30]), (18, mkC [v18])]) Try.prog kt 15 false Try.f15 (v15.args ()) (v15.conts ()) k = vc15  k := by kernel_rfl
theorem tx15 : (Try.f15.body.map Code.textsOk).getD true = true := by kernel_rfl

end Go.Abs.Ship
end

section
/- Room for more numbers (slices.Grow); the examples of the chapter; the statements that two ways agree. -/
open Go.Proofs
set_option maxRecDepth 100000
set_option linter.unusedVariables false
namespace Go.Abs.Ship
open Go.Shelf

theorem grow_spec {n : Int} (h1 : 1 ≤ n) (h2 : n ≤ 1000000) {k : AVal → List Cont → Prop} (hk : k (.reg 0 false) [.sl (.int .i64) []]) : ASpec Try.prog 86 [.imm (.int .i64) [] true, .int .i64 n] [] k := by
  intro F K H w vs hok hargs hm hfr
  obtain ⟨v0, vs', rfl, hr0, hargs'⟩ := hargs.inv
  obtain ⟨v1, vs'', rfl, hr1, hargs''⟩ := hargs'.inv
  obtain rfl : vs'' = [] := RepL.nil_iff.1 hargs''
  clear hargs hargs' hargs''
  simp only [Rep] at hr0 hr1
  subst hr1
  obtain ⟨base, cap, rfl, e1, e2, _⟩ := hr0
  have e2 : cap = 0 := e2 rfl
  subst e2
  obtain ⟨i0, hi0, hz0, hs0, hb0⟩ : ∃ i, Try.prog.info? (Try.layGrow_ren.t 25) = some i ∧ i.zero = some (.int .i64 0) ∧ i.size = 1 ∧ i.bytes = 8 := ⟨Try.t3, by kernel_rfl, by kernel_rfl, by kernel_rfl, by kernel_rfl⟩
  have en : n = ((n.toNat : Nat) : Int) := by omega
  have := Any8.slices_Grow_grow Try.layGrow i0 (.int .i64 0) hi0 hz0 (by omega) base 0 0 n.toNat [] w (Nat.le_refl _) (by omega) (by rw [hb0]; omega) (by omega) (by simp) (fun _ => rfl) (fun a _ j v hj => by simp at hj)
  rw [← en] at this
  refine Calls.mono this ?_
  rintro e w' ⟨rfl, rfl⟩
  have hG := grownCap_ge w (0 + n.toNat) 0 (Try.layGrow_ren.t 25)
  generalize grownCap w (0 + n.toNat) 0 (Try.layGrow_ren.t 25) = G at hG ⊢
  have hokd : WOk F K w.drew := ⟨hok.knows, hok.lt, hok.inv, hok.apart⟩
  have hmd : MRel F K H w.drew (fun _ => none) := mrel_nil
  have hA := after_alloc hokd hmd (nx := 0) (hfr 0 (Nat.le_refl _)) (([] : List Value).toArray ++ Builtin.zeroCells (Value.int .i64 0).cells (0 + n.toNat - 0) ++ Builtin.zeroCells (Value.int .i64 0).cells (G - (0 + n.toNat))) (Try.layGrow_ren.t 25)
    (.sl (.int .i64) []) ⟨some w.heap.size, 1, 0, G⟩ rfl (by
      refine ⟨rfl, rfl, Nat.zero_le _, .inr ⟨w.heap.size, _, _, (0, 0), rfl, alloc_new w.drew _, ?_, fun i hi => by simp at hi⟩⟩
      simp only [Ty.size, Nat.mul_one, Array.size_append, Builtin.zeroCells, Array.size_map, Array.size_range, Value.cells]
      simp; omega)
    (.reg 0 false) (.slice (some ⟨w.heap.size, 0, none⟩) 0 G) (by simp only [Rep]; exact ⟨_, upd_same _ _ _, rfl, by simp⟩) []
  obtain ⟨a1, a2, a3, a4, a5, a6, a7, a8⟩ := hA
  refine ⟨_, .reg 0 false, [.sl (.int .i64) []], K, _, rfl, hk, .refl K, a4, a5, fun r hr => ?_, a6, ?_, .refl _ _, Nat.zero_le _, fun r hr => absurd hr (Nat.not_lt_zero _)⟩
  · have hr : 1 ≤ r := hr
    rw [upd_ne _ _ _ _ (by omega)]
    exact hfr r (Nat.zero_le _)
  · exact Kept.trans (b := w.drew) ⟨rfl, rfl, rfl, Nat.le_refl _, fun _ _ => rfl, Nat.le_succ _⟩ a7

theorem grow_kept : ∀ us cs k, cGrow.run us cs k → ASpec Try.prog 86 us cs k := by
  rintro us cs k ⟨h1, h2⟩
  have h1 : growPre us cs := h1
  unfold growPre at h1
  split at h1
  · exact grow_spec h1.1 h1.2 h2
  · exact h1.elim
theorem g86 {l : List (FuncId × Contract)} (hG : Good Try.prog (envOf l)) : Good Try.prog (envOf ((86, cGrow) :: l)) := by
  obtain ⟨c, hc⟩ := Option.isSome_iff_exists.1 (show Try.f86.body.isSome = true by kernel_rfl)
  exact good_cons hG Try.func86 hc (by kernel_rfl) grow_kept
end Go.Abs.Ship
end

section
/- Plain laws of stows: what is found is good. -/
set_option linter.unusedVariables false
namespace Go.Abs.Ship

theorem goF_spec (bs : List (Int × Int)) (st fl : Int) : ∀ (f : Nat) (s x : List Int), goF bs st fl f s = some x → goodB bs st fl x = true ∧ x.length = bs.length ∧ ∃ t, x = s ++ t ∧ allIn st t
  | 0, s, x, h => by simp [goF] at h
  | f + 1, s, x, h => by
    unfold goF at h
    split at h
    · cases h
    · rename_i hg
      split at h
      · rename_i hl
        cases h
        exact ⟨by simpa using hg, hl, [], by simp, fun j hj => by simp at hj⟩
      · obtain ⟨k, hk, h2⟩ := List.exists_of_findSome?_eq_some h
        obtain ⟨g1, g2, t, g3, g4⟩ := goF_spec bs st fl f _ _ h2
        refine ⟨g1, g2, (k : Int) :: t, by rw [g3]; simp, fun j hj => ?_⟩
        rcases List.mem_cons.1 hj with rfl | hj
        · unfold cands at hk
          have := List.mem_range.1 (List.mem_filter.1 hk).1
          omega
        · exact g4 j hj
theorem goOn_spec {bs : List (Int × Int)} {st fl : Int} {s x : List Int} (h : goOn bs st fl s = some x) : goodB bs st fl x = true ∧ x.length = bs.length ∧ ∃ t, x = s ++ t ∧ allIn st t := goF_spec bs st fl _ s x h
end Go.Abs.Ship
end

section
/- The ship's statements: the examples of the chapter; that two ways agree. -/
open Go.Proofs
set_option maxRecDepth 100000
set_option linter.unusedVariables false
namespace Go.Abs.Ship

theorem br_yes {b : Bool} {p q : Prop} (h : b = true) (hp : p) : br b p q := by subst h; exact hp
theorem br_no {b : Bool} {p q : Prop} (h : b = false) (hq : q) : br b p q := by subst h; exact hq
theorem eqb (a : Int) : (a == a) = true := by simp
theorem eqbt (a : Int) : ((a == a) == true) = true := by simp
theorem neb (a : Int) : ((a != a) == false) = true := by simp
theorem eqLt (a : List Int) : (eqL a a == true) = true := by simp [eqL]
theorem neqL (a : List Int) : ((!eqL a a) == false) = true := by simp [eqL]
theorem nat_le {a b : Nat} (h : Nat.ble a b = true) : a ≤ b := Nat.le_of_ble_eq_true h

theorem k18 (hG : Good Try.prog (envOf [(49, mkC [v49]), (50, mkC [v50]), (19, mkC [v19]), (23, mkC [v23]), (27, mkC [v27]), (25, mkC [v25]), (32, mkC [v32]), (34, mkC [v34]), (36, mkC [v36]), (38, mkC [v38]), (29, mkC [v29]), (30, mkC [v30]), (31, mkC [v31])])) : v18.Kept Try.prog 18 := by
  rintro ⟨⟩ hpre k hk
  refine aspec hmix hG Try.func18 tx18 (Eq.mpr (eq18  k) ?_)
  replace hk : k (.bool true) [] := hk
  unfold vc18
  have hs : smoothest sixB (smoothN sixB 2 40) = true := by kernel_rfl
  rw [hs]
  exact ⟨trivial, trivial, trivial, trivial, ⟨nat_le (by kernel_rfl), nat_le (by kernel_rfl)⟩, trivial, ⟨nat_le (by kernel_rfl), nat_le (by kernel_rfl)⟩, trivial, ⟨nat_le (by kernel_rfl), nat_le (by kernel_rfl)⟩, trivial, ⟨nat_le (by kernel_rfl), nat_le (by kernel_rfl)⟩, trivial, ⟨nat_le (by kernel_rfl), nat_le (by kernel_rfl)⟩, nat_le (by kernel_rfl), nat_le (by kernel_rfl), trivial, ⟨nat_le (by kernel_rfl), nat_le (by kernel_rfl)⟩, trivial, ⟨nat_le (by kernel_rfl), nat_le (by kernel_rfl)⟩, trivial, ⟨nat_le (by kernel_rfl), nat_le (by kernel_rfl)⟩, nat_le (by kernel_rfl), nat_le (by kernel_rfl), nat_le (by kernel_rfl), trivial, ⟨nat_le (by kernel_rfl), nat_le (by kernel_rfl)⟩, trivial, ⟨nat_le (by kernel_rfl), nat_le (by kernel_rfl)⟩, nat_le (by kernel_rfl), trivial, ⟨nat_le (by kernel_rfl), nat_le (by kernel_rfl)⟩, nat_le (by kernel_rfl), trivial, ⟨nat_le (by kernel_rfl), nat_le (by kernel_rfl)⟩, trivial, ⟨nat_le (by kernel_rfl), nat_le (by kernel_rfl)⟩, trivial, ⟨nat_le (by kernel_rfl), nat_le (by kernel_rfl)⟩, trivial, ⟨nat_le (by kernel_rfl), nat_le (by kernel_rfl)⟩, trivial, ⟨nat_le (by kernel_rfl), nat_le (by kernel_rfl)⟩, trivial, ⟨nat_le (by kernel_rfl), nat_le (by kernel_rfl)⟩, ⟨nat_le (by kernel_rfl), nat_le (by kernel_rfl)⟩, hk⟩

theorem k15 (hG : Good Try.prog (envOf [(49, mkC [v49]), (50, mkC [v50]), (19, mkC [v19]), (34, mkC [v34]), (36, mkC [v36]), (23, mkC [v23]), (42, mkC [v42]), (21, mkC [v21]), (30, mkC [v30]), (18, mkC [v18])])) : v15.Kept Try.prog 15 := by
  rintro ⟨⟩ hpre k hk
  refine aspec hmix hG Try.func15 tx15 (Eq.mpr (eq15  k) ?_)
  replace hk : k (.bool true) [] := hk
  unfold vc15
  exact ⟨trivial, trivial, trivial, ⟨nat_le (by kernel_rfl), nat_le (by kernel_rfl)⟩, ⟨nat_le (by kernel_rfl), nat_le (by kernel_rfl)⟩, trivial, ⟨nat_le (by kernel_rfl), nat_le (by kernel_rfl)⟩, trivial, ⟨nat_le (by kernel_rfl), nat_le (by kernel_rfl)⟩, nat_le (by kernel_rfl), trivial, nat_le (by kernel_rfl), trivial, ⟨nat_le (by kernel_rfl), nat_le (by kernel_rfl)⟩, trivial, ⟨nat_le (by kernel_rfl), nat_le (by kernel_rfl)⟩, nat_le (by kernel_rfl), trivial, hk⟩

theorem small {l : List Int} {n : Nat} (h : l.length ≤ n) (hn : n ≤ 1000) : l.length ≤ big60 := by simp only [big60]; omega
theorem great_no {bs : List (Int × Int)} (h : (great bs == false) = true) : bs.length ≤ 16 := by simp [great] at h; exact h
theorem long_no {l : List Int} (h : longL l = false) : l.length ≤ 20 := by simp [longL] at h; exact h

theorem k3 (hG : Good Try.prog (envOf [(16, mkC [v16]), (17, mkC [v17]), (18, mkC [v18]), (19, mkC [v19]), (20, mkC [v20]), (21, mkC [v21]), (22, mkC [v22])])) : v3.Kept Try.prog 3 := by
  rintro ⟨bs, st, fl, s, ⟨⟩⟩ hpre k hk
  change List (Int × Int) at bs
  change Int at st fl
  change List Int at s
  refine aspec hmix hG Try.func3 tx3 (Eq.mpr (eq3 bs st fl s k) ?_)
  replace hk : k (.bool true) [] := hk
  unfold vc3
  refine ⟨trivial, br_intro (fun h1 => ⟨trivial, br_intro (fun _ => ⟨trivial, hk⟩) (fun h2 => ?_)⟩) (fun _ => ⟨trivial, hk⟩)⟩
  have hb := great_no h1
  have hl := small (long_no h2) (by omega)
  exact ⟨⟨hb, hl⟩, ⟨hb, hl⟩, hb, hb, br_yes (eqbt _) (br_yes (eqbt _) (br_yes (eqbt _) (br_yes (eqbt _) ⟨trivial, hk⟩)))⟩

theorem smoothN_len (bs : List (Int × Int)) (st fl : Int) (h : checkLoad bs st fl = 0) : (smoothN bs st fl).length = bs.length := by
  unfold smoothN
  rw [if_neg (by omega), fewS_len]; simp [allOf]
theorem smoothN_le (bs : List (Int × Int)) (st fl : Int) : (smoothN bs st fl).length ≤ 9 := by
  by_cases h : checkLoad bs st fl = 0
  · rw [smoothN_len bs st fl h]; exact (fine_spec h).1
  · unfold smoothN; rw [if_pos h]; simp
theorem risingN_le (bs : List (Int × Int)) (st fl : Int) : (risingN bs st fl).length ≤ 9 := by
  unfold risingN
  by_cases h : checkLoad bs st fl = 0
  · rw [if_neg (by omega)]
    obtain ⟨f1, f2, f3, f4, f5, f6⟩ := fine_spec h
    have := fewest_rising f6
    have hp := ports_le bs
    unfold fewestOf at this
    omega
  · rw [if_pos h]; simp

theorem k4 (hG : Good Try.prog (envOf [(16, mkC [v16]), (17, mkC [v17]), (18, mkC [v18]), (23, mkC [v23]), (24, mkC [v24]), (25, mkC [v25]), (26, mkC [v26]), (27, mkC [v27]), (28, mkC [v28]), (29, mkC [v29]), (30, mkC [v30]), (31, mkC [v31])])) : v4.Kept Try.prog 4 := by
  rintro ⟨bs, st, fl, s, ⟨⟩⟩ hpre k hk
  change List (Int × Int) at bs
  change Int at st fl
  change List Int at s
  refine aspec hmix hG Try.func4 tx4 (Eq.mpr (eq4 bs st fl s k) ?_)
  replace hk : k (.bool true) [] := hk
  unfold vc4
  refine ⟨trivial, br_intro (fun h1 => ⟨trivial, br_intro (fun _ => ⟨trivial, hk⟩) (fun h2 => ?_)⟩) (fun _ => ⟨trivial, hk⟩)⟩
  have hb := great_no h1
  have hl := small (long_no h2) (by omega)
  have hr := small (risingN_le bs st fl) (by omega)
  have hs := small (smoothN_le bs st fl) (by omega)
  have hlong : longL (smoothN bs st fl) = false := by have := smoothN_le bs st fl; simp [longL]; omega
  refine ⟨hb, hb, ⟨hb, hl⟩, ⟨hb, hl⟩, hb, hb, hb, br_yes (neb _) (br_yes (neb _) (br_yes (neb _) (br_yes (neb _) ⟨⟨hr, hr⟩, br_yes (neqL _) (br_yes (neb _) (br_yes (neb _) ⟨trivial, br_no hlong ?_⟩))⟩)))⟩
  refine br_intro (fun h => br_yes ?_ ⟨trivial, hk⟩) (fun h => ⟨⟨hb, hs⟩, br_yes ?_ ⟨trivial, hk⟩⟩)
  · have e : smoothN bs st fl = [] := by unfold smoothN; rw [if_pos (by simpa using h)]
    rw [e]; rfl
  · have h0 : checkLoad bs st fl = 0 := by simpa using h
    have e : smoothN bs st fl = fewS bs (allOf bs) := by unfold smoothN; rw [if_neg (by omega)]
    rw [e, few_smoothest]; rfl

theorem stowL_le (bs : List (Int × Int)) (st fl : Int) : (stowL bs st fl).length ≤ bs.length := by
  unfold stowL goL
  split
  · cases h : goOn bs st fl [] with
    | none => simp
    | some x => simp; exact Nat.le_of_eq (goOn_spec h).2.1
  · simp
theorem chL_le (bs : List (Int × Int)) (st fl : Int) (s : List Int) : (chL bs st fl s).length ≤ 5 := by
  unfold chL
  by_cases h : chE bs st fl s = 0
  · rw [if_pos h, List.length_map]
    refine Nat.le_trans (List.length_filter_le _ _) ?_
    rw [List.length_range]
    have : checkLoad bs st fl = 0 := by
      unfold chE at h
      split at h
      · rename_i h2; exact absurd h h2
      · rename_i h2; omega
    have := fine_spec this
    omega
  · rw [if_neg h]; simp

theorem k5 (hG : Good Try.prog (envOf [(16, mkC [v16]), (17, mkC [v17]), (18, mkC [v18]), (32, mkC [v32]), (33, mkC [v33]), (34, mkC [v34]), (35, mkC [v35]), (30, mkC [v30])])) : v5.Kept Try.prog 5 := by
  rintro ⟨bs, st, fl, s, ⟨⟩⟩ hpre k hk
  change List (Int × Int) at bs
  change Int at st fl
  change List Int at s
  refine aspec hmix hG Try.func5 tx5 (Eq.mpr (eq5 bs st fl s k) ?_)
  replace hk : k (.bool true) [] := hk
  unfold vc5
  refine ⟨trivial, br_intro (fun h1 => ⟨trivial, br_intro (fun _ => ⟨trivial, hk⟩) (fun h2 => ?_)⟩) (fun _ => ⟨trivial, hk⟩)⟩
  have hb := great_no h1
  have hl := small (long_no h2) (by omega)
  have h3 := small (Nat.le_trans (stowL_le bs st fl) hb) (by omega)
  have h4 := small (chL_le bs st fl s) (by omega)
  exact ⟨hb, hb, ⟨hb, hl⟩, ⟨hb, hl⟩, ⟨h3, h3⟩, br_yes (eqLt _) (br_yes (eqbt _) ⟨⟨h4, h4⟩, br_yes (eqLt _) (br_yes (eqbt _) ⟨trivial, hk⟩)⟩)⟩

theorem leftL_le (bs : List (Int × Int)) (st fl : Int) (hb : bs.length ≤ 16) : (leftL bs st fl).length ≤ 16 := by
  unfold leftL
  by_cases h : checkLoad bs st fl = 0
  · rw [if_neg (by omega)]
    obtain ⟨f1, f2, f3, f4, f5, f6⟩ := fine_spec h
    have := (leftOf_spec bs (show 0 ≤ st by omega)).1.list
    exact Nat.le_trans (isList_len this) hb
  · rw [if_pos h]; simp
theorem outL_le (bs : List (Int × Int)) (st fl : Int) (s : List Int) : (outL bs st fl s).length ≤ 900 := by
  unfold outL
  by_cases h : stowErr bs st fl s = 0
  · rw [if_pos h]
    obtain ⟨g1, g2, g3, g4⟩ := stow_spec h
    obtain ⟨f1, f2, f3, f4, f5, f6⟩ := fine_spec g1
    have := outPorts_len bs s st 20
    have hm : st.toNat * s.length ≤ 5 * 9 := Nat.mul_le_mul (by omega) (by omega)
    have e0 : outOrder bs s st = outPorts bs s st 20 := rfl
    rw [e0]; omega
  · rw [if_neg h]; simp

theorem k6 (hG : Good Try.prog (envOf [(16, mkC [v16]), (17, mkC [v17]), (18, mkC [v18]), (36, mkC [v36]), (37, mkC [v37]), (38, mkC [v38]), (39, mkC [v39]), (30, mkC [v30])])) : v6.Kept Try.prog 6 := by
  rintro ⟨bs, st, fl, s, ⟨⟩⟩ hpre k hk
  change List (Int × Int) at bs
  change Int at st fl
  change List Int at s
  refine aspec hmix hG Try.func6 tx6 (Eq.mpr (eq6 bs st fl s k) ?_)
  replace hk : k (.bool true) [] := hk
  unfold vc6
  refine ⟨trivial, br_intro (fun h1 => ⟨trivial, br_intro (fun _ => ⟨trivial, hk⟩) (fun h2 => ?_)⟩) (fun _ => ⟨trivial, hk⟩)⟩
  have hb := great_no h1
  have hl := small (long_no h2) (by omega)
  have h3 := small (leftL_le bs st fl hb) (by omega)
  have h4 := small (outL_le bs st fl s) (by omega)
  exact ⟨hb, hb, ⟨hb, hl⟩, ⟨hb, hl⟩, ⟨h3, h3⟩, br_yes (eqLt _) (br_yes (eqbt _) ⟨⟨h4, h4⟩, br_yes (eqLt _) (br_yes (eqbt _) ⟨trivial, hk⟩)⟩)⟩
end Go.Abs.Ship
end

