/- Part 8 of the road to this seat's statements: lemmas about a small interpreter over the model's code, and about the functions that it is used on. No condition of its own. -/
import Derived.Test.YtikflleolfmfeaaW7

section
/- Plain laws: boxes that rise stand in stacks of their own. -/
set_option linter.unusedVariables false
namespace Go.Abs.Ship

theorem nodup_le {α : Type} [BEq α] [LawfulBEq α] : ∀ (l m : List α), l.Nodup → (∀ x ∈ l, x ∈ m) → l.length ≤ m.length
  | [], m, _, _ => Nat.zero_le _
  | a :: l, m, h, hs => by
    obtain ⟨h1, h2⟩ := List.nodup_cons.1 h
    have ha := hs a (List.mem_cons_self ..)
    have := nodup_le l (m.erase a) h2 (fun x hx => by
      refine (List.mem_erase_of_ne (fun e => ?_)).2 (hs x (List.mem_cons_of_mem _ hx))
      subst e; exact h1 hx)
    rw [List.length_erase_of_mem ha] at this
    have := List.length_pos_of_mem ha
    simp only [List.length_cons]; omega

theorem wFrom_ge {bs : List (Int × Int)} (h : anyBad bs = false) (k : Int) : ∀ (s : List Int) (i j : Nat) (hj : j < s.length), s[j] = k → wt bs ((i + j : Nat) : Int) ≤ wFrom bs i s k
  | x :: r, i, 0, hj, e => by
    have e : x = k := e
    have := (wFrom_spec h k r (i + 1)).1
    simp only [wFrom, e, if_true, Nat.add_zero]; omega
  | x :: r, i, j + 1, hj, e => by
    have e : r[j]'(by simpa using hj) = k := e
    have h1 := wFrom_ge h k r (i + 1) j (by simpa using hj) e
    rw [show i + 1 + j = i + (j + 1) by omega] at h1
    have := (wt_spec h i).1
    simp only [wFrom]
    split <;> omega
theorem wAt_pos {bs : List (Int × Int)} (h : anyBad bs = false) {s : List Int} {j : Nat} (hj : j < s.length) (hb : j < bs.length) : 0 < wAt bs s (s[j]) := by
  have := wFrom_ge h (s[j]) s 0 j hj rfl
  have h2 := box_spec h hb
  rw [Nat.zero_add, wt_eq hb] at this
  unfold wAt; omega

/-- The stacks of boxes that rise. -/
theorem rise_stacks {bs : List (Int × Int)} (hg : anyBad bs = false) {s : List Int} (hs : smoothB bs s = true) (hl : s.length = bs.length) {l : List Int} (hr : Ris bs l) : (l.map (fun i => s.getD i.toNat 0)).Nodup := by
  obtain ⟨h1, h2⟩ := (ris_iff hg).1 hr
  rw [List.nodup_iff_pairwise_ne, List.pairwise_map]
  refine List.Pairwise.imp_of_mem (fun {a b} ha hb hab e => ?_) h2
  obtain ⟨a0, a1⟩ := h1 a ha
  obtain ⟨b0, b1⟩ := h1 b hb
  have := smoothB_iff.1 hs b.toNat (by omega) a.toNat (by omega) e
  rw [show ((b.toNat : Nat) : Int) = b by omega, show ((a.toNat : Nat) : Int) = a by omega] at this
  omega
theorem rise_count {bs : List (Int × Int)} (hg : anyBad bs = false) {s : List Int} (hs : smoothB bs s = true) (hl : s.length = bs.length) {l : List Int} (hr : Ris bs l) (p : List Int) (hp : ∀ i (h : i < s.length), s[i] ∈ p) : l.length ≤ p.length := by
  have := nodup_le _ p (rise_stacks hg hs hl hr) (fun x hx => by
    obtain ⟨i, hi, rfl⟩ := List.mem_map.1 hx
    obtain ⟨a0, a1⟩ := ((ris_iff hg).1 hr).1 i hi
    rw [getD_at (by omega)]
    exact hp _ (by omega))
  simpa using this
theorem fewest_stacks {bs : List (Int × Int)} (hg : anyBad bs = false) {s : List Int} (hs : smoothB bs s = true) (hl : s.length = bs.length) (p : List Int) (hp : ∀ i (h : i < s.length), s[i] ∈ p) : fewestOf bs ≤ (p.length : Int) := by
  obtain ⟨l, h1, h2⟩ := fewest_ge hg
  have := rise_count hg hs hl h1 p hp
  omega
theorem fewest_st {bs : List (Int × Int)} (hg : anyBad bs = false) {s : List Int} (hs : smoothB bs s = true) (hl : s.length = bs.length) {st : Int} (h0 : 0 ≤ st) (ha : allIn st s) : fewestOf bs ≤ st := by
  have := fewest_stacks hg hs hl ((List.range st.toNat).map Int.ofNat) (fun i h => by
    obtain ⟨a0, a1⟩ := ha _ (List.getElem_mem h)
    exact List.mem_map.2 ⟨(s[i]).toNat, List.mem_range.2 (by omega), by show ((s[i].toNat : Nat) : Int) = _; omega⟩)
  simp only [List.length_map, List.length_range] at this
  omega
theorem csN_fewest {bs : List (Int × Int)} {st fl : Int} {s : List Int} (h : csErr bs st fl s = 0) : fewestOf bs ≤ csN bs st fl s := by
  have hse : stowErr bs st fl s = 0 := by
    unfold csErr at h
    split at h
    · rename_i h2; exact absurd h h2
    · rename_i h2; omega
  obtain ⟨g1, g2, g3, g4⟩ := stow_spec hse
  obtain ⟨f1, f2, f3, f4, f5, f6⟩ := fine_spec g1
  have ha := allIn_of g3
  have := fewest_stacks f6 g4 g2 (((List.range 5).filter (fun k : Nat => decide (0 < wAt bs s (k : Int)))).map Int.ofNat) (fun i hi => by
    obtain ⟨a0, a1⟩ := ha _ (List.getElem_mem hi)
    refine List.mem_map.2 ⟨(s[i]).toNat, List.mem_filter.2 ⟨List.mem_range.2 (by omega), ?_⟩, by show ((s[i].toNat : Nat) : Int) = _; omega⟩
    rw [decide_eq_true_eq, show ((s[i].toNat : Nat) : Int) = s[i] by omega]
    exact wAt_pos f6 hi (by omega))
  have e : csN bs st fl s = (((weights bs s 5).filter (fun w => decide (0 < w))).length : Int) := by unfold csN; rw [if_pos h]
  rw [e]
  unfold weights
  rw [List.filter_map, List.length_map]
  rw [List.length_map] at this
  exact this

theorem givenAt_in (bs : List (Int × Int)) {st : Int} (h : 1 ≤ st) (out : List Int) {f : Int} (hf : 0 ≤ f ∧ f < st) : 0 ≤ givenAt bs st out f ∧ givenAt bs st out f < st := by
  unfold givenAt
  have key : ∀ (l : List Nat) (a : Int), 0 ≤ a ∧ a < st → 0 ≤ l.foldl (givenPick bs st out f) a ∧ l.foldl (givenPick bs st out f) a < st := by
    intro l
    induction l with
    | nil => intro a ha; exact ha
    | cons k l ih =>
      intro a ha
      refine ih _ ?_
      unfold givenPick
      split
      · exact ⟨Int.emod_nonneg _ (by omega), Int.emod_lt_of_pos _ (by omega)⟩
      · exact ha
  exact key _ f hf
theorem givenFrom_in {st : Int} (h : 1 ≤ st) (bys : List Int) (i : Nat) : 0 ≤ givenFrom st bys i ∧ givenFrom st bys i < st := by
  unfold givenFrom
  split
  · omega
  · exact ⟨Int.emod_nonneg _ (by omega), Int.emod_lt_of_pos _ (by omega)⟩
theorem givenUp_in (bs : List (Int × Int)) {st : Int} (h : 1 ≤ st) (bys : List Int) : ∀ i, allIn st (givenUp bs st bys i)
  | 0 => fun j hj => by simp [givenUp] at hj
  | i + 1 => fun j hj => by
    simp only [givenUp, List.mem_append, List.mem_singleton] at hj
    rcases hj with hj | rfl
    · exact givenUp_in bs h bys i j hj
    · exact givenAt_in bs h _ (givenFrom_in h bys i)
theorem given_in (bs : List (Int × Int)) {st : Int} (h : 1 ≤ st) (bys : List Int) : allIn st (givenL bs st bys) := givenUp_in bs h bys _
theorem given_len (bs : List (Int × Int)) (st : Int) (bys : List Int) : (givenL bs st bys).length = bs.length := givenUp_len bs st bys _

theorem out_no {st : Int} {s : List Int} (ha : allIn st s) : anyOut 0 (st - 1) s = false := by
  rw [← Bool.not_eq_true]
  intro hh
  obtain ⟨y, hy, ho⟩ := List.any_eq_true.1 hh
  have := ha y hy
  simp only [outOf, decide_eq_true_eq] at ho
  omega
/-- A stow of right numbers: its error says whether it is smooth. -/
theorem stowErr_eq {bs : List (Int × Int)} {st fl : Int} (hf : Fine bs st fl) {s : List Int} (hl : s.length = bs.length) (ha : allIn st s) : stowErr bs st fl s = if smoothB bs s then 0 else 23 := by
  have hf' : checkLoad bs st fl = 0 := hf
  unfold stowErr
  rw [if_neg (by omega), if_neg (by omega), if_neg (by rw [out_no ha]; simp)]
  cases smoothB bs s <;> rfl
theorem csErr_eq {bs : List (Int × Int)} {st fl : Int} (hf : Fine bs st fl) {s : List Int} (hl : s.length = bs.length) (ha : allIn st s) : csErr bs st fl s = if smoothB bs s then (if goodB bs st fl s then 0 else 4) else 23 := by
  unfold csErr
  rw [stowErr_eq hf hl ha]
  cases hs : smoothB bs s
  · rfl
  · cases hg : goodB bs st fl s <;> simp
theorem light {bs : List (Int × Int)} (hg : anyBad bs = false) (hn : bs.length ≤ 9) {s : List Int} (hl : s.length ≤ bs.length) (st : Int) (hs : smoothB bs s = true) : goodB bs st 1000 s = true := by
  rw [goodB_eq, hs, Bool.and_true, List.all_eq_true]
  intro w hw
  unfold weights at hw
  obtain ⟨k, _, rfl⟩ := List.mem_map.1 hw
  have := (wAt_spec hg s (k : Int)).2
  simp only [decide_eq_true_eq]
  omega
theorem fine_fl {bs : List (Int × Int)} {st fl : Int} (hf : Fine bs st fl) {st' fl' : Int} (h1 : 1 ≤ st') (h2 : st' ≤ 5) (h3 : 1 ≤ fl') (h4 : fl' ≤ 1000) : Fine bs st' fl' := by
  obtain ⟨f1, f2, f3, f4, f5, f6⟩ := fine_spec hf
  show checkLoad bs st' fl' = 0
  unfold checkLoad
  rw [if_neg (by omega), if_neg (by rw [f6]; simp; omega)]
end Go.Abs.Ship
end

section
/- The ship's statements: THE STAGE'S THEOREM. -/
open Go.Proofs
set_option maxRecDepth 100000
set_option linter.unusedVariables false
namespace Go.Abs.Ship

theorem not_fine {bs : List (Int × Int)} {st fl : Int} (h : (Bool.not (fine bs st fl) == false) = true) : bs.length ≤ 16 ∧ Fine bs st fl := by
  simp [fine, great, clIs] at h
  exact h
theorem csErr_1000 {bs : List (Int × Int)} {st fl : Int} (hf : Fine bs st fl) (bys : List Int) : csErr bs st 1000 (givenL bs st bys) = 0 ∨ csErr bs st 1000 (givenL bs st bys) = 23 := by
  obtain ⟨f1, f2, f3, f4, f5, f6⟩ := fine_spec hf
  have hf2 := fine_fl hf f2 f3 (fl' := 1000) (by omega) (by omega)
  have hl := given_len bs st bys
  rw [csErr_eq hf2 hl (given_in bs f2 bys)]
  cases hs : smoothB bs (givenL bs st bys)
  · right; rfl
  · left
    rw [light f6 f1 (by omega) st hs]; rfl
theorem riseErr_listed {bs : List (Int × Int)} {st fl : Int} (hf : Fine bs st fl) (b : Nat) : riseErr bs st fl (listed b bs.length) = 0 ∨ riseErr bs st fl (listed b bs.length) = 16 := by
  have hf' : checkLoad bs st fl = 0 := hf
  unfold riseErr
  rw [if_neg (by omega), listed_isList]
  cases riseB bs 0 (listed b bs.length)
  · right; rfl
  · left; rfl
theorem riseN_le {bs : List (Int × Int)} {st fl : Int} (hf : Fine bs st fl) {b : Nat} (h : riseErr bs st fl (listed b bs.length) = 0) : riseN bs st fl (listed b bs.length) ≤ fewestOf bs := by
  obtain ⟨f1, f2, f3, f4, f5, f6⟩ := fine_spec hf
  have hf' : checkLoad bs st fl = 0 := hf
  unfold riseN
  rw [if_pos h]
  refine fewest_le f6 ⟨listed_isList _ _, ?_⟩
  unfold riseErr at h
  rw [if_neg (by omega), listed_isList] at h
  cases hr : riseB bs 0 (listed b bs.length)
  · rw [hr] at h; simp at h
  · rfl

theorem dec_yes {p : Prop} [Decidable p] (h : p) : (decide p == true) = true := by simp [h]

theorem k7 (hG : Good Try.prog (envOf [(40, mkC [v40]), (18, mkC [v18]), (41, mkC [v41]), (42, mkC [v42]), (43, mkC [v43]), (19, mkC [v19]), (44, mkC [v44]), (25, mkC [v25])])) : v7.Kept Try.prog 7 := by
  rintro ⟨bs, st, fl, bys, bits, ⟨⟩⟩ hpre k hk
  change List (Int × Int) at bs
  change Int at st fl
  change List Int at bys
  change Int at bits
  refine aspec hmix hG Try.func7 tx7 (Eq.mpr (eq7 bs st fl bys bits k) ?_)
  replace hk : k (.bool true) [] := hk
  unfold vc7
  obtain ⟨hby, hbits⟩ := hpre
  have hby : isBytes bys := hby
  have hbits : isHalf bits := hbits
  refine ⟨trivial, br_intro (fun h1 => br_intro (fun _ => ⟨trivial, hk⟩) (fun h2 => ?_)) (fun _ => ⟨trivial, hk⟩)⟩
  obtain ⟨hb, hf⟩ := not_fine h1
  obtain ⟨f1, f2, f3, f4, f5, f6⟩ := fine_spec hf
  have hlen : bys.length ≤ 20 := by simp only [decide_eq_false_iff_not] at h2; omega
  have hgl : (givenL bs st bys).length ≤ big60 := by rw [given_len]; simp only [big60]; omega
  have hll : (listed bits.toNat bs.length).length ≤ big60 := small (listed_len _ _) (by omega)
  simp only [Int.toNat_natCast]
  refine ⟨hf, trivial, ⟨hf, hlen, hby⟩, ⟨hb, hgl⟩, fits64 (by omega) (by omega), ⟨⟨hbits.1, by show bits < _; have := hbits.2; omega⟩, by show (0 : Int) ≤ (bs.length : Int); omega, by show (bs.length : Int) ≤ 40; omega⟩, ⟨hb, hll⟩, ?_⟩
  have c1 := csErr_1000 hf bys
  have c2 := riseErr_listed hf bits.toNat
  have d1 : csErr bs st 1000 (givenL bs st bys) = 0 → fewestOf bs ≤ csN bs st 1000 (givenL bs st bys) := csN_fewest
  have d2 : riseErr bs st fl (listed bits.toNat bs.length) = 0 → riseN bs st fl (listed bits.toNat bs.length) ≤ fewestOf bs := riseN_le hf
  generalize csErr bs st 1000 (givenL bs st bys) = e at c1 d1 ⊢
  generalize riseErr bs st fl (listed bits.toNat bs.length) = f at c2 d2 ⊢
  rcases c1 with rfl | rfl
  · have d0 := d1 rfl
    have d1 := dec_yes (d1 rfl)
    rcases c2 with rfl | rfl
    · have d3 := dec_yes (Int.le_trans (d2 rfl) d0)
      have d2 := dec_yes (d2 rfl)
      exact br_no rfl (br_no rfl (br_yes rfl (br_yes d1 (br_yes rfl (br_yes d3 (br_yes rfl (br_yes d2 ⟨trivial, hk⟩)))))))
    · exact br_no rfl (br_yes rfl (br_no rfl (br_yes rfl (br_yes d1 (br_no rfl (br_no rfl ⟨trivial, hk⟩))))))
  · rcases c2 with rfl | rfl
    · have d2 := dec_yes (d2 rfl)
      exact br_yes rfl (br_yes rfl (br_no rfl (br_no rfl (br_yes rfl (br_yes d2 ⟨trivial, hk⟩)))))
    · exact br_yes rfl (br_yes rfl (br_yes rfl (br_no rfl (br_no rfl (br_no rfl ⟨trivial, hk⟩)))))
end Go.Abs.Ship
end

section
/- The ship's statements: the order in which boxes go out. -/
open Go.Proofs
set_option maxRecDepth 100000
set_option linter.unusedVariables false
namespace Go.Abs.Ship

theorem cmp_port {bs : List (Int × Int)} {s : List Int} {x y : Int} (h : cmpOut bs s x y < 0) : pt bs x ≤ pt bs y := by
  unfold cmpOut at h
  split at h
  · omega
  · omega
/-- Which boxes are out. -/
def outTo (n : Nat) (x : List Int) (i : Nat) : List Int := (List.range n).map (fun b : Nat => if (b : Int) ∈ x.take i then 1 else 0)
theorem outTo_len (n : Nat) (x : List Int) (i : Nat) : (outTo n x i).length = n := by simp [outTo]
theorem outTo_get {n : Nat} {x : List Int} {i b : Nat} (h : b < (outTo n x i).length) : (outTo n x i)[b] = if (b : Int) ∈ x.take i then 1 else 0 := by simp [outTo]
theorem outTo_zero (n : Nat) (x : List Int) : outTo n x 0 = List.replicate n 0 := by
  apply List.ext_getElem
  · simp [outTo]
  · intro i h1 h2
    rw [outTo_get]; simp
theorem outTo_succ {n : Nat} {x : List Int} {i b : Nat} (h : i < x.length) (e : x[i] = (b : Int)) : (outTo n x i).set b 1 = outTo n x (i + 1) := by
  apply List.ext_getElem
  · simp [outTo]
  · intro j h1 h2
    rw [List.getElem_set, outTo_get, outTo_get, List.take_succ_eq_append_getElem h, e]
    by_cases hj : b = j
    · subst hj; simp
    · rw [if_neg hj]
      have : ((j : Int) = (b : Int)) ↔ False := ⟨fun h => hj (by omega), False.elim⟩
      simp only [List.mem_append, List.mem_singleton, this, or_false]
def portTo (bs : List (Int × Int)) (x : List Int) : Nat → Int
  | 0 => 0
  | i + 1 => pt bs (x.getD i 0)

theorem k11 (hG : Good Try.prog (envOf [(40, mkC [v40]), (18, mkC [v18]), (43, mkC [v43]), (38, mkC [v38]), (45, mkC [v45])])) : v11.Kept Try.prog 11 := by
  rintro ⟨bs, st, fl, bys, ⟨⟩⟩ hpre k hk
  change List (Int × Int) at bs
  change Int at st fl
  change List Int at bys
  refine aspec hmix hG Try.func11 tx11 (Eq.mpr (eq11 bs st fl bys k) ?_)
  replace hk : k (.bool true) [] := hk
  unfold vc11
  have hby : isBytes bys := hpre
  refine ⟨trivial, br_intro (fun h1 => br_intro (fun _ => ⟨trivial, hk⟩) (fun h2 => ?_)) (fun _ => ⟨trivial, hk⟩)⟩
  obtain ⟨hb, hf⟩ := not_fine h1
  obtain ⟨f1, f2, f3, f4, f5, f6⟩ := fine_spec hf
  have hlen : bys.length ≤ 20 := by simp only [decide_eq_false_iff_not] at h2; omega
  have hga := given_in bs f2 bys
  have hgn := given_len bs st bys
  generalize givenL bs st bys = s at hga hgn ⊢
  have hgl : s.length ≤ big60 := by simp only [big60]; omega
  have hb60 : bs.length ≤ big60 := by simp only [big60]; omega
  have hse := stowErr_eq hf hgn hga
  refine ⟨⟨hf, hlen, hby⟩, ⟨hb, hgl⟩, ?_⟩
  have v45p : v45.p (bs, (s, ())) := ⟨Nat.le_of_eq hgn, hb60⟩
  cases hs : smoothB bs s
  · have e1 : stowErr bs st fl s = 23 := by rw [hse, hs]; rfl
    have e2 : outL bs st fl s = [] := by unfold outL; rw [if_neg (by omega)]
    rw [e1, e2]
    exact br_yes rfl (br_yes rfl (br_yes rfl ⟨v45p, br_yes rfl ⟨trivial, hk⟩⟩))
  have e1 : stowErr bs st fl s = 0 := by rw [hse, hs]; rfl
  have e2 : outL bs st fl s = outOrder bs s st := by unfold outL; rw [if_pos e1]
  have hp := out_pair bs s st
  have hm : ∀ x, x ∈ outOrder bs s st ↔ 0 ≤ x ∧ x < (bs.length : Int) := fun x => out_mem hf hgn hga
  have hxl : (outOrder bs s st).length = bs.length := by
    rw [← out_sorted hf hgn hga, (outSorted_perm bs s (allOf bs)).length_eq]; simp [allOf]
  rw [e1, e2]
  generalize outOrder bs s st = x at hp hm hxl ⊢
  refine br_no rfl (br_yes (by rw [hxl, hgn]; exact neb _) ⟨v45p, br_no rfl ⟨⟨by omega, rfl, by simp only [big]; omega⟩, ?_⟩⟩)
  have hpw := List.pairwise_iff_getElem.1 hp
  refine Loop.upto (fun i => (portTo bs x i, (i : Int), bs, st, fl, s, x, outTo s.length x i, ())) (fun i => True) x.length ?_ trivial ?_ ?_
  · show (portTo bs x 0, ((0 : Nat) : Int), bs, st, fl, s, x, outTo s.length x 0, ()) = _
    rw [outTo_zero]; rfl
  · intro i K hi _ hK
    dsimp only
    rw [br_decide]
    refine ⟨fun _ => ?_, fun h => absurd hi (by omega)⟩
    have hK := hK trivial
    obtain ⟨b0, b1⟩ := (hm x[i]).1 (List.getElem_mem hi)
    obtain ⟨b, eb⟩ := Int.eq_ofNat_of_zero_le b0
    have hbl : b < bs.length := by omega
    have hbs : b < s.length := by omega
    simp only [Int.toNat_natCast]
    refine ⟨⟨by omega, by omega⟩, hi, ?_⟩
    simp only [eb, Int.toNat_natCast]
    have hol := outTo_len s.length x i
    have hnb : (b : Int) ∉ x.take i := by
      intro hmem
      obtain ⟨j, hj, e⟩ := List.getElem_of_mem hmem
      rw [List.length_take] at hj
      rw [List.getElem_take] at e
      have := hpw j i (by omega) hi (by omega)
      rw [e, eb] at this
      exact cmp_irr bs s _ this
    have hbx := box_spec f6 hbl
    have hpt : portTo bs x i ≤ bs[b].1 := by
      cases i with
      | zero => show (0 : Int) ≤ _; omega
      | succ i =>
        show pt bs (x.getD i 0) ≤ _
        rw [getD_at (by omega)]
        have := cmp_port (hpw i (i + 1) (by omega) hi (by omega))
        rw [eb, pt_eq hbl] at this
        exact this
    refine br_yes (by simp) (br_yes (by simp; omega) ⟨⟨by omega, by omega⟩, by omega, br_yes ?_ ⟨⟨by omega, by omega⟩, br_no (by simp; omega) ⟨fits64 (by omega) (by omega), ?_⟩⟩⟩)
    · rw [outTo_get, if_neg hnb]; rfl
    refine Loop.upto (fun t => ((i : Int), (b : Int), (b : Int) + 1 + (t : Int), bs, st, fl, s, x, outTo s.length x i, ())) (fun t => True) (s.length - 1 - b) ?_ trivial ?_ ?_
    · show ((i : Int), (b : Int), (b : Int) + 1 + ((0 : Nat) : Int), bs, st, fl, s, x, outTo s.length x i, ()) = _
      simp
    · intro t K2 ht _ hK2
      dsimp only
      rw [br_decide]
      refine ⟨fun _ => ?_, fun h => absurd ht (by omega)⟩
      have hK2 := hK2 trivial
      obtain ⟨q, hq⟩ : ∃ q, q = b + 1 + t := ⟨_, rfl⟩
      have eq1 : (b : Int) + 1 + (t : Int) = (q : Int) := by omega
      have eq2 : (b : Int) + 1 + ((t + 1 : Nat) : Int) = (q : Int) + 1 := by omega
      have hqs : q < s.length := by omega
      rw [eq2] at hK2
      rw [eq1]
      simp only [Int.toNat_natCast]
      refine ⟨⟨by omega, by omega⟩, hqs, ⟨by omega, by omega⟩, hbs, ?_⟩
      rw [br_bt]
      refine ⟨fun he => ⟨⟨by omega, by omega⟩, by omega, br_no ?_ ⟨fits64 (by omega) (by omega), hK2⟩⟩, fun _ => ⟨fits64 (by omega) (by omega), hK2⟩⟩
      have he : s[q] = s[b] := by simpa using he
      have hin : (q : Int) ∈ x.take i := by
        obtain ⟨j, hj, ej⟩ := List.getElem_of_mem ((hm (q : Int)).2 ⟨by omega, by omega⟩)
        have hpq := smoothB_iff.1 hs q hqs b (by omega) (by rw [getD_at hbs, getD_at hqs, he])
        have hc : cmpOut bs s (q : Int) (b : Int) < 0 := by
          unfold cmpOut
          simp only [Int.toNat_natCast]
          rw [getD_at hbs, getD_at hqs, he]
          split
          · omega
          · rw [if_neg (by simp)]; omega
        rcases Nat.lt_or_ge j i with h | h
        · rw [← ej, List.mem_take_iff_getElem]
          exact ⟨j, by omega, rfl⟩
        · exfalso
          rcases Nat.eq_or_lt_of_le h with h | h
          · subst h
            rw [eb] at ej; omega
          · have := hpw i j hi hj h
            rw [eb, ej] at this
            exact cmp_irr bs s _ (cmp_tr hc this)
      rw [outTo_get, if_pos hin]; rfl
    · intro K2 _
      dsimp only
      rw [br_decide]
      refine ⟨fun h => absurd h (by omega), fun _ => ?_⟩
      simp only [Int.toNat_natCast]
      refine ⟨⟨by omega, by omega⟩, ⟨by omega, by omega⟩, by omega, fits64 (by omega) (by omega), ?_⟩
      rw [outTo_succ hi eb]
      have e3 : portTo bs x (i + 1) = bs[b].1 := by
        show pt bs (x.getD i 0) = _
        rw [getD_at hi, eb, pt_eq hbl]
      rw [e3] at hK
      exact hK
  · intro K _
    dsimp only
    rw [br_decide]
    exact ⟨fun h => absurd h (by omega), fun _ => ⟨trivial, hk⟩⟩
end Go.Abs.Ship
end

section
/- The contracts put together (printed by a program). -/
open Go.Proofs
set_option maxRecDepth 100000
namespace Go.Abs.Ship
theorem hc16 : HasCode Try.prog 16 := hasCode Try.func16 (by kernel_rfl) (by kernel_rfl)
theorem g16 : Keeps Try.prog 16 [v16] := keeps1 hc16 (k16 good_nil)
theorem hc22 : HasCode Try.prog 22 := hasCode Try.func22 (by kernel_rfl) (by kernel_rfl)
theorem g22 : Keeps Try.prog 22 [v22] := keeps1 hc22 (k22 good_nil)
theorem hc40 : HasCode Try.prog 40 := hasCode Try.func40 (by kernel_rfl) (by kernel_rfl)
theorem g40 : Keeps Try.prog 40 [v40] := keeps1 hc40 (k40 (g16.add (g22.add good_nil)))
theorem hc75 : HasCode Try.prog 75 := hasCode Try.func75 (by kernel_rfl) (by kernel_rfl)
theorem g75 : Keeps Try.prog 75 [v75] := keeps1 hc75 (k75 good_nil)
theorem hc42 : HasCode Try.prog 42 := hasCode Try.func42 (by kernel_rfl) (by kernel_rfl)
theorem g42 : Keeps Try.prog 42 [v42] := keeps1 hc42 (k42 good_nil)
theorem hc49 : HasCode Try.prog 49 := hasCode Try.func49 (by kernel_rfl) (by kernel_rfl)
theorem g49 : Keeps Try.prog 49 [v49] := keeps1 hc49 (k49 (g75.add (g42.add good_nil)))
theorem hc50 : HasCode Try.prog 50 := hasCode Try.func50 (by kernel_rfl) (by kernel_rfl)
theorem g50 : Keeps Try.prog 50 [v50] := keeps1 hc50 (k50 good_nil)
theorem hc78 : HasCode Try.prog 78 := hasCode Try.func78 (by kernel_rfl) (by kernel_rfl)
theorem g78 : Keeps Try.prog 78 [v78] := keeps1 hc78 (k78 good_nil)
theorem hc93 : HasCode Try.prog 93 := hasCode Try.func93 (by kernel_rfl) (by kernel_rfl)
theorem g93a : Keeps Try.prog 93 [v93a] := keeps1 hc93 (k93a (g78.add good_nil))
theorem hc77 : HasCode Try.prog 77 := hasCode Try.func77 (by kernel_rfl) (by kernel_rfl)
theorem g77 : Keeps Try.prog 77 [v77] := keeps1 hc77 (k77 (g93a.add good_nil))
theorem hc59 : HasCode Try.prog 59 := hasCode Try.func59 (by kernel_rfl) (by kernel_rfl)
theorem g59 : Keeps Try.prog 59 [v59] := keeps1 hc59 (k59 (g77.add good_nil))
theorem hc58 : HasCode Try.prog 58 := hasCode Try.func58 (by kernel_rfl) (by kernel_rfl)
theorem g58 : Keeps Try.prog 58 [v58] := keeps1 hc58 (k58 (g59.add good_nil))
theorem hc79 : HasCode Try.prog 79 := hasCode Try.func79 (by kernel_rfl) (by kernel_rfl)
theorem g79 : Keeps Try.prog 79 [v79] := keeps1 hc79 (k79 (g58.add good_nil))
theorem hc60 : HasCode Try.prog 60 := hasCode Try.func60 (by kernel_rfl) (by kernel_rfl)
theorem g60 : Keeps Try.prog 60 [v60] := keeps1 hc60 (k60 (g79.add good_nil))
theorem hc21 : HasCode Try.prog 21 := hasCode Try.func21 (by kernel_rfl) (by kernel_rfl)
theorem g21 : Keeps Try.prog 21 [v21] := keeps1 hc21 (k21 (g59.add (g60.add good_nil)))
theorem hc61 : HasCode Try.prog 61 := hasCode Try.func61 (by kernel_rfl) (by kernel_rfl)
theorem g61 : Keeps Try.prog 61 [v61] := keeps1 hc61 (k61 (g21.add good_nil))
theorem hc83 : HasCode Try.prog 83 := hasCode Try.func83 (by kernel_rfl) (by kernel_rfl)
theorem g83 : Keeps Try.prog 83 [v83] := keeps1 hc83 (k83 good_nil)
theorem hc76 : HasCode Try.prog 76 := hasCode Try.func76 (by kernel_rfl) (by kernel_rfl)
theorem g76 : Keeps Try.prog 76 [v76] := keeps1 hc76 (k76 (g83.add good_nil))
theorem hc51 : HasCode Try.prog 51 := hasCode Try.func51 (by kernel_rfl) (by kernel_rfl)
theorem g51 : Keeps Try.prog 51 [v51] := keeps1 hc51 (k51 (g61.add (g59.add (g76.add good_nil))))
theorem hc52 : HasCode Try.prog 52 := hasCode Try.func52 (by kernel_rfl) (by kernel_rfl)
theorem g52 : Keeps Try.prog 52 [v52] := keeps1 hc52 (k52 good_nil)
theorem hc54 : HasCode Try.prog 54 := hasCode Try.func54 (by kernel_rfl) (by kernel_rfl)
theorem g54 : Keeps Try.prog 54 [v54] := keeps1 hc54 (k54 good_nil)
theorem hc53 : HasCode Try.prog 53 := hasCode Try.func53 (by kernel_rfl) (by kernel_rfl)
theorem g53 : Keeps Try.prog 53 [v53] := keeps1 hc53 (k53 (g54.add good_nil))
theorem hc19 : HasCode Try.prog 19 := hasCode Try.func19 (by kernel_rfl) (by kernel_rfl)
theorem g19 : Keeps Try.prog 19 [v19] := keeps1 hc19 (k19 (g51.add (g52.add (g53.add good_nil))))
theorem hc80 : HasCode Try.prog 80 := hasCode Try.func80 (by kernel_rfl) (by kernel_rfl)
theorem g80 : Keeps Try.prog 80 [v80] := keeps1 hc80 (k80 good_nil)
theorem hc82 : HasCode Try.prog 82 := hasCode Try.func82 (by kernel_rfl) (by kernel_rfl)
theorem g82 : Keeps Try.prog 82 [v82] := keeps1 hc82 (k82 good_nil)
theorem hc81 : HasCode Try.prog 81 := hasCode Try.func81 (by kernel_rfl) (by kernel_rfl)
theorem g81 : Keeps Try.prog 81 [v81] := keeps1 hc81 (k81 (g82.add good_nil))
theorem hc62 : HasCode Try.prog 62 := hasCode Try.func62 (by kernel_rfl) (by kernel_rfl)
theorem g62 : Keeps Try.prog 62 [v62] := keeps1 hc62 (k62 (g80.add (g81.add (g83.add good_nil))))
theorem hc63 : HasCode Try.prog 63 := hasCode Try.func63 (by kernel_rfl) (by kernel_rfl)
theorem g63 : Keeps Try.prog 63 [v63] := keeps1 hc63 (k63 good_nil)
theorem hc23 : HasCode Try.prog 23 := hasCode Try.func23 (by kernel_rfl) (by kernel_rfl)
theorem g23 : Keeps Try.prog 23 [v23] := keeps1 hc23 (k23 (g61.add (g62.add (g63.add good_nil))))
theorem hc66 : HasCode Try.prog 66 := hasCode Try.func66 (by kernel_rfl) (by kernel_rfl)
theorem g66 : Keeps Try.prog 66 [v66] := keeps1 hc66 (k66 (g83.add good_nil))
theorem hc27 : HasCode Try.prog 27 := hasCode Try.func27 (by kernel_rfl) (by kernel_rfl)
theorem g27 : Keeps Try.prog 27 [v27] := keeps1 hc27 (k27 (g61.add (g66.add good_nil)))
theorem hc65 : HasCode Try.prog 65 := hasCode Try.func65 (by kernel_rfl) (by kernel_rfl)
theorem g65 : Keeps Try.prog 65 [v65] := keeps1 hc65 (k65 (g59.add good_nil))
theorem hc25 : HasCode Try.prog 25 := hasCode Try.func25 (by kernel_rfl) (by kernel_rfl)
theorem g25 : Keeps Try.prog 25 [v25] := keeps1 hc25 (k25 (g61.add (g65.add good_nil)))
theorem hc85 : HasCode Try.prog 85 := hasCode Try.func85 (by kernel_rfl) (by kernel_rfl)
theorem g85 : Keeps Try.prog 85 [v85] := keeps1 hc85 (k85 good_nil)
theorem hc68 : HasCode Try.prog 68 := hasCode Try.func68 (by kernel_rfl) (by kernel_rfl)
theorem g68 : Keeps Try.prog 68 [v68] := keeps_rec m68 hc68 (fun n h => k68 n (g52.add (g76.add (g85.add (h.add good_nil)))))
theorem hc32 : HasCode Try.prog 32 := hasCode Try.func32 (by kernel_rfl) (by kernel_rfl)
theorem g32 : Keeps Try.prog 32 [v32] := keeps1 hc32 (k32 (g61.add (g68.add good_nil)))
theorem hc70 : HasCode Try.prog 70 := hasCode Try.func70 (by kernel_rfl) (by kernel_rfl)
theorem g70 : Keeps Try.prog 70 [v70] := keeps1 hc70 (k70 (g86 good_nil))
theorem hc34 : HasCode Try.prog 34 := hasCode Try.func34 (by kernel_rfl) (by kernel_rfl)
theorem g34 : Keeps Try.prog 34 [v34] := keeps1 hc34 (k34 (g61.add (g59.add (g68.add (g70.add good_nil)))))
theorem g63i : Keeps Try.prog 63 [v63i] := keeps1 hc63 (k63i good_nil)
theorem hc88 : HasCode Try.prog 88 := hasCode Try.func88 (by kernel_rfl) (by kernel_rfl)
theorem g88 : Keeps Try.prog 88 [v88] := keeps1 hc88 (k88 good_nil)
theorem hc95 : HasCode Try.prog 95 := hasCode Try.func95 (by kernel_rfl) (by kernel_rfl)
theorem g95 : Keeps Try.prog 95 [v95] := keeps1 hc95 (k95 good_nil)
theorem hc90 : HasCode Try.prog 90 := hasCode Try.func90 (by kernel_rfl) (by kernel_rfl)
theorem g90 : Keeps Try.prog 90 [v90] := keeps1 hc90 (k90 (g95.add good_nil))
theorem hc89 : HasCode Try.prog 89 := hasCode Try.func89 (by kernel_rfl) (by kernel_rfl)
theorem g89 : Keeps Try.prog 89 [v89] := keeps1 hc89 (k89 (g90.add good_nil))
theorem g93b : Keeps Try.prog 93 [v93b] := keeps1 hc93 (k93b (g89.add good_nil))
theorem hc87 : HasCode Try.prog 87 := hasCode Try.func87 (by kernel_rfl) (by kernel_rfl)
theorem g87 : Keeps Try.prog 87 [v87] := keeps1 hc87 (k87 (g93b.add (g89.add good_nil)))
theorem hc71 : HasCode Try.prog 71 := hasCode Try.func71 (by kernel_rfl) (by kernel_rfl)
theorem g71 : Keeps Try.prog 71 [v71] := keeps_rec m71 hc71 (fun n h => k71 n (g88.add (g87.add (g62.add (h.add good_nil)))))
theorem hc36 : HasCode Try.prog 36 := hasCode Try.func36 (by kernel_rfl) (by kernel_rfl)
theorem g36 : Keeps Try.prog 36 [v36] := keeps1 hc36 (k36 (g61.add (g63i.add (g71.add good_nil))))
theorem hc74 : HasCode Try.prog 74 := hasCode Try.func74 (by kernel_rfl) (by kernel_rfl)
theorem g74 : Keeps Try.prog 74 [v74] := keeps1 hc74 (k74 good_nil)
theorem hc73 : HasCode Try.prog 73 := hasCode Try.func73 (by kernel_rfl) (by kernel_rfl)
theorem g73 : Keeps Try.prog 73 [v73] := keeps1 hc73 (k73 (g74.add good_nil))
theorem hc38 : HasCode Try.prog 38 := hasCode Try.func38 (by kernel_rfl) (by kernel_rfl)
theorem g38 : Keeps Try.prog 38 [v38] := keeps1 hc38 (k38 (g51.add (g63.add (g73.add good_nil))))
theorem hc29 : HasCode Try.prog 29 := hasCode Try.func29 (by kernel_rfl) (by kernel_rfl)
theorem g29 : Keeps Try.prog 29 [v29] := keeps1 hc29 (k29 (g61.add (g62.add (g63.add good_nil))))
theorem hc30 : HasCode Try.prog 30 := hasCode Try.func30 (by kernel_rfl) (by kernel_rfl)
theorem g30 : Keeps Try.prog 30 [v30] := keeps1 hc30 (k30 good_nil)
theorem hc64 : HasCode Try.prog 64 := hasCode Try.func64 (by kernel_rfl) (by kernel_rfl)
theorem g64 : Keeps Try.prog 64 [v64] := keeps1 hc64 (k64 good_nil)
theorem hc45 : HasCode Try.prog 45 := hasCode Try.func45 (by kernel_rfl) (by kernel_rfl)
theorem g45 : Keeps Try.prog 45 [v45] := keeps1 hc45 (k45 good_nil)
theorem hc31 : HasCode Try.prog 31 := hasCode Try.func31 (by kernel_rfl) (by kernel_rfl)
theorem g31 : Keeps Try.prog 31 [v31] := keeps1 hc31 (k31 (g64.add (g45.add good_nil)))
theorem hc18 : HasCode Try.prog 18 := hasCode Try.func18 (by kernel_rfl) (by kernel_rfl)
theorem g18 : Keeps Try.prog 18 [v18] := keeps1 hc18 (k18 (g49.add (g50.add (g19.add (g23.add (g27.add (g25.add (g32.add (g34.add (g36.add (g38.add (g29.add (g30.add (g31.add good_nil))))))))))))))
theorem hc43 : HasCode Try.prog 43 := hasCode Try.func43 (by kernel_rfl) (by kernel_rfl)
theorem g43 : Keeps Try.prog 43 [v43] := keeps1 hc43 (k43 (g45.add good_nil))
theorem hc11 : HasCode Try.prog 11 := hasCode Try.func11 (by kernel_rfl) (by kernel_rfl)
theorem g11 : Keeps Try.prog 11 [v11] := keeps1 hc11 (k11 (g40.add (g18.add (g43.add (g38.add (g45.add good_nil))))))
end Go.Abs.Ship
end

