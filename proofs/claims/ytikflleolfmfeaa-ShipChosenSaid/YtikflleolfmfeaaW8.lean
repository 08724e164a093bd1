/- Part 8 of the road to this seat's statements: lemmas about a small interpreter over the model's code, and about the functions that it is used on. No condition of its own. -/
import Derived.Test.YtikflleolfmfeaaW7

section
/- Plain laws: boxes that rise stand in stacks of their own. -/
set_option linter.unusedVariables false
namespace Go.Abs.Ship

theorem nodup_le {α : Type} [BEq α] [LawfulBEq α] : ∀ (l m : List α), l.Nodup → (∀ x ∈ l, x ∈ m) → l.length ≤ m.length
  | [], m, _, _ => Nat.zero_le _
  | a :: l, m, h, hs => by
    obtain ⟨h1, h2⟩ := List.nodup_cons.1 h
    have ha := hs a (List.mem_cons_self ..)
    have := nodup_le l (m.erase a) h2 (fun x hx => by
      refine (List.mem_erase_of_ne (fun e => ?_)).2 (hs x (List.mem_cons_of_mem _ hx))
      subst e; exact h1 hx)
    rw [List.length_erase_of_mem ha] at this
    have := List.length_pos_of_mem ha
    simp only [List.length_cons]; omega

theorem wFrom_ge {bs : List (Int × Int)} (h : anyBad bs = false) (k : Int) : ∀ (s : List Int) (i j : Nat) (hj : j < s.length), s[j] = k → wt bs ((i + j : Nat) : Int) ≤ wFrom bs i s k
  | x :: r, i, 0, hj, e => by
    have e : x = k := e
    have := (wFrom_spec h k r (i + 1)).1
    simp only [wFrom, e, if_true, Nat.add_zero]; omega
  | x :: r, i, j + 1, hj, e => by
    have e : r[j]'(by simpa using hj) = k := e
    have h1 := wFrom_ge h k r (i + 1) j (by simpa using hj) e
    rw [show i + 1 + j = i + (j + 1) by omega] at h1
    have := (wt_spec h i).1
    simp only [wFrom]
    split <;> omega
theorem wAt_pos {bs : List (Int × Int)} (h : anyBad bs = false) {s : List Int} {j : Nat} (hj : j < s.length) (hb : j < bs.length) : 0 < wAt bs s (s[j]) := by
  have := wFrom_ge h (s[j]) s 0 j hj rfl
  have h2 := box_spec h hb
  rw [Nat.zero_add, wt_eq hb] at this
  unfold wAt; omega

/-- The stacks of boxes that rise. -/
theorem rise_stacks {bs : List (Int × Int)} (hg : anyBad bs = false) {s : List Int} (hs : smoothB bs s = true) (hl : s.length = bs.length) {l : List Int} (hr : Ris bs l) : (l.map (fun i => s.getD i.toNat 0)).Nodup := by
  obtain ⟨h1, h2⟩ := (ris_iff hg).1 hr
  rw [List.nodup_iff_pairwise_ne, List.pairwise_map]
  refine List.Pairwise.imp_of_mem (fun {a b} ha hb hab e => ?_) h2
  obtain ⟨a0, a1⟩ := h1 a ha
  obtain ⟨b0, b1⟩ := h1 b hb
  have := smoothB_iff.1 hs b.toNat (by omega) a.toNat (by omega) e
  rw [show ((b.toNat : Nat) : Int) = b by omega, show ((a.toNat : Nat) : Int) = a by omega] at this
  omega
theorem rise_count {bs : List (Int × Int)} (hg : anyBad bs = false) {s : List Int} (hs : smoothB bs s = true) (hl : s.length = bs.length) {l : List Int} (hr : Ris bs l) (p : List Int) (hp : ∀ i (h : i < s.length), s[i] ∈ p) : l.length ≤ p.length := by
  have := nodup_le _ p (rise_stacks hg hs hl hr) (fun x hx => by
    obtain ⟨i, hi, rfl⟩ := List.mem_map.1 hx
    obtain ⟨a0, a1⟩ := ((ris_iff hg).1 hr).1 i hi
    rw [getD_at (by omega)]
    exact hp _ (by omega))
  simpa using this
theorem fewest_stacks {bs : List (Int × Int)} (hg : anyBad bs = false) {s : List Int} (hs : smoothB bs s = true) (hl : s.length = bs.length) (p : List Int) (hp : ∀ i (h : i < s.length), s[i] ∈ p) : fewestOf bs ≤ (p.length : Int) := by
  obtain ⟨l, h1, h2⟩ := fewest_ge hg
  have := rise_count hg hs hl h1 p hp
  omega
theorem fewest_st {bs : List (Int × Int)} (hg : anyBad bs = false) {s : List Int} (hs : smoothB bs s = true) (hl : s.length = bs.length) {st : Int} (h0 : 0 ≤ st) (ha : allIn st s) : fewestOf bs ≤ st := by
  have := fewest_stacks hg hs hl ((List.range st.toNat).map Int.ofNat) (fun i h => by
    obtain ⟨a0, a1⟩ := ha _ (List.getElem_mem h)
    exact List.mem_map.2 ⟨(s[i]).toNat, List.mem_range.2 (by omega), by show ((s[i].toNat : Nat) : Int) = _; omega⟩)
  simp only [List.length_map, List.length_range] at this
  omega
theorem csN_fewest {bs : List (Int × Int)} {st fl : Int} {s : List Int} (h : csErr bs st fl s = 0) : fewestOf bs ≤ csN bs st fl s := by
  have hse : stowErr bs st fl s = 0 := by
    unfold csErr at h
    split at h
    · rename_i h2; exact absurd h h2
    · rename_i h2; omega
  obtain ⟨g1, g2, g3, g4⟩ := stow_spec hse
  obtain ⟨f1, f2, f3, f4, f5, f6⟩ := fine_spec g1
  have ha := allIn_of g3
  have := fewest_stacks f6 g4 g2 (((List.range 5).filter (fun k : Nat => decide (0 < wAt bs s (k : Int)))).map Int.ofNat) (fun i hi => by
    obtain ⟨a0, a1⟩ := ha _ (List.getElem_mem hi)
    refine List.mem_map.2 ⟨(s[i]).toNat, List.mem_filter.2 ⟨List.mem_range.2 (by omega), ?_⟩, by show ((s[i].toNat : Nat) : Int) = _; omega⟩
    rw [decide_eq_true_eq, show ((s[i].toNat : Nat) : Int) = s[i] by omega]
    exact wAt_pos f6 hi (by omega))
  have e : csN bs st fl s = (((weights bs s 5).filter (fun w => decide (0 < w))).length : Int) := by unfold csN; rw [if_pos h]
  rw [e]
  unfold weights
  rw [List.filter_map, List.length_map]
  rw [List.length_map] at this
  exact this

theorem givenAt_in (bs : List (Int × Int)) {st : Int} (h : 1 ≤ st) (out : List Int) {f : Int} (hf : 0 ≤ f ∧ f < st) : 0 ≤ givenAt bs st out f ∧ givenAt bs st out f < st := by
  unfold givenAt
  have key : ∀ (l : List Nat) (a : Int), 0 ≤ a ∧ a < st → 0 ≤ l.foldl (givenPick bs st out f) a ∧ l.foldl (givenPick bs st out f) a < st := by
    intro l
    induction l with
    | nil => intro a ha; exact ha
    | cons k l ih =>
      intro a ha
      refine ih _ ?_
      unfold givenPick
      split
      · exact ⟨Int.emod_nonneg _ (by omega), Int.emod_lt_of_pos _ (by omega)⟩
      · exact ha
  exact key _ f hf
theorem givenFrom_in {st : Int} (h : 1 ≤ st) (bys : List Int) (i : Nat) : 0 ≤ givenFrom st bys i ∧ givenFrom st bys i < st := by
  unfold givenFrom
  split
  · omega
  · exact ⟨Int.emod_nonneg _ (by omega), Int.emod_lt_of_pos _ (by omega)⟩
theorem givenUp_in (bs : List (Int × Int)) {st : Int} (h : 1 ≤ st) (bys : List Int) : ∀ i, allIn st (givenUp bs st bys i)
  | 0 => fun j hj => by simp [givenUp] at hj
  | i + 1 => fun j hj => by
    simp only [givenUp, List.mem_append, List.mem_singleton] at hj
    rcases hj with hj | rfl
    · exact givenUp_in bs h bys i j hj
    · exact givenAt_in bs h _ (givenFrom_in h bys i)
theorem given_in (bs : List (Int × Int)) {st : Int} (h : 1 ≤ st) (bys : List Int) : allIn st (givenL bs st bys) := givenUp_in bs h bys _
theorem given_len (bs : List (Int × Int)) (st : Int) (bys : List Int) : (givenL bs st bys).length = bs.length := givenUp_len bs st bys _

theorem out_no {st : Int} {s : List Int} (ha : allIn st s) : anyOut 0 (st - 1) s = false := by
  rw [← Bool.not_eq_true]
  intro hh
  obtain ⟨y, hy, ho⟩ := List.any_eq_true.1 hh
  have := ha y hy
  simp only [outOf, decide_eq_true_eq] at ho
  omega
/-- A stow of right numbers: its error says whether it is smooth. -/
theorem stowErr_eq {bs : List (Int × Int)} {st fl : Int} (hf : Fine bs st fl) {s : List Int} (hl : s.length = bs.length) (ha : allIn st s) : stowErr bs st fl s = if smoothB bs s then 0 else 23 := by
  have hf' : checkLoad bs st fl = 0 := hf
  unfold stowErr
  rw [if_neg (by omega), if_neg (by omega), if_neg (by rw [out_no ha]; simp)]
  cases smoothB bs s <;> rfl
theorem csErr_eq {bs : List (Int × Int)} {st fl : Int} (hf : Fine bs st fl) {s : List Int} (hl : s.length = bs.length) (ha : allIn st s) : csErr bs st fl s = if smoothB bs s then (if goodB bs st fl s then 0 else 4) else 23 := by
  unfold csErr
  rw [stowErr_eq hf hl ha]
  cases hs : smoothB bs s
  · rfl
  · cases hg : goodB bs st fl s <;> simp
theorem light {bs : List (Int × Int)} (hg : anyBad bs = false) (hn : bs.length ≤ 9) {s : List Int} (hl : s.length ≤ bs.length) (st : Int) (hs : smoothB bs s = true) : goodB bs st 1000 s = true := by
  rw [goodB_eq, hs, Bool.and_true, List.all_eq_true]
  intro w hw
  unfold weights at hw
  obtain ⟨k, _, rfl⟩ := List.mem_map.1 hw
  have := (wAt_spec hg s (k : Int)).2
  simp only [decide_eq_true_eq]
  omega
theorem fine_fl {bs : List (Int × Int)} {st fl : Int} (hf : Fine bs st fl) {st' fl' : Int} (h1 : 1 ≤ st') (h2 : st' ≤ 5) (h3 : 1 ≤ fl') (h4 : fl' ≤ 1000) : Fine bs st' fl' := by
  obtain ⟨f1, f2, f3, f4, f5, f6⟩ := fine_spec hf
  show checkLoad bs st' fl' = 0
  unfold checkLoad
  rw [if_neg (by omega), if_neg (by rw [f6]; simp; omega)]
end Go.Abs.Ship
end

section
/- The ship's statements: THE STAGE'S THEOREM. -/
open Go.Proofs
set_option maxRecDepth 100000
set_option linter.unusedVariables false
namespace Go.Abs.Ship

theorem not_fine {bs : List (Int × Int)} {st fl : Int} (h : (Bool.not (fine bs st fl) == false) = true) : bs.length ≤ 16 ∧ Fine bs st fl := by
  simp [fine, great, clIs] at h
  exact h
theorem csErr_1000 {bs : List (Int × Int)} {st fl : Int} (hf : Fine bs st fl) (bys : List Int) : csErr bs st 1000 (givenL bs st bys) = 0 ∨ csErr bs st 1000 (givenL bs st bys) = 23 := by
  obtain ⟨f1, f2, f3, f4, f5, f6⟩ := fine_spec hf
  have hf2 := fine_fl hf f2 f3 (fl' := 1000) (by omega) (by omega)
  have hl := given_len bs st bys
  rw [csErr_eq hf2 hl (given_in bs f2 bys)]
  cases hs : smoothB bs (givenL bs st bys)
  · right; rfl
  · left
    rw [light f6 f1 (by omega) st hs]; rfl
theorem riseErr_listed {bs : List (Int × Int)} {st fl : Int} (hf : Fine bs st fl) (b : Nat) : riseErr bs st fl (listed b bs.length) = 0 ∨ riseErr bs st fl (listed b bs.length) = 16 := by
  have hf' : checkLoad bs st fl = 0 := hf
  unfold riseErr
  rw [if_neg (by omega), listed_isList]
  cases riseB bs 0 (listed b bs.length)
  · right; rfl
  · left; rfl
theorem riseN_le {bs : List (Int × Int)} {st fl : Int} (hf : Fine bs st fl) {b : Nat} (h : riseErr bs st fl (listed b bs.length) = 0) : riseN bs st fl (listed b bs.length) ≤ fewestOf bs := by
  obtain ⟨f1, f2, f3, f4, f5, f6⟩ := fine_spec hf
  have hf' : checkLoad bs st fl = 0 := hf
  unfold riseN
  rw [if_pos h]
  refine fewest_le f6 ⟨listed_isList _ _, ?_⟩
  unfold riseErr at h
  rw [if_neg (by omega), listed_isList] at h
  cases hr : riseB bs 0 (listed b bs.length)
  · rw [hr] at h; simp at h
  · rfl

theorem dec_yes {p : Prop} [Decidable p] (h : p) : (decide p == true) = true := by simp [h]

theorem k7 (hG : Good Try.prog (envOf [(40, mkC [v40]), (18, mkC [v18]), (41, mkC [v41]), (42, mkC [v42]), (43, mkC [v43]), (19, mkC [v19]), (44, mkC [v44]), (25, mkC [v25])])) : v7.Kept Try.prog 7 := by
  rintro ⟨bs, st, fl, bys, bits, ⟨⟩⟩ hpre k hk
  change List (Int × Int) at bs
  change Int at st fl
  change List Int at bys
  change Int at bits
  refine aspec hmix hG Try.func7 tx7 (Eq.mpr (eq7 bs st fl bys bits k) ?_)
  replace hk : k (.bool true) [] := hk
  unfold vc7
  obtain ⟨hby, hbits⟩ := hpre
  have hby : isBytes bys := hby
  have hbits : isHalf bits := hbits
  refine ⟨trivial, br_intro (fun h1 => br_intro (fun _ => ⟨trivial, hk⟩) (fun h2 => ?_)) (fun _ => ⟨trivial, hk⟩)⟩
  obtain ⟨hb, hf⟩ := not_fine h1
  obtain ⟨f1, f2, f3, f4, f5, f6⟩ := fine_spec hf
  have hlen : bys.length ≤ 20 := by simp only [decide_eq_false_iff_not] at h2; omega
  have hgl : (givenL bs st bys).length ≤ big60 := by rw [given_len]; simp only [big60]; omega
  have hll : (listed bits.toNat bs.length).length ≤ big60 := small (listed_len _ _) (by omega)
  simp only [Int.toNat_natCast]
  refine ⟨hf, trivial, ⟨hf, hlen, hby⟩, ⟨hb, hgl⟩, fits64 (by omega) (by omega), ⟨⟨hbits.1, by show bits < _; have := hbits.2; omega⟩, by show (0 : Int) ≤ (bs.length : Int); omega, by show (bs.length : Int) ≤ 40; omega⟩, ⟨hb, hll⟩, ?_⟩
  have c1 := csErr_1000 hf bys
  have c2 := riseErr_listed hf bits.toNat
  have d1 : csErr bs st 1000 (givenL bs st bys) = 0 → fewestOf bs ≤ csN bs st 1000 (givenL bs st bys) := csN_fewest
  have d2 : riseErr bs st fl (listed bits.toNat bs.length) = 0 → riseN bs st fl (listed bits.toNat bs.length) ≤ fewestOf bs := riseN_le hf
  generalize csErr bs st 1000 (givenL bs st bys) = e at c1 d1 ⊢
  generalize riseErr bs st fl (listed bits.toNat bs.length) = f at c2 d2 ⊢
  rcases c1 with rfl | rfl
  · have d0 := d1 rfl
    have d1 := dec_yes (d1 rfl)
    rcases c2 with rfl | rfl
    · have d3 := dec_yes (Int.le_trans (d2 rfl) d0)
      have d2 := dec_yes (d2 rfl)
      exact br_no rfl (br_no rfl (br_yes rfl (br_yes d1 (br_yes rfl (br_yes d3 (br_yes rfl (br_yes d2 ⟨trivial, hk⟩)))))))
    · exact br_no rfl (br_yes rfl (br_no rfl (br_yes rfl (br_yes d1 (br_no rfl (br_no rfl ⟨trivial, hk⟩))))))
  · rcases c2 with rfl | rfl
    · have d2 := dec_yes (d2 rfl)
      exact br_yes rfl (br_yes rfl (br_no rfl (br_no rfl (br_yes rfl (br_yes d2 ⟨trivial, hk⟩)))))
    · exact br_yes rfl (br_yes rfl (br_yes rfl (br_no rfl (br_no rfl (br_no rfl ⟨trivial, hk⟩)))))
end Go.Abs.Ship
end

section
/- Plain laws: the first stow is the first of all that are good. -/
set_option linter.unusedVariables false
namespace Go.Abs.Ship

theorem good_spec {bs : List (Int × Int)} {st fl : Int} {s : List Int} : goodB bs st fl s = true ↔ (∀ k : Nat, k < st.toNat → wAt bs s (k : Int) ≤ fl) ∧ smoothB bs s = true := by
  rw [goodB_eq, Bool.and_eq_true, List.all_eq_true]
  unfold weights
  simp only [List.mem_map, List.mem_range, decide_eq_true_eq, forall_exists_index, and_imp, forall_apply_eq_imp_iff₂]

theorem wFrom_append (bs : List (Int × Int)) (k : Int) : ∀ (s t : List Int) (i : Nat), wFrom bs i (s ++ t) k = wFrom bs i s k + wFrom bs (i + s.length) t k
  | [], t, i => by simp [wFrom]
  | x :: s, t, i => by
    simp only [List.cons_append, wFrom, List.length_cons]
    rw [wFrom_append bs k s t (i + 1), show i + 1 + s.length = i + (s.length + 1) by omega]
    omega
theorem wAt_prefix {bs : List (Int × Int)} (h : anyBad bs = false) (s t : List Int) (k : Int) : wAt bs s k ≤ wAt bs (s ++ t) k := by
  unfold wAt
  rw [wFrom_append]
  have := (wFrom_spec h k t (0 + s.length)).1
  omega
theorem smooth_prefix {bs : List (Int × Int)} {s t : List Int} (h : smoothB bs (s ++ t) = true) : smoothB bs s = true := by
  rw [smoothB_iff] at h ⊢
  intro i hi k hk he
  have := h i (by simp; omega) k hk (by
    rw [getD_at (by simp; omega), getD_at (by simp; omega), List.getElem_append_left (by omega), List.getElem_append_left hi]
    rw [getD_at (by omega), getD_at hi] at he; exact he)
  exact this
theorem good_prefix {bs : List (Int × Int)} {st fl : Int} (hg : anyBad bs = false) {s t : List Int} (h : goodB bs st fl (s ++ t) = true) : goodB bs st fl s = true := by
  obtain ⟨h1, h2⟩ := good_spec.1 h
  exact good_spec.2 ⟨fun k hk => Int.le_trans (wAt_prefix hg s t k) (h1 k hk), smooth_prefix h2⟩

/-- Two stacks in each other's place. -/
def swp2 (a b x : Int) : Int := if x = a then b else if x = b then a else x
theorem swp2_inv (a b x : Int) : swp2 a b (swp2 a b x) = x := by unfold swp2; split <;> split <;> (try split) <;> omega
theorem swp2_inj {a b x y : Int} (h : swp2 a b x = swp2 a b y) : x = y := by rw [← swp2_inv a b x, h, swp2_inv]
theorem wFrom_map (bs : List (Int × Int)) (a b k : Int) : ∀ (s : List Int) (i : Nat), wFrom bs i (s.map (swp2 a b)) k = wFrom bs i s (swp2 a b k)
  | [], i => rfl
  | x :: s, i => by
    simp only [List.map_cons, wFrom, wFrom_map bs a b k s (i + 1)]
    by_cases h : x = swp2 a b k
    · rw [if_pos h, if_pos (by rw [h, swp2_inv])]
    · rw [if_neg h, if_neg (fun e => h (by rw [← e, swp2_inv]))]
theorem good_map {bs : List (Int × Int)} {st fl : Int} {a b : Nat} (ha : (a : Int) < st) (hb : (b : Int) < st) {x : List Int} (h : goodB bs st fl x = true) : goodB bs st fl (x.map (swp2 a b)) = true := by
  obtain ⟨h1, h2⟩ := good_spec.1 h
  refine good_spec.2 ⟨fun k hk => ?_, ?_⟩
  · unfold wAt
    rw [wFrom_map]
    have : ∃ m : Nat, swp2 a b (k : Int) = (m : Int) ∧ m < st.toNat := by
      unfold swp2
      split
      · exact ⟨b, rfl, by omega⟩
      · split
        · exact ⟨a, rfl, by omega⟩
        · exact ⟨k, rfl, hk⟩
    obtain ⟨m, e, hm⟩ := this
    rw [e]
    exact h1 m hm
  · rw [smoothB_iff] at h2 ⊢
    intro i hi k hk he
    rw [List.length_map] at hi
    refine h2 i hi k hk ?_
    rw [getD_at (by simp; omega), getD_at (by simpa using hi), List.getElem_map, List.getElem_map] at he
    rw [getD_at (by omega), getD_at hi]
    exact swp2_inj he

theorem wAt_mem {bs : List (Int × Int)} (hg : anyBad bs = false) {s : List Int} (hl : s.length ≤ bs.length) {k : Int} (h : wAt bs s k = 0) : k ∉ s := by
  intro hm
  obtain ⟨i, hi, e⟩ := List.getElem_of_mem hm
  have := wAt_pos hg hi (by omega)
  rw [e] at this
  omega

theorem earlier_pre : ∀ (p a b : List Int), earlier (p ++ a) (p ++ b) = earlier a b
  | [], a, b => rfl
  | x :: p, a, b => by simp only [List.cons_append, earlier, if_true]; exact earlier_pre p a b
theorem earlier_head (p : List Int) (x y : Int) (a b : List Int) (h : x ≠ y) : earlier (p ++ x :: a) (p ++ y :: b) = decide (x < y) := by
  rw [earlier_pre]; simp [earlier, h]

/-- The first candidate with which it goes on, if it goes on with one. -/
theorem find_first {α : Type} (f : Nat → Option α) : ∀ (l : List Nat) (k : Nat), l.Pairwise (· < ·) → k ∈ l → (f k).isSome = true → ∃ k' y, k' ∈ l ∧ k' ≤ k ∧ f k' = some y ∧ l.findSome? f = some y
  | [], k, _, hk, _ => by cases hk
  | a :: l, k, hp, hk, hs => by
    obtain ⟨h1, h2⟩ := List.pairwise_cons.1 hp
    cases ha : f a with
    | some y =>
      refine ⟨a, y, List.mem_cons_self .., ?_, ha, by simp [ha]⟩
      rcases List.mem_cons.1 hk with rfl | hk
      · exact Nat.le_refl _
      · exact Nat.le_of_lt (h1 k hk)
    | none =>
      rcases List.mem_cons.1 hk with rfl | hk
      · rw [ha] at hs; cases hs
      · obtain ⟨k', y, g1, g2, g3, g4⟩ := find_first f l k h2 hk hs
        exact ⟨k', y, List.mem_cons_of_mem _ g1, g2, g3, by simp [ha, g4]⟩

theorem cands_sorted (bs : List (Int × Int)) (st : Int) (s : List Int) : (cands bs st s).Pairwise (· < ·) := (List.pairwise_lt_range).filter _

/-- If there is a good stow, one is found; and no good one is before it. -/
theorem goF_first {bs : List (Int × Int)} {st fl : Int} (hg : anyBad bs = false) : ∀ (f : Nat) (s t : List Int), bs.length < f + s.length → (s ++ t).length = bs.length → goodB bs st fl (s ++ t) = true → allIn st t →
    ∃ y, goF bs st fl f s = some y ∧ earlier (s ++ t) y = false
  | 0, s, t, h1, h2, _, _ => by simp at h2; omega
  | f + 1, s, [], h1, h2, h3, _ => by
    rw [List.append_nil] at h2 h3
    refine ⟨s, ?_, ?_⟩
    · unfold goF; rw [if_neg (by simp [h3]), if_pos h2]
    · rw [List.append_nil]
      have : ∀ l : List Int, earlier l l = false := by
        intro l; induction l with
        | nil => rfl
        | cons a l ih => simp [earlier, ih]
      exact this s
  | f + 1, s, k0 :: t, h1, h2, h3, h4 => by
    simp only [List.length_append, List.length_cons] at h2
    obtain ⟨k1, k2⟩ := h4 k0 (List.mem_cons_self ..)
    obtain ⟨k, rfl⟩ := Int.eq_ofNat_of_zero_le k1
    have hgs := good_prefix hg h3
    have hun : goF bs st fl (f + 1) s = (cands bs st s).findSome? (fun k : Nat => goF bs st fl f (s ++ [(k : Int)])) := by
      rw [goF, if_neg (by simp [hgs]), if_neg (by omega)]
    rw [hun]
    -- whatever begins with an earlier stack comes before
    have fin : ∀ (j : Nat) (t' : List Int), j ≤ k → j ∈ cands bs st s → (s ++ [(j : Int)] ++ t').length = bs.length → goodB bs st fl (s ++ [(j : Int)] ++ t') = true → allIn st t' → (j = k → t' = t) →
        ∃ y, (cands bs st s).findSome? (fun k : Nat => goF bs st fl f (s ++ [(k : Int)])) = some y ∧ earlier (s ++ (k : Int) :: t) y = false := by
      intro j t' hjk hc hl hgd ha he
      obtain ⟨y, y1, y2⟩ := goF_first hg f (s ++ [(j : Int)]) t' (by simp; omega) hl hgd ha
      obtain ⟨k', y', g1, g2, g3, g4⟩ := find_first (fun k : Nat => goF bs st fl f (s ++ [(k : Int)])) _ j (cands_sorted bs st s) hc (by rw [y1]; rfl)
      refine ⟨y', g4, ?_⟩
      obtain ⟨_, _, t2, e2, _⟩ := goF_spec bs st fl f _ _ g3
      rcases Nat.lt_or_ge k' k with h | h
      · rw [e2, List.append_assoc, List.singleton_append, earlier_head _ _ _ _ _ (by omega), decide_eq_false_iff_not]
        omega
      · obtain rfl : k' = k := by omega
        obtain rfl : j = k' := by omega
        have g3 : goF bs st fl f (s ++ [(j : Int)]) = some y' := g3
        rw [y1] at g3
        cases g3
        rw [he rfl] at y2
        simpa using y2
    have ht : allIn st t := fun j hj => h4 j (List.mem_cons_of_mem _ hj)
    by_cases hc : k ∈ cands bs st s
    · exact fin k t (Nat.le_refl _) hc (by simp; omega) (by simpa using h3) ht (fun _ => rfl)
    -- another empty stack comes first
    have hk : k < st.toNat := by omega
    have hw : wAt bs s (k : Int) = 0 ∧ firstEmpty bs s k = false := by
      have := mt (fun h => List.mem_filter.2 ⟨List.mem_range.2 hk, h⟩) hc
      simp only [Bool.or_eq_true, decide_eq_true_eq, not_or, ne_eq, Decidable.not_not, Bool.not_eq_true] at this
      exact this
    obtain ⟨hw, hfe⟩ := hw
    have : ∃ j : Nat, j < k ∧ wAt bs s (j : Int) = 0 ∧ ∀ i, i < j → wAt bs s (i : Int) ≠ 0 := by
      have hex : ∃ j : Nat, j < k ∧ wAt bs s (j : Int) = 0 := by
        unfold firstEmpty at hfe
        rw [List.all_eq_false] at hfe
        obtain ⟨j, hj, h5⟩ := hfe
        refine ⟨j, List.mem_range.1 hj, by simpa using h5⟩
      have key : ∀ n : Nat, ∀ j : Nat, j < n → j < k → wAt bs s (j : Int) = 0 → ∃ j : Nat, j < k ∧ wAt bs s (j : Int) = 0 ∧ ∀ i, i < j → wAt bs s (i : Int) ≠ 0 := by
        intro n
        induction n with
        | zero => intro j hj; omega
        | succ n ih =>
          intro j hj hjk h0
          by_cases h6 : ∃ i, i < j ∧ wAt bs s (i : Nat) = 0
          · obtain ⟨i, hi, h7⟩ := h6
            exact ih i (by omega) (by omega) h7
          · exact ⟨j, hjk, h0, fun i hi h7 => h6 ⟨i, hi, h7⟩⟩
      obtain ⟨j, hj, h0⟩ := hex
      exact key (j + 1) j (Nat.lt_succ_self _) hj h0
    obtain ⟨j, hjk, hj0, hjf⟩ := this
    have hjc : j ∈ cands bs st s := by
      refine List.mem_filter.2 ⟨List.mem_range.2 (by omega), ?_⟩
      rw [Bool.or_eq_true]
      right
      unfold firstEmpty
      rw [List.all_eq_true]
      intro i hi
      simpa using hjf i (List.mem_range.1 hi)
    have hnj := wAt_mem hg (show s.length ≤ bs.length by omega) hj0
    have hnk := wAt_mem hg (show s.length ≤ bs.length by omega) hw
    have hsm : s.map (swp2 (j : Int) (k : Int)) = s := by
      conv => rhs; rw [← List.map_id s]
      refine List.map_congr_left (fun x hx => ?_)
      unfold swp2
      rw [if_neg (fun e => hnj (by rw [← e]; exact hx)), if_neg (fun e => hnk (by rw [← e]; exact hx))]; rfl
    have hsk : swp2 (j : Int) (k : Int) (k : Int) = (j : Int) := by unfold swp2; rw [if_neg (by omega), if_pos rfl]
    have hgm := good_map (a := j) (b := k) (show (j : Int) < st by omega) (show (k : Int) < st by omega) h3
    rw [List.map_append, List.map_cons, hsm, hsk] at hgm
    refine fin j (t.map (swp2 (j : Int) (k : Int))) (by omega) hjc (by simp; omega) (by simpa using hgm) (fun x hx => ?_) (fun e => by omega)
    obtain ⟨z, hz, rfl⟩ := List.mem_map.1 hx
    obtain ⟨z0, z1⟩ := ht z hz
    unfold swp2
    split
    · omega
    · split <;> omega

theorem goOn_first {bs : List (Int × Int)} {st fl : Int} (hg : anyBad bs = false) {s t : List Int} (h2 : (s ++ t).length = bs.length) (h3 : goodB bs st fl (s ++ t) = true) (h4 : allIn st t) :
    ∃ y, goOn bs st fl s = some y ∧ earlier (s ++ t) y = false := goF_first hg _ s t (by simp at h2; omega) h2 h3 h4
theorem goOn_any {bs : List (Int × Int)} {st fl : Int} (hg : anyBad bs = false) {x : List Int} (h2 : x.length = bs.length) (h3 : goodB bs st fl x = true) (h4 : allIn st x) :
    goB bs st fl [] = true ∧ earlier x (goL bs st fl []) = false := by
  obtain ⟨y, h5, h6⟩ := goOn_first hg (s := []) (t := x) h2 h3 h4
  obtain ⟨e1, e2⟩ := go_some h5
  exact ⟨e2, by rw [e1]; exact h6⟩
end Go.Abs.Ship
end

section
/- The ship's statements: the first stow. -/
open Go.Proofs
set_option maxRecDepth 100000
set_option linter.unusedVariables false
namespace Go.Abs.Ship

theorem stowE_eq {bs : List (Int × Int)} {st fl : Int} (hf : Fine bs st fl) : stowE bs st fl = if goB bs st fl [] then 0 else 23 := by
  have hf' : checkLoad bs st fl = 0 := hf
  unfold stowE
  rw [if_neg (by omega)]
theorem stow_ok {bs : List (Int × Int)} {st fl : Int} (hf : Fine bs st fl) (h : goB bs st fl [] = true) : stowE bs st fl = 0 ∧ stowL bs st fl = goL bs st fl [] ∧ goodB bs st fl (goL bs st fl []) = true ∧ (goL bs st fl []).length = bs.length ∧ allIn st (goL bs st fl []) := by
  have e : stowE bs st fl = 0 := by rw [stowE_eq hf, if_pos h]
  obtain ⟨g1, g2, t, g3, g4⟩ := goOn_spec (goB_some h)
  refine ⟨e, by unfold stowL; rw [if_pos e], g1, g2, ?_⟩
  rw [g3]; simpa using g4
theorem stow_no {bs : List (Int × Int)} {st fl : Int} (hf : Fine bs st fl) (h : goB bs st fl [] = false) : stowE bs st fl = 23 ∧ stowL bs st fl = [] := by
  have e : stowE bs st fl = 23 := by rw [stowE_eq hf, if_neg (by simp [h])]
  exact ⟨e, by unfold stowL; rw [if_neg (by omega)]⟩
theorem good_smooth {bs : List (Int × Int)} {st fl : Int} {s : List Int} (h : goodB bs st fl s = true) : smoothB bs s = true := (good_spec.1 h).2
theorem cs_zero {bs : List (Int × Int)} {st fl : Int} (hf : Fine bs st fl) {s : List Int} (hl : s.length = bs.length) (ha : allIn st s) (hg : goodB bs st fl s = true) : csErr bs st fl s = 0 := by
  rw [csErr_eq hf hl ha, if_pos (good_smooth hg), if_pos hg]
theorem cs_good0 {bs : List (Int × Int)} {st fl : Int} (hf : Fine bs st fl) {s : List Int} (hl : s.length = bs.length) (ha : allIn st s) (h : csErr bs st fl s = 0) : goodB bs st fl s = true := by
  rw [csErr_eq hf hl ha] at h
  split at h
  · split at h
    · assumption
    · omega
  · omega
/-- With as many stacks as the fewest, and floors that bear all, there is a good stow. -/
theorem few_good {bs : List (Int × Int)} {st fl st' : Int} (hf : Fine bs st fl) (h1 : fewestOf bs ≤ st') (h2 : 1 ≤ st') (h3 : st' ≤ 5) : goB bs st' 1000 [] = true := by
  obtain ⟨f1, f2, f3, f4, f5, f6⟩ := fine_spec hf
  have hs := few_smoothest bs
  unfold smoothest at hs
  simp only [Bool.and_eq_true, decide_eq_true_eq, Bool.not_eq_true'] at hs
  obtain ⟨g1, g2, g3, g4⟩ := hs
  have ha : allIn st' (fewS bs (allOf bs)) := fun j hj => by
    have := allIn_of g2 j hj
    omega
  exact (goOn_any f6 g1 (light f6 f1 (by omega) st' g4) ha).1

theorem bne_no {a : Int} (h : a = 0) : (a != 0) = false := by simp [h]
theorem bne_yes {a : Int} (h : a ≠ 0) : (a != 0) = true := by simp [h]

theorem k8 (hG : Good Try.prog (envOf [(40, mkC [v40]), (18, mkC [v18]), (32, mkC [v32]), (43, mkC [v43]), (19, mkC [v19]), (41, mkC [v41]), (42, mkC [v42]), (45, mkC [v45]), (20, mkC [v20]), (46, mkC [v46])])) : v8.Kept Try.prog 8 := by
  rintro ⟨bs, st, fl, bys, ⟨⟩⟩ hpre k hk
  change List (Int × Int) at bs
  change Int at st fl
  change List Int at bys
  refine aspec hmix hG Try.func8 tx8 (Eq.mpr (eq8 bs st fl bys k) ?_)
  replace hk : k (.bool true) [] := hk
  unfold vc8
  have hby : isBytes bys := hpre
  refine ⟨trivial, br_intro (fun h1 => br_intro (fun _ => ⟨trivial, hk⟩) (fun h2 => ?_)) (fun _ => ⟨trivial, hk⟩)⟩
  obtain ⟨hb, hf⟩ := not_fine h1
  obtain ⟨f1, f2, f3, f4, f5, f6⟩ := fine_spec hf
  have hlen : bys.length ≤ 20 := by simp only [decide_eq_false_iff_not] at h2; omega
  have hgl : (givenL bs st bys).length ≤ big60 := by rw [given_len]; simp only [big60]; omega
  have hga := given_in bs f2 bys
  have hgn := given_len bs st bys
  have hsl := small (Nat.le_trans (stowL_le bs st fl) hb) (by omega)
  have hb60 : bs.length ≤ big60 := by simp only [big60]; omega
  -- what is common to both ways
  have rest : br (stowE bs st fl != 0)
       (br ((stowE bs st fl == 23) == true)
        (br ((((stowL bs st fl).length : Int) == 0) == true)
         (br ((csErr bs st fl (givenL bs st bys) != 0) == true) (v18.p () ∧ k (.bool true) []) (k (.bool false) []))
         (k (.bool false) []))
        (k (.bool false) []))
       (v19.p (bs, (st, (fl, (stowL bs st fl, ())))) ∧ v20.p (bs, (st, (fl, (stowL bs st fl, ())))) ∧
       br ((csErr bs st fl (stowL bs st fl) == 0) == true)
        (br ((csErr bs st fl (stowL bs st fl) == 0) == true)
         (br ((csErr bs st fl (givenL bs st bys) != 0) == false)
          (v46.p (givenL bs st bys, (stowL bs st fl, ())) ∧
          br ((Bool.not (earlier (givenL bs st bys) (stowL bs st fl))) == true)
           (br ((decide (fewestOf bs ≤ st)) == true) (v18.p () ∧ k (.bool true) []) (k (.bool false) []))
           (k (.bool false) []))
          (br ((decide (fewestOf bs ≤ st)) == true) (v18.p () ∧ k (.bool true) []) (k (.bool false) [])))
         (k (.bool false) []))
        (k (.bool false) [])) := by
    cases hgo : goB bs st fl []
    · obtain ⟨e1, e2⟩ := stow_no hf hgo
      have hc : csErr bs st fl (givenL bs st bys) ≠ 0 := fun h => by
        have := (goOn_any f6 hgn (cs_good0 hf hgn hga h) hga).1
        rw [hgo] at this; cases this
      rw [e1, e2]
      exact br_yes rfl (br_yes rfl (br_yes rfl (br_yes (by rw [bne_yes hc]; rfl) ⟨trivial, hk⟩)))
    · obtain ⟨e1, e2, e3, e4, e5⟩ := stow_ok hf hgo
      have hc := cs_zero hf e4 e5 e3
      have hfew := fewest_st f6 (good_smooth e3) e4 (by omega) e5
      rw [e1]
      refine br_no rfl ⟨⟨hb, hsl⟩, ⟨hb, hsl⟩, ?_⟩
      rw [e2, hc]
      refine br_yes rfl (br_yes rfl (br_intro (fun h => ⟨⟨hgl, by rw [← e2]; exact hsl⟩, br_yes ?_ (br_yes (dec_yes hfew) ⟨trivial, hk⟩)⟩) (fun _ => br_yes (dec_yes hfew) ⟨trivial, hk⟩)))
      have h : csErr bs st fl (givenL bs st bys) = 0 := by simpa using h
      rw [(goOn_any f6 hgn (cs_good0 hf hgn hga h) hga).2]; rfl
  refine ⟨hb, ⟨hf, hlen, hby⟩, ⟨hb, hgl⟩, hf, br_intro (fun h5 => ?_) (fun _ => rest)⟩
  have h5 : fewestOf bs ≤ 5 := by simpa using h5
  have hst : ∃ st' : Int, (if fewestOf bs > 1 then fewestOf bs else 1) = st' ∧ fewestOf bs ≤ st' ∧ 1 ≤ st' ∧ st' ≤ 5 := by
    refine ⟨_, rfl, ?_⟩
    split <;> omega
  obtain ⟨st', e, s1, s2, s3⟩ := hst
  rw [e]
  have hf2 := fine_fl hf s2 s3 (fl' := 1000) (by omega) (by omega)
  obtain ⟨e1, e2, e3, e4, e5⟩ := stow_ok hf2 (few_good hf s1 s2 s3)
  rw [e1, e2, good_smooth e3]
  exact ⟨trivial, hb, br_yes rfl ⟨⟨Nat.le_of_eq e4, hb60⟩, br_yes rfl (br_no (by simp [e4]) rest)⟩⟩
end Go.Abs.Ship
end

section
/- Plain laws of choices: where a box can go, and what comes of it. -/
set_option linter.unusedVariables false
namespace Go.Abs.Ship

theorem chE_zero {bs : List (Int × Int)} {st fl : Int} (hf : Fine bs st fl) {s : List Int} (hl : s.length < bs.length) (ha : allIn st s) : chE bs st fl s = 0 := by
  have hf0 : checkLoad bs st fl = 0 := hf
  unfold chE
  rw [if_neg (by omega), if_neg (by omega), if_neg (by rw [out_no ha]; simp)]
theorem chL_mem {bs : List (Int × Int)} {st fl : Int} {s : List Int} (h : chE bs st fl s = 0) {j : Int} : j ∈ chL bs st fl s ↔ 0 ≤ j ∧ j < st ∧ goB bs st fl (s ++ [j]) = true := by
  unfold chL
  rw [if_pos h, List.mem_map]
  constructor
  · rintro ⟨k, hk, rfl⟩
    obtain ⟨h1, h2⟩ := List.mem_filter.1 hk
    have := List.mem_range.1 h1
    exact ⟨Int.natCast_nonneg k, by show (k : Int) < st; omega, h2⟩
  · rintro ⟨h1, h2, h3⟩
    obtain ⟨k, rfl⟩ := Int.eq_ofNat_of_zero_le h1
    exact ⟨k, List.mem_filter.2 ⟨List.mem_range.2 (by omega), h3⟩, rfl⟩
theorem chL_list {bs : List (Int × Int)} {st fl : Int} {s : List Int} (h : chE bs st fl s = 0) (h0 : 0 ≤ st) : isList (chL bs st fl s) st = true := by
  rw [isList_spec]
  refine ⟨fun x hx => ?_, ?_⟩
  · obtain ⟨h1, h2, _⟩ := (chL_mem h).1 hx
    exact ⟨h1, h2⟩
  · unfold chL
    rw [if_pos h, List.pairwise_map]
    exact ((List.pairwise_lt_range).filter _).imp (fun h => Int.ofNat_lt.2 h)

theorem go_full {bs : List (Int × Int)} {st fl : Int} {s : List Int} (h : goB bs st fl s = true) : ∃ t, goodB bs st fl (s ++ t) = true ∧ (s ++ t).length = bs.length ∧ allIn st t := by
  obtain ⟨g1, g2, t, g3, g4⟩ := goOn_spec (goB_some h)
  rw [g3] at g1 g2
  exact ⟨t, g1, g2, g4⟩
theorem go_of {bs : List (Int × Int)} {st fl : Int} (hg : anyBad bs = false) {s t : List Int} (h1 : goodB bs st fl (s ++ t) = true) (h2 : (s ++ t).length = bs.length) (h3 : allIn st t) : goB bs st fl s = true := by
  obtain ⟨y, h4, _⟩ := goOn_first hg h2 h1 h3
  exact (go_some h4).2
theorem all_app {st : Int} {s t : List Int} (h1 : allIn st s) (h2 : allIn st t) : allIn st (s ++ t) := fun j hj => by
  rcases List.mem_append.1 hj with h | h
  · exact h1 j h
  · exact h2 j h
theorem go_nil {bs : List (Int × Int)} {st fl : Int} (hg : anyBad bs = false) {s : List Int} (hs : allIn st s) (h : goB bs st fl s = true) : goB bs st fl [] = true := by
  obtain ⟨t, h1, h2, h3⟩ := go_full h
  exact go_of hg (s := []) h1 h2 (all_app hs h3)
theorem go_step {bs : List (Int × Int)} {st fl : Int} (hg : anyBad bs = false) {s : List Int} (hl : s.length < bs.length) (h : goB bs st fl s = true) : ∃ k, 0 ≤ k ∧ k < st ∧ goB bs st fl (s ++ [k]) = true := by
  obtain ⟨t, h1, h2, h3⟩ := go_full h
  cases t with
  | nil => simp at h2; omega
  | cons k t =>
    obtain ⟨k0, k1⟩ := h3 k (List.mem_cons_self ..)
    exact ⟨k, k0, k1, go_of hg (s := s ++ [k]) (t := t) (by simpa using h1) (by simpa using h2) (fun j hj => h3 j (List.mem_cons_of_mem _ hj))⟩
theorem ch_some {bs : List (Int × Int)} {st fl : Int} (hf : Fine bs st fl) {s : List Int} (hl : s.length < bs.length) (ha : allIn st s) (h : goB bs st fl s = true) : 0 < (chL bs st fl s).length := by
  obtain ⟨f1, f2, f3, f4, f5, f6⟩ := fine_spec hf
  obtain ⟨k, h1, h2, h3⟩ := go_step f6 hl h
  exact List.length_pos_of_mem ((chL_mem (chE_zero hf hl ha)).2 ⟨h1, h2, h3⟩)
/-- A good stow begins with choices alone. -/
theorem good_ch {bs : List (Int × Int)} {st fl : Int} (hf : Fine bs st fl) {g : List Int} (hl : g.length = bs.length) (ha : allIn st g) (hg : goodB bs st fl g = true) {i : Nat} (hi : i < g.length) : g[i] ∈ chL bs st fl (g.take i) := by
  obtain ⟨f1, f2, f3, f4, f5, f6⟩ := fine_spec hf
  have htl : (g.take i).length = i := by simp; omega
  have hat : allIn st (g.take i) := fun j hj => ha j (List.mem_of_mem_take hj)
  rw [chL_mem (chE_zero hf (by omega) hat)]
  obtain ⟨g0, g1⟩ := ha _ (List.getElem_mem hi)
  have e : g.take i ++ [g[i]] ++ g.drop (i + 1) = g := by
    rw [← List.take_succ_eq_append_getElem hi]; exact List.take_append_drop _ _
  exact ⟨g0, g1, go_of f6 (t := g.drop (i + 1)) (by rw [e]; exact hg) (by rw [e]; exact hl) (fun j hj => ha j (List.mem_of_mem_drop hj))⟩
/-- The first one of the choices each time is the first stow's. -/
theorem first_ch {bs : List (Int × Int)} {st fl : Int} (hf : Fine bs st fl) (h : goB bs st fl [] = true) {i : Nat} (hi : i < (goL bs st fl []).length) (h0 : 0 < (chL bs st fl ((goL bs st fl []).take i)).length) :
    (chL bs st fl ((goL bs st fl []).take i))[0] = (goL bs st fl [])[i] := by
  obtain ⟨f1, f2, f3, f4, f5, f6⟩ := fine_spec hf
  obtain ⟨e1, e2, e3, e4, e5⟩ := stow_ok hf h
  have hm := good_ch hf e4 e5 e3 hi
  have hat : allIn st ((goL bs st fl []).take i) := fun j hj => e5 j (List.mem_of_mem_take hj)
  have hz := chE_zero hf (s := (goL bs st fl []).take i) (by simp; omega) hat
  have hp := (isList_spec.1 (chL_list hz (by omega))).2
  have hfirst : ∀ x : List Int, x.length = bs.length → goodB bs st fl x = true → allIn st x → earlier x (goL bs st fl []) = false := fun x g1 g2 g3 => (goOn_any f6 g1 g2 g3).2
  generalize goL bs st fl [] = y at *
  generalize hc : chL bs st fl (y.take i) = c at *
  have h1 : c[0] ≤ y[i] := by
    obtain ⟨j, hj, e⟩ := List.getElem_of_mem hm
    rcases Nat.eq_zero_or_pos j with h | h
    · subst h; omega
    · have := List.pairwise_iff_getElem.1 hp 0 j h0 hj h
      omega
  obtain ⟨c0, c1, c2⟩ := (chL_mem hz).1 (by rw [hc]; exact List.getElem_mem h0 : c[0] ∈ chL bs st fl (y.take i))
  obtain ⟨t, t1, t2, t3⟩ := go_full c2
  have := hfirst _ t2 t1 (all_app (all_app hat (fun j hj => by simp at hj; subst hj; exact ⟨c0, c1⟩)) t3)
  have e : y = y.take i ++ (y[i] :: y.drop (i + 1)) := by
    conv => lhs; rw [← List.take_append_drop i y]
    rw [List.drop_eq_getElem_cons hi]
  by_cases hne : c[0] = y[i]
  · exact hne
  · exfalso
    have h2 : earlier (y.take i ++ c[0] :: t) (y.take i ++ (y[i] :: y.drop (i + 1))) = decide (c[0] < y[i]) := earlier_head _ _ _ _ _ hne
    rw [← e] at h2
    rw [List.append_assoc, List.singleton_append, h2, decide_eq_false_iff_not] at this
    omega
/-- No stow is good: there is no choice. -/
theorem ch_none {bs : List (Int × Int)} {st fl : Int} (hf : Fine bs st fl) (h : goB bs st fl [] = false) {s : List Int} (hl : s.length < bs.length) (ha : allIn st s) : chL bs st fl s = [] := by
  obtain ⟨f1, f2, f3, f4, f5, f6⟩ := fine_spec hf
  refine List.eq_nil_iff_forall_not_mem.2 (fun j hj => ?_)
  obtain ⟨h1, h2, h3⟩ := (chL_mem (chE_zero hf hl ha)).1 hj
  have := go_nil f6 (all_app ha (fun x hx => by simp at hx; subst hx; exact ⟨h1, h2⟩)) h3
  rw [h] at this; cases this
end Go.Abs.Ship
end

section
/- The ship's statements: choices. -/
open Go.Proofs
set_option maxRecDepth 100000
set_option linter.unusedVariables false
namespace Go.Abs.Ship

theorem neb0 {a : Int} (h : a = 0) : ((a != 0) == false) = true := by simp [h]
theorem not_true {b : Bool} (h : b = true) : (Bool.not b == false) = true := by simp [h]

theorem pos_no {n : Nat} (h : 0 < n) : ((n : Int) == 0) = false := by simp; omega
theorem pos_ne {n : Nat} (h : 0 < n) : (((n : Int) == 0) == false) = true := by simp; omega

theorem k9 (hG : Good Try.prog (envOf [(40, mkC [v40]), (18, mkC [v18]), (32, mkC [v32]), (43, mkC [v43]), (19, mkC [v19]), (34, mkC [v34]), (47, mkC [v47]), (30, mkC [v30])])) : v9.Kept Try.prog 9 := by
  rintro ⟨bs, st, fl, bys, ⟨⟩⟩ hpre k hk
  change List (Int × Int) at bs
  change Int at st fl
  change List Int at bys
  refine aspec hmix hG Try.func9 tx9 (Eq.mpr (eq9 bs st fl bys k) ?_)
  replace hk : k (.bool true) [] := hk
  unfold vc9
  have hby : isBytes bys := hpre
  refine ⟨trivial, br_intro (fun h1 => br_intro (fun _ => ⟨trivial, hk⟩) (fun h2 => ?_)) (fun _ => ⟨trivial, hk⟩)⟩
  obtain ⟨hb, hf⟩ := not_fine h1
  obtain ⟨f1, f2, f3, f4, f5, f6⟩ := fine_spec hf
  have hlen : bys.length ≤ 20 := by simp only [decide_eq_false_iff_not] at h2; omega
  have hgl : (givenL bs st bys).length ≤ big60 := by rw [given_len]; simp only [big60]; omega
  have hga := given_in bs f2 bys
  have hgn := given_len bs st bys
  have hsl := small (Nat.le_trans (stowL_le bs st fl) hb) (by omega)
  refine ⟨hb, ⟨hf, hlen, hby⟩, ⟨hb, hgl⟩, ?_⟩
  generalize givenL bs st bys = g at *
  have hch60 : ∀ s, (chL bs st fl s).length ≤ big60 := fun s => small (chL_le bs st fl s) (by omega)
  cases hgo : goB bs st fl []
  · -- there is none
    obtain ⟨e1, e2⟩ := stow_no hf hgo
    have hn : 0 < bs.length := by
      rcases Nat.eq_zero_or_pos bs.length with h | h
      · have e : bs = [] := List.eq_nil_of_length_eq_zero h
        have := (goOn_any (bs := bs) (st := st) (fl := fl) f6 (x := []) (by simp [h]) (good_spec.2 ⟨fun k _ => by show (0 : Int) ≤ fl; omega, rfl⟩) (fun j hj => by simp at hj)).1
        rw [hgo] at this; cases this
      · exact h
    have hc : csErr bs st fl g ≠ 0 := fun h => by
      have := (goOn_any f6 hgn (cs_good0 hf hgn hga h) hga).1
      rw [hgo] at this; cases this
    have hnil : allIn st ([] : List Int) := fun j hj => by simp at hj
    have hz := chE_zero hf (s := []) (by simpa using hn) hnil
    have hcn := ch_none hf hgo (s := []) (by simpa using hn) hnil
    rw [e1]
    generalize csErr bs st fl g = f at hc
    refine Loop.intro (fun x => x = (bys, stowL bs st fl, 23, f, 0, bs, st, fl, [], [], g, ())) (fun _ => 0) ?_ rfl
    rintro x K rfl _
    dsimp only
    refine br_yes (by simp; omega) ⟨⟨hb, Nat.zero_le _⟩, ⟨hb, Nat.zero_le _⟩, ⟨by omega, by omega⟩, ⟨hb, Nat.zero_le _⟩, ?_⟩
    have et : List.take (Int.toNat 0) (List.drop 0 g) = [] := rfl
    rw [et, hz, hcn]
    exact br_yes rfl (br_yes rfl (br_yes rfl ⟨Nat.zero_le _, br_yes rfl ⟨Nat.zero_le _, br_no rfl (br_yes rfl (br_yes rfl (br_yes rfl (br_yes rfl (br_yes (by rw [bne_yes hc]; rfl) ⟨trivial, hk⟩)))))⟩⟩))
  -- there is one
  obtain ⟨e1, e2, e3, e4, e5⟩ := stow_ok hf hgo
  rw [e1, e2]
  rw [e2] at hsl
  have hfc := @first_ch bs st fl hf hgo
  generalize hfi : goL bs st fl [] = first at e3 e4 e5 hsl hfc
  have hgood : csErr bs st fl g = 0 → goodB bs st fl g = true := cs_good0 hf hgn hga
  generalize csErr bs st fl g = f at hgood
  refine Loop.intro (fun s => ∃ (i : Nat) (x : List Int), s = (bys, first, 0, f, (i : Int), bs, st, fl, x, first.take i, g, ()) ∧ i ≤ bs.length ∧ x.length = i ∧ allIn st x ∧ goB bs st fl x = true)
    (fun s => bs.length - s.2.2.2.2.1.toNat) ?_ ⟨0, [], rfl, Nat.zero_le _, rfl, fun j hj => by simp at hj, hgo⟩
  rintro s K ⟨i, x, rfl, hi, hxl, hxa, hxg⟩ hK
  dsimp only
  rw [br_decide]
  refine ⟨fun hlt => ?_, fun hge => ?_⟩
  · have hlt : i < bs.length := by omega
    have htl : (first.take i).length = i := by simp; omega
    have hta : allIn st (first.take i) := fun j hj => e5 j (List.mem_of_mem_take hj)
    have hgtl : (g.take i).length = i := by simp; omega
    have hgta : allIn st (g.take i) := fun j hj => hga j (List.mem_of_mem_take hj)
    have z1 := chE_zero hf (s := x) (by omega) hxa
    have z2 := chE_zero hf (s := first.take i) (by omega) hta
    have z3 := chE_zero hf (s := g.take i) (by omega) hgta
    have c1 := ch_some hf (s := x) (by omega) hxa hxg
    have c2 : 0 < (chL bs st fl (first.take i)).length := List.length_pos_of_mem (good_ch hf e4 e5 e3 (i := i) (by omega))
    have c3 := hfc (i := i) (by omega) c2
    have c4 : f = 0 → g[i]'(by omega) ∈ chL bs st fl (g.take i) := fun h => good_ch hf hgn hga (hgood h) (by omega)
    have i1 := chL_list z1 (show 0 ≤ st by omega)
    have i2 := chL_list z2 (show 0 ≤ st by omega)
    have hmemc : ∀ (j : Nat) (h : j < (chL bs st fl x).length), 0 ≤ (chL bs st fl x)[j] ∧ (chL bs st fl x)[j] < st ∧ goB bs st fl (x ++ [(chL bs st fl x)[j]]) = true := fun j h => (chL_mem z1).1 (List.getElem_mem h)
    have l1 := chL_le bs st fl x
    have l2 := chL_le bs st fl (first.take i)
    have l3 := chL_le bs st fl (g.take i)
    have q1 : x.length ≤ big60 := by simp only [big60]; omega
    have q2 : (first.take i).length ≤ big60 := by simp only [big60]; omega
    have q3 : (g.take i).length ≤ big60 := by simp only [big60]; omega
    simp only [Int.toNat_natCast, List.drop_zero]
    refine ⟨⟨hb, q1⟩, ⟨hb, q2⟩, ⟨by omega, by omega⟩, ⟨hb, q3⟩, br_yes (neb0 z1) (br_yes (neb0 z2) (br_yes (neb0 z3) ⟨hch60 _, br_yes (not_true i1) ⟨hch60 _, br_no (by rw [i2]; rfl) (br_no rfl (br_yes (pos_ne c1) (br_no (pos_no c2) ?_)))⟩⟩))⟩
    refine Loop.upto (fun t => (bys, first, 0, f, (i : Int), ((chL bs st fl (g.take i)).take t).any (fun y => y == g[i]'(by omega)), (t : Int), bs, st, fl, x, first.take i, g, (chL bs st fl x), (chL bs st fl (first.take i)), (chL bs st fl (g.take i)), ())) (fun t => True) (chL bs st fl (g.take i)).length rfl trivial ?_ ?_
    · intro t K2 ht _ hK2
      dsimp only
      rw [br_decide]
      refine ⟨fun _ => ?_, fun h => absurd ht (by omega)⟩
      have hK2 := hK2 trivial
      rw [List.take_succ_eq_append_getElem ht, List.any_append, List.any_cons, List.any_nil, Bool.or_false] at hK2
      simp only [Int.toNat_natCast]
      refine br_intro (fun h => ⟨⟨by omega, by omega⟩, ht, ⟨by omega, by omega⟩, by omega, fits64 (by omega) (by omega), ?_⟩) (fun h => ⟨fits64 (by omega) (by omega), ?_⟩)
      · have h : ((chL bs st fl (g.take i)).take t).any (fun y => y == g[i]'(by omega)) = false := by simpa using h
        rw [h, Bool.false_or] at hK2
        exact hK2
      · have h : ((chL bs st fl (g.take i)).take t).any (fun y => y == g[i]'(by omega)) = true := by simpa using h
        rw [h, Bool.true_or] at hK2
        exact hK2
    · intro K2 _
      dsimp only
      rw [br_decide]
      refine ⟨fun h => absurd h (by omega), fun _ => ?_⟩
      rw [List.take_of_length_le (Nat.le_refl _)]
      have hend : ∀ j (h : j < (chL bs st fl x).length), K (bys, first, 0, f, (i : Int) + 1, bs, st, fl, x ++ [(chL bs st fl x)[j]], first.take i ++ [(chL bs st fl (first.take i))[0]], g, ()) := by
        intro j h
        obtain ⟨m0, m1, m2⟩ := hmemc j h
        refine hK _ ⟨i + 1, x ++ [(chL bs st fl x)[j]], ?_, by omega, by simp; omega, all_app hxa (fun y hy => by simp at hy; subst hy; exact ⟨m0, m1⟩), m2⟩ ?_
        · rw [List.take_succ_eq_append_getElem (by omega), c3]; rfl
        · show bs.length - ((i : Int) + 1).toNat < bs.length - (i : Int).toNat
          omega
      refine br_intro (fun h7 => br_no ?_ ?_) (fun _ => ?_)
      · have h7 : f = 0 := by simpa using h7
        have := c4 h7
        rw [Bool.not_eq_false', List.any_eq_true]
        exact ⟨_, this, by simp⟩
      all_goals
        refine br_intro (fun h8 => ?_) (fun h8 => ?_)
        · have h8 : 0 < bys.length := by simp at h8; omega
          have em : (i : Int) % ((bys.length : Nat) : Int) = ((i % bys.length : Nat) : Int) := rfl
          have hlt8 : i % bys.length < bys.length := Nat.mod_lt _ h8
          have hbb := hby _ (List.getElem_mem hlt8)
          have r0 := Int.emod_nonneg bys[i % bys.length] (show (((chL bs st fl x).length : Nat) : Int) ≠ 0 by omega)
          have r1 := Int.emod_lt_of_pos bys[i % bys.length] (show 0 < (((chL bs st fl x).length : Nat) : Int) by omega)
          simp only [em, Int.toNat_natCast]
          exact ⟨⟨by omega, by omega⟩, ⟨by omega, hlt8⟩, fits64 (by omega) (by omega), ⟨hbb.1, by omega⟩, ⟨r0, by omega⟩, by omega, by simp only [List.length_singleton, big]; omega, ⟨by omega, c2⟩, c2, by simp only [List.length_singleton, big]; omega, fits64 (by omega) (by omega), hend _ _⟩
        · exact ⟨⟨by omega, by omega⟩, ⟨by simp, by simp; omega⟩, by simp; omega, by simp only [List.length_singleton, big]; omega, ⟨by omega, c2⟩, c2, by simp only [List.length_singleton, big]; omega, fits64 (by omega) (by omega), hend _ _⟩
  · have hie : i = bs.length := by omega
    obtain ⟨t, t1, t2, t3⟩ := go_full hxg
    have ht : t = [] := List.eq_nil_of_length_eq_zero (by simp at t2; omega)
    subst ht
    rw [List.append_nil] at t1 t2
    rw [cs_zero hf t2 hxa t1, hie, List.take_of_length_le (by omega)]
    exact ⟨⟨hb, by show x.length ≤ big60; simp only [big60]; omega⟩, br_yes rfl (br_yes rfl ⟨⟨hsl, hsl⟩, br_yes (eqLt _) ⟨trivial, hk⟩⟩)⟩
end Go.Abs.Ship
end

section
/- The contracts put together (printed by a program). -/
open Go.Proofs
set_option maxRecDepth 100000
namespace Go.Abs.Ship
theorem hc16 : HasCode Try.prog 16 := hasCode Try.func16 (by kernel_rfl) (by kernel_rfl)
theorem g16 : Keeps Try.prog 16 [v16] := keeps1 hc16 (k16 good_nil)
theorem hc22 : HasCode Try.prog 22 := hasCode Try.func22 (by kernel_rfl) (by kernel_rfl)
theorem g22 : Keeps Try.prog 22 [v22] := keeps1 hc22 (k22 good_nil)
theorem hc40 : HasCode Try.prog 40 := hasCode Try.func40 (by kernel_rfl) (by kernel_rfl)
theorem g40 : Keeps Try.prog 40 [v40] := keeps1 hc40 (k40 (g16.add (g22.add good_nil)))
theorem hc75 : HasCode Try.prog 75 := hasCode Try.func75 (by kernel_rfl) (by kernel_rfl)
theorem g75 : Keeps Try.prog 75 [v75] := keeps1 hc75 (k75 good_nil)
theorem hc42 : HasCode Try.prog 42 := hasCode Try.func42 (by kernel_rfl) (by kernel_rfl)
theorem g42 : Keeps Try.prog 42 [v42] := keeps1 hc42 (k42 good_nil)
theorem hc49 : HasCode Try.prog 49 := hasCode Try.func49 (by kernel_rfl) (by kernel_rfl)
theorem g49 : Keeps Try.prog 49 [v49] := keeps1 hc49 (k49 (g75.add (g42.add good_nil)))
theorem hc50 : HasCode Try.prog 50 := hasCode Try.func50 (by kernel_rfl) (by kernel_rfl)
theorem g50 : Keeps Try.prog 50 [v50] := keeps1 hc50 (k50 good_nil)
theorem hc78 : HasCode Try.prog 78 := hasCode Try.func78 (by kernel_rfl) (by kernel_rfl)
theorem g78 : Keeps Try.prog 78 [v78] := keeps1 hc78 (k78 good_nil)
theorem hc93 : HasCode Try.prog 93 := hasCode Try.func93 (by kernel_rfl) (by kernel_rfl)
theorem g93a : Keeps Try.prog 93 [v93a] := keeps1 hc93 (k93a (g78.add good_nil))
theorem hc77 : HasCode Try.prog 77 := hasCode Try.func77 (by kernel_rfl) (by kernel_rfl)
theorem g77 : Keeps Try.prog 77 [v77] := keeps1 hc77 (k77 (g93a.add good_nil))
theorem hc59 : HasCode Try.prog 59 := hasCode Try.func59 (by kernel_rfl) (by kernel_rfl)
theorem g59 : Keeps Try.prog 59 [v59] := keeps1 hc59 (k59 (g77.add good_nil))
theorem hc58 : HasCode Try.prog 58 := hasCode Try.func58 (by kernel_rfl) (by kernel_rfl)
theorem g58 : Keeps Try.prog 58 [v58] := keeps1 hc58 (k58 (g59.add good_nil))
theorem hc79 : HasCode Try.prog 79 := hasCode Try.func79 (by kernel_rfl) (by kernel_rfl)
theorem g79 : Keeps Try.prog 79 [v79] := keeps1 hc79 (k79 (g58.add good_nil))
theorem hc60 : HasCode Try.prog 60 := hasCode Try.func60 (by kernel_rfl) (by kernel_rfl)
theorem g60 : Keeps Try.prog 60 [v60] := keeps1 hc60 (k60 (g79.add good_nil))
theorem hc21 : HasCode Try.prog 21 := hasCode Try.func21 (by kernel_rfl) (by kernel_rfl)
theorem g21 : Keeps Try.prog 21 [v21] := keeps1 hc21 (k21 (g59.add (g60.add good_nil)))
theorem hc61 : HasCode Try.prog 61 := hasCode Try.func61 (by kernel_rfl) (by kernel_rfl)
theorem g61 : Keeps Try.prog 61 [v61] := keeps1 hc61 (k61 (g21.add good_nil))
theorem hc83 : HasCode Try.prog 83 := hasCode Try.func83 (by kernel_rfl) (by kernel_rfl)
theorem g83 : Keeps Try.prog 83 [v83] := keeps1 hc83 (k83 good_nil)
theorem hc76 : HasCode Try.prog 76 := hasCode Try.func76 (by kernel_rfl) (by kernel_rfl)
theorem g76 : Keeps Try.prog 76 [v76] := keeps1 hc76 (k76 (g83.add good_nil))
theorem hc51 : HasCode Try.prog 51 := hasCode Try.func51 (by kernel_rfl) (by kernel_rfl)
theorem g51 : Keeps Try.prog 51 [v51] := keeps1 hc51 (k51 (g61.add (g59.add (g76.add good_nil))))
theorem hc52 : HasCode Try.prog 52 := hasCode Try.func52 (by kernel_rfl) (by kernel_rfl)
theorem g52 : Keeps Try.prog 52 [v52] := keeps1 hc52 (k52 good_nil)
theorem hc54 : HasCode Try.prog 54 := hasCode Try.func54 (by kernel_rfl) (by kernel_rfl)
theorem g54 : Keeps Try.prog 54 [v54] := keeps1 hc54 (k54 good_nil)
theorem hc53 : HasCode Try.prog 53 := hasCode Try.func53 (by kernel_rfl) (by kernel_rfl)
theorem g53 : Keeps Try.prog 53 [v53] := keeps1 hc53 (k53 (g54.add good_nil))
theorem hc19 : HasCode Try.prog 19 := hasCode Try.func19 (by kernel_rfl) (by kernel_rfl)
theorem g19 : Keeps Try.prog 19 [v19] := keeps1 hc19 (k19 (g51.add (g52.add (g53.add good_nil))))
theorem hc80 : HasCode Try.prog 80 := hasCode Try.func80 (by kernel_rfl) (by kernel_rfl)
theorem g80 : Keeps Try.prog 80 [v80] := keeps1 hc80 (k80 good_nil)
theorem hc82 : HasCode Try.prog 82 := hasCode Try.func82 (by kernel_rfl) (by kernel_rfl)
theorem g82 : Keeps Try.prog 82 [v82] := keeps1 hc82 (k82 good_nil)
theorem hc81 : HasCode Try.prog 81 := hasCode Try.func81 (by kernel_rfl) (by kernel_rfl)
theorem g81 : Keeps Try.prog 81 [v81] := keeps1 hc81 (k81 (g82.add good_nil))
theorem hc62 : HasCode Try.prog 62 := hasCode Try.func62 (by kernel_rfl) (by kernel_rfl)
theorem g62 : Keeps Try.prog 62 [v62] := keeps1 hc62 (k62 (g80.add (g81.add (g83.add good_nil))))
theorem hc63 : HasCode Try.prog 63 := hasCode Try.func63 (by kernel_rfl) (by kernel_rfl)
theorem g63 : Keeps Try.prog 63 [v63] := keeps1 hc63 (k63 good_nil)
theorem hc23 : HasCode Try.prog 23 := hasCode Try.func23 (by kernel_rfl) (by kernel_rfl)
theorem g23 : Keeps Try.prog 23 [v23] := keeps1 hc23 (k23 (g61.add (g62.add (g63.add good_nil))))
theorem hc66 : HasCode Try.prog 66 := hasCode Try.func66 (by kernel_rfl) (by kernel_rfl)
theorem g66 : Keeps Try.prog 66 [v66] := keeps1 hc66 (k66 (g83.add good_nil))
theorem hc27 : HasCode Try.prog 27 := hasCode Try.func27 (by kernel_rfl) (by kernel_rfl)
theorem g27 : Keeps Try.prog 27 [v27] := keeps1 hc27 (k27 (g61.add (g66.add good_nil)))
theorem hc65 : HasCode Try.prog 65 := hasCode Try.func65 (by kernel_rfl) (by kernel_rfl)
theorem g65 : Keeps Try.prog 65 [v65] := keeps1 hc65 (k65 (g59.add good_nil))
theorem hc25 : HasCode Try.prog 25 := hasCode Try.func25 (by kernel_rfl) (by kernel_rfl)
theorem g25 : Keeps Try.prog 25 [v25] := keeps1 hc25 (k25 (g61.add (g65.add good_nil)))
theorem hc85 : HasCode Try.prog 85 := hasCode Try.func85 (by kernel_rfl) (by kernel_rfl)
theorem g85 : Keeps Try.prog 85 [v85] := keeps1 hc85 (k85 good_nil)
theorem hc68 : HasCode Try.prog 68 := hasCode Try.func68 (by kernel_rfl) (by kernel_rfl)
theorem g68 : Keeps Try.prog 68 [v68] := keeps_rec m68 hc68 (fun n h => k68 n (g52.add (g76.add (g85.add (h.add good_nil)))))
theorem hc32 : HasCode Try.prog 32 := hasCode Try.func32 (by kernel_rfl) (by kernel_rfl)
theorem g32 : Keeps Try.prog 32 [v32] := keeps1 hc32 (k32 (g61.add (g68.add good_nil)))
theorem hc70 : HasCode Try.prog 70 := hasCode Try.func70 (by kernel_rfl) (by kernel_rfl)
theorem g70 : Keeps Try.prog 70 [v70] := keeps1 hc70 (k70 (g86 good_nil))
theorem hc34 : HasCode Try.prog 34 := hasCode Try.func34 (by kernel_rfl) (by kernel_rfl)
theorem g34 : Keeps Try.prog 34 [v34] := keeps1 hc34 (k34 (g61.add (g59.add (g68.add (g70.add good_nil)))))
theorem g63i : Keeps Try.prog 63 [v63i] := keeps1 hc63 (k63i good_nil)
theorem hc88 : HasCode Try.prog 88 := hasCode Try.func88 (by kernel_rfl) (by kernel_rfl)
theorem g88 : Keeps Try.prog 88 [v88] := keeps1 hc88 (k88 good_nil)
theorem hc95 : HasCode Try.prog 95 := hasCode Try.func95 (by kernel_rfl) (by kernel_rfl)
theorem g95 : Keeps Try.prog 95 [v95] := keeps1 hc95 (k95 good_nil)
theorem hc90 : HasCode Try.prog 90 := hasCode Try.func90 (by kernel_rfl) (by kernel_rfl)
theorem g90 : Keeps Try.prog 90 [v90] := keeps1 hc90 (k90 (g95.add good_nil))
theorem hc89 : HasCode Try.prog 89 := hasCode Try.func89 (by kernel_rfl) (by kernel_rfl)
theorem g89 : Keeps Try.prog 89 [v89] := keeps1 hc89 (k89 (g90.add good_nil))
theorem g93b : Keeps Try.prog 93 [v93b] := keeps1 hc93 (k93b (g89.add good_nil))
theorem hc87 : HasCode Try.prog 87 := hasCode Try.func87 (by kernel_rfl) (by kernel_rfl)
theorem g87 : Keeps Try.prog 87 [v87] := keeps1 hc87 (k87 (g93b.add (g89.add good_nil)))
theorem hc71 : HasCode Try.prog 71 := hasCode Try.func71 (by kernel_rfl) (by kernel_rfl)
theorem g71 : Keeps Try.prog 71 [v71] := keeps_rec m71 hc71 (fun n h => k71 n (g88.add (g87.add (g62.add (h.add good_nil)))))
theorem hc36 : HasCode Try.prog 36 := hasCode Try.func36 (by kernel_rfl) (by kernel_rfl)
theorem g36 : Keeps Try.prog 36 [v36] := keeps1 hc36 (k36 (g61.add (g63i.add (g71.add good_nil))))
theorem hc74 : HasCode Try.prog 74 := hasCode Try.func74 (by kernel_rfl) (by kernel_rfl)
theorem g74 : Keeps Try.prog 74 [v74] := keeps1 hc74 (k74 good_nil)
theorem hc73 : HasCode Try.prog 73 := hasCode Try.func73 (by kernel_rfl) (by kernel_rfl)
theorem g73 : Keeps Try.prog 73 [v73] := keeps1 hc73 (k73 (g74.add good_nil))
theorem hc38 : HasCode Try.prog 38 := hasCode Try.func38 (by kernel_rfl) (by kernel_rfl)
theorem g38 : Keeps Try.prog 38 [v38] := keeps1 hc38 (k38 (g51.add (g63.add (g73.add good_nil))))
theorem hc29 : HasCode Try.prog 29 := hasCode Try.func29 (by kernel_rfl) (by kernel_rfl)
theorem g29 : Keeps Try.prog 29 [v29] := keeps1 hc29 (k29 (g61.add (g62.add (g63.add good_nil))))
theorem hc30 : HasCode Try.prog 30 := hasCode Try.func30 (by kernel_rfl) (by kernel_rfl)
theorem g30 : Keeps Try.prog 30 [v30] := keeps1 hc30 (k30 good_nil)
theorem hc64 : HasCode Try.prog 64 := hasCode Try.func64 (by kernel_rfl) (by kernel_rfl)
theorem g64 : Keeps Try.prog 64 [v64] := keeps1 hc64 (k64 good_nil)
theorem hc45 : HasCode Try.prog 45 := hasCode Try.func45 (by kernel_rfl) (by kernel_rfl)
theorem g45 : Keeps Try.prog 45 [v45] := keeps1 hc45 (k45 good_nil)
theorem hc31 : HasCode Try.prog 31 := hasCode Try.func31 (by kernel_rfl) (by kernel_rfl)
theorem g31 : Keeps Try.prog 31 [v31] := keeps1 hc31 (k31 (g64.add (g45.add good_nil)))
theorem hc18 : HasCode Try.prog 18 := hasCode Try.func18 (by kernel_rfl) (by kernel_rfl)
theorem g18 : Keeps Try.prog 18 [v18] := keeps1 hc18 (k18 (g49.add (g50.add (g19.add (g23.add (g27.add (g25.add (g32.add (g34.add (g36.add (g38.add (g29.add (g30.add (g31.add good_nil))))))))))))))
theorem hc43 : HasCode Try.prog 43 := hasCode Try.func43 (by kernel_rfl) (by kernel_rfl)
theorem g43 : Keeps Try.prog 43 [v43] := keeps1 hc43 (k43 (g45.add good_nil))
theorem hc47 : HasCode Try.prog 47 := hasCode Try.func47 (by kernel_rfl) (by kernel_rfl)
theorem g47 : Keeps Try.prog 47 [v47] := keeps1 hc47 (k47 good_nil)
theorem hc9 : HasCode Try.prog 9 := hasCode Try.func9 (by kernel_rfl) (by kernel_rfl)
theorem g9 : Keeps Try.prog 9 [v9] := keeps1 hc9 (k9 (g40.add (g18.add (g32.add (g43.add (g19.add (g34.add (g47.add (g30.add good_nil)))))))))
end Go.Abs.Ship
end

