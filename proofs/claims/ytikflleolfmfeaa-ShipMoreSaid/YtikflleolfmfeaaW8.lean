/- Part 8 of the road to this seat's statements: lemmas about a small interpreter over the model's code, and about the functions that it is used on. No condition of its own. -/
import Derived.Test.YtikflleolfmfeaaW7

section
/- Plain laws: boxes that rise stand in stacks of their own. -/
set_option linter.unusedVariables false
namespace Go.Abs.Ship

theorem nodup_le {α : Type} [BEq α] [LawfulBEq α] : ∀ (l m : List α), l.Nodup → (∀ x ∈ l, x ∈ m) → l.length ≤ m.length
  | [], m, _, _ => Nat.zero_le _
  | a :: l, m, h, hs => by
    obtain ⟨h1, h2⟩ := List.nodup_cons.1 h
    have ha := hs a (List.mem_cons_self ..)
    have := nodup_le l (m.erase a) h2 (fun x hx => by
      refine (List.mem_erase_of_ne (fun e => ?_)).2 (hs x (List.mem_cons_of_mem _ hx))
      subst e; exact h1 hx)
    rw [List.length_erase_of_mem ha] at this
    have := List.length_pos_of_mem ha
    simp only [List.length_cons]; omega

theorem wFrom_ge {bs : List (Int × Int)} (h : anyBad bs = false) (k : Int) : ∀ (s : List Int) (i j : Nat) (hj : j < s.length), s[j] = k → wt bs ((i + j : Nat) : Int) ≤ wFrom bs i s k
  | x :: r, i, 0, hj, e => by
    have e : x = k := e
    have := (wFrom_spec h k r (i + 1)).1
    simp only [wFrom, e, if_true, Nat.add_zero]; omega
  | x :: r, i, j + 1, hj, e => by
    have e : r[j]'(by simpa using hj) = k := e
    have h1 := wFrom_ge h k r (i + 1) j (by simpa using hj) e
    rw [show i + 1 + j = i + (j + 1) by omega] at h1
    have := (wt_spec h i).1
    simp only [wFrom]
    split <;> omega
theorem wAt_pos {bs : List (Int × Int)} (h : anyBad bs = false) {s : List Int} {j : Nat} (hj : j < s.length) (hb : j < bs.length) : 0 < wAt bs s (s[j]) := by
  have := wFrom_ge h (s[j]) s 0 j hj rfl
  have h2 := box_spec h hb
  rw [Nat.zero_add, wt_eq hb] at this
  unfold wAt; omega

/-- The stacks of boxes that rise. -/
theorem rise_stacks {bs : List (Int × Int)} (hg : anyBad bs = false) {s : List Int} (hs : smoothB bs s = true) (hl : s.length = bs.length) {l : List Int} (hr : Ris bs l) : (l.map (fun i => s.getD i.toNat 0)).Nodup := by
  obtain ⟨h1, h2⟩ := (ris_iff hg).1 hr
  rw [List.nodup_iff_pairwise_ne, List.pairwise_map]
  refine List.Pairwise.imp_of_mem (fun {a b} ha hb hab e => ?_) h2
  obtain ⟨a0, a1⟩ := h1 a ha
  obtain ⟨b0, b1⟩ := h1 b hb
  have := smoothB_iff.1 hs b.toNat (by omega) a.toNat (by omega) e
  rw [show ((b.toNat : Nat) : Int) = b by omega, show ((a.toNat : Nat) : Int) = a by omega] at this
  omega
theorem rise_count {bs : List (Int × Int)} (hg : anyBad bs = false) {s : List Int} (hs : smoothB bs s = true) (hl : s.length = bs.length) {l : List Int} (hr : Ris bs l) (p : List Int) (hp : ∀ i (h : i < s.length), s[i] ∈ p) : l.length ≤ p.length := by
  have := nodup_le _ p (rise_stacks hg hs hl hr) (fun x hx => by
    obtain ⟨i, hi, rfl⟩ := List.mem_map.1 hx
    obtain ⟨a0, a1⟩ := ((ris_iff hg).1 hr).1 i hi
    rw [getD_at (by omega)]
    exact hp _ (by omega))
  simpa using this
theorem fewest_stacks {bs : List (Int × Int)} (hg : anyBad bs = false) {s : List Int} (hs : smoothB bs s = true) (hl : s.length = bs.length) (p : List Int) (hp : ∀ i (h : i < s.length), s[i] ∈ p) : fewestOf bs ≤ (p.length : Int) := by
  obtain ⟨l, h1, h2⟩ := fewest_ge hg
  have := rise_count hg hs hl h1 p hp
  omega
theorem fewest_st {bs : List (Int × Int)} (hg : anyBad bs = false) {s : List Int} (hs : smoothB bs s = true) (hl : s.length = bs.length) {st : Int} (h0 : 0 ≤ st) (ha : allIn st s) : fewestOf bs ≤ st := by
  have := fewest_stacks hg hs hl ((List.range st.toNat).map Int.ofNat) (fun i h => by
    obtain ⟨a0, a1⟩ := ha _ (List.getElem_mem h)
    exact List.mem_map.2 ⟨(s[i]).toNat, List.mem_range.2 (by omega), by show ((s[i].toNat : Nat) : Int) = _; omega⟩)
  simp only [List.length_map, List.length_range] at this
  omega
theorem csN_fewest {bs : List (Int × Int)} {st fl : Int} {s : List Int} (h : csErr bs st fl s = 0) : fewestOf bs ≤ csN bs st fl s := by
  have hse : stowErr bs st fl s = 0 := by
    unfold csErr at h
    split at h
    · rename_i h2; exact absurd h h2
    · rename_i h2; omega
  obtain ⟨g1, g2, g3, g4⟩ := stow_spec hse
  obtain ⟨f1, f2, f3, f4, f5, f6⟩ := fine_spec g1
  have ha := allIn_of g3
  have := fewest_stacks f6 g4 g2 (((List.range 5).filter (fun k : Nat => decide (0 < wAt bs s (k : Int)))).map Int.ofNat) (fun i hi => by
    obtain ⟨a0, a1⟩ := ha _ (List.getElem_mem hi)
    refine List.mem_map.2 ⟨(s[i]).toNat, List.mem_filter.2 ⟨List.mem_range.2 (by omega), ?_⟩, by show ((s[i].toNat : Nat) : Int) = _; omega⟩
    rw [decide_eq_true_eq, show ((s[i].toNat : Nat) : Int) = s[i] by omega]
    exact wAt_pos f6 hi (by omega))
  have e : csN bs st fl s = (((weights bs s 5).filter (fun w => decide (0 < w))).length : Int) := by unfold csN; rw [if_pos h]
  rw [e]
  unfold weights
  rw [List.filter_map, List.length_map]
  rw [List.length_map] at this
  exact this

theorem givenAt_in (bs : List (Int × Int)) {st : Int} (h : 1 ≤ st) (out : List Int) {f : Int} (hf : 0 ≤ f ∧ f < st) : 0 ≤ givenAt bs st out f ∧ givenAt bs st out f < st := by
  unfold givenAt
  have key : ∀ (l : List Nat) (a : Int), 0 ≤ a ∧ a < st → 0 ≤ l.foldl (givenPick bs st out f) a ∧ l.foldl (givenPick bs st out f) a < st := by
    intro l
    induction l with
    | nil => intro a ha; exact ha
    | cons k l ih =>
      intro a ha
      refine ih _ ?_
      unfold givenPick
      split
      · exact ⟨Int.emod_nonneg _ (by omega), Int.emod_lt_of_pos _ (by omega)⟩
      · exact ha
  exact key _ f hf
theorem givenFrom_in {st : Int} (h : 1 ≤ st) (bys : List Int) (i : Nat) : 0 ≤ givenFrom st bys i ∧ givenFrom st bys i < st := by
  unfold givenFrom
  split
  · omega
  · exact ⟨Int.emod_nonneg _ (by omega), Int.emod_lt_of_pos _ (by omega)⟩
theorem givenUp_in (bs : List (Int × Int)) {st : Int} (h : 1 ≤ st) (bys : List Int) : ∀ i, allIn st (givenUp bs st bys i)
  | 0 => fun j hj => by simp [givenUp] at hj
  | i + 1 => fun j hj => by
    simp only [givenUp, List.mem_append, List.mem_singleton] at hj
    rcases hj with hj | rfl
    · exact givenUp_in bs h bys i j hj
    · exact givenAt_in bs h _ (givenFrom_in h bys i)
theorem given_in (bs : List (Int × Int)) {st : Int} (h : 1 ≤ st) (bys : List Int) : allIn st (givenL bs st bys) := givenUp_in bs h bys _
theorem given_len (bs : List (Int × Int)) (st : Int) (bys : List Int) : (givenL bs st bys).length = bs.length := givenUp_len bs st bys _

theorem out_no {st : Int} {s : List Int} (ha : allIn st s) : anyOut 0 (st - 1) s = false := by
  rw [← Bool.not_eq_true]
  intro hh
  obtain ⟨y, hy, ho⟩ := List.any_eq_true.1 hh
  have := ha y hy
  simp only [outOf, decide_eq_true_eq] at ho
  omega
/-- A stow of right numbers: its error says whether it is smooth. -/
theorem stowErr_eq {bs : List (Int × Int)} {st fl : Int} (hf : Fine bs st fl) {s : List Int} (hl : s.length = bs.length) (ha : allIn st s) : stowErr bs st fl s = if smoothB bs s then 0 else 23 := by
  have hf' : checkLoad bs st fl = 0 := hf
  unfold stowErr
  rw [if_neg (by omega), if_neg (by omega), if_neg (by rw [out_no ha]; simp)]
  cases smoothB bs s <;> rfl
theorem csErr_eq {bs : List (Int × Int)} {st fl : Int} (hf : Fine bs st fl) {s : List Int} (hl : s.length = bs.length) (ha : allIn st s) : csErr bs st fl s = if smoothB bs s then (if goodB bs st fl s then 0 else 4) else 23 := by
  unfold csErr
  rw [stowErr_eq hf hl ha]
  cases hs : smoothB bs s
  · rfl
  · cases hg : goodB bs st fl s <;> simp
theorem light {bs : List (Int × Int)} (hg : anyBad bs = false) (hn : bs.length ≤ 9) {s : List Int} (hl : s.length ≤ bs.length) (st : Int) (hs : smoothB bs s = true) : goodB bs st 1000 s = true := by
  rw [goodB_eq, hs, Bool.and_true, List.all_eq_true]
  intro w hw
  unfold weights at hw
  obtain ⟨k, _, rfl⟩ := List.mem_map.1 hw
  have := (wAt_spec hg s (k : Int)).2
  simp only [decide_eq_true_eq]
  omega
theorem fine_fl {bs : List (Int × Int)} {st fl : Int} (hf : Fine bs st fl) {st' fl' : Int} (h1 : 1 ≤ st') (h2 : st' ≤ 5) (h3 : 1 ≤ fl') (h4 : fl' ≤ 1000) : Fine bs st' fl' := by
  obtain ⟨f1, f2, f3, f4, f5, f6⟩ := fine_spec hf
  show checkLoad bs st' fl' = 0
  unfold checkLoad
  rw [if_neg (by omega), if_neg (by rw [f6]; simp; omega)]
end Go.Abs.Ship
end

section
/- The ship's statements: THE STAGE'S THEOREM. -/
open Go.Proofs
set_option maxRecDepth 100000
set_option linter.unusedVariables false
namespace Go.Abs.Ship

theorem not_fine {bs : List (Int × Int)} {st fl : Int} (h : (Bool.not (fine bs st fl) == false) = true) : bs.length ≤ 16 ∧ Fine bs st fl := by
  simp [fine, great, clIs] at h
  exact h
theorem csErr_1000 {bs : List (Int × Int)} {st fl : Int} (hf : Fine bs st fl) (bys : List Int) : csErr bs st 1000 (givenL bs st bys) = 0 ∨ csErr bs st 1000 (givenL bs st bys) = 23 := by
  obtain ⟨f1, f2, f3, f4, f5, f6⟩ := fine_spec hf
  have hf2 := fine_fl hf f2 f3 (fl' := 1000) (by omega) (by omega)
  have hl := given_len bs st bys
  rw [csErr_eq hf2 hl (given_in bs f2 bys)]
  cases hs : smoothB bs (givenL bs st bys)
  · right; rfl
  · left
    rw [light f6 f1 (by omega) st hs]; rfl
theorem riseErr_listed {bs : List (Int × Int)} {st fl : Int} (hf : Fine bs st fl) (b : Nat) : riseErr bs st fl (listed b bs.length) = 0 ∨ riseErr bs st fl (listed b bs.length) = 16 := by
  have hf' : checkLoad bs st fl = 0 := hf
  unfold riseErr
  rw [if_neg (by omega), listed_isList]
  cases riseB bs 0 (listed b bs.length)
  · right; rfl
  · left; rfl
theorem riseN_le {bs : List (Int × Int)} {st fl : Int} (hf : Fine bs st fl) {b : Nat} (h : riseErr bs st fl (listed b bs.length) = 0) : riseN bs st fl (listed b bs.length) ≤ fewestOf bs := by
  obtain ⟨f1, f2, f3, f4, f5, f6⟩ := fine_spec hf
  have hf' : checkLoad bs st fl = 0 := hf
  unfold riseN
  rw [if_pos h]
  refine fewest_le f6 ⟨listed_isList _ _, ?_⟩
  unfold riseErr at h
  rw [if_neg (by omega), listed_isList] at h
  cases hr : riseB bs 0 (listed b bs.length)
  · rw [hr] at h; simp at h
  · rfl

theorem dec_yes {p : Prop} [Decidable p] (h : p) : (decide p == true) = true := by simp [h]

theorem k7 (hG : Good Try.prog (envOf [(40, mkC [v40]), (18, mkC [v18]), (41, mkC [v41]), (42, mkC [v42]), (43, mkC [v43]), (19, mkC [v19]), (44, mkC [v44]), (25, mkC [v25])])) : v7.Kept Try.prog 7 := by
  rintro ⟨bs, st, fl, bys, bits, ⟨⟩⟩ hpre k hk
  change List (Int × Int) at bs
  change Int at st fl
  change List Int at bys
  change Int at bits
  refine aspec hmix hG Try.func7 tx7 (Eq.mpr (eq7 bs st fl bys bits k) ?_)
  replace hk : k (.bool true) [] := hk
  unfold vc7
  obtain ⟨hby, hbits⟩ := hpre
  have hby : isBytes bys := hby
  have hbits : isHalf bits := hbits
  refine ⟨trivial, br_intro (fun h1 => br_intro (fun _ => ⟨trivial, hk⟩) (fun h2 => ?_)) (fun _ => ⟨trivial, hk⟩)⟩
  obtain ⟨hb, hf⟩ := not_fine h1
  obtain ⟨f1, f2, f3, f4, f5, f6⟩ := fine_spec hf
  have hlen : bys.length ≤ 20 := by simp only [decide_eq_false_iff_not] at h2; omega
  have hgl : (givenL bs st bys).length ≤ big60 := by rw [given_len]; simp only [big60]; omega
  have hll : (listed bits.toNat bs.length).length ≤ big60 := small (listed_len _ _) (by omega)
  simp only [Int.toNat_natCast]
  refine ⟨hf, trivial, ⟨hf, hlen, hby⟩, ⟨hb, hgl⟩, fits64 (by omega) (by omega), ⟨⟨hbits.1, by show bits < _; have := hbits.2; omega⟩, by show (0 : Int) ≤ (bs.length : Int); omega, by show (bs.length : Int) ≤ 40; omega⟩, ⟨hb, hll⟩, ?_⟩
  have c1 := csErr_1000 hf bys
  have c2 := riseErr_listed hf bits.toNat
  have d1 : csErr bs st 1000 (givenL bs st bys) = 0 → fewestOf bs ≤ csN bs st 1000 (givenL bs st bys) := csN_fewest
  have d2 : riseErr bs st fl (listed bits.toNat bs.length) = 0 → riseN bs st fl (listed bits.toNat bs.length) ≤ fewestOf bs := riseN_le hf
  generalize csErr bs st 1000 (givenL bs st bys) = e at c1 d1 ⊢
  generalize riseErr bs st fl (listed bits.toNat bs.length) = f at c2 d2 ⊢
  rcases c1 with rfl | rfl
  · have d0 := d1 rfl
    have d1 := dec_yes (d1 rfl)
    rcases c2 with rfl | rfl
    · have d3 := dec_yes (Int.le_trans (d2 rfl) d0)
      have d2 := dec_yes (d2 rfl)
      exact br_no rfl (br_no rfl (br_yes rfl (br_yes d1 (br_yes rfl (br_yes d3 (br_yes rfl (br_yes d2 ⟨trivial, hk⟩)))))))
    · exact br_no rfl (br_yes rfl (br_no rfl (br_yes rfl (br_yes d1 (br_no rfl (br_no rfl ⟨trivial, hk⟩))))))
  · rcases c2 with rfl | rfl
    · have d2 := dec_yes (d2 rfl)
      exact br_yes rfl (br_yes rfl (br_no rfl (br_no rfl (br_yes rfl (br_yes d2 ⟨trivial, hk⟩)))))
    · exact br_yes rfl (br_yes rfl (br_yes rfl (br_no rfl (br_no rfl (br_no rfl ⟨trivial, hk⟩)))))
end Go.Abs.Ship
end

section
/- Plain laws: the first stow is the first of all that are good. -/
set_option linter.unusedVariables false
namespace Go.Abs.Ship

theorem good_spec {bs : List (Int × Int)} {st fl : Int} {s : List Int} : goodB bs st fl s = true ↔ (∀ k : Nat, k < st.toNat → wAt bs s (k : Int) ≤ fl) ∧ smoothB bs s = true := by
  rw [goodB_eq, Bool.and_eq_true, List.all_eq_true]
  unfold weights
  simp only [List.mem_map, List.mem_range, decide_eq_true_eq, forall_exists_index, and_imp, forall_apply_eq_imp_iff₂]

theorem wFrom_append (bs : List (Int × Int)) (k : Int) : ∀ (s t : List Int) (i : Nat), wFrom bs i (s ++ t) k = wFrom bs i s k + wFrom bs (i + s.length) t k
  | [], t, i => by simp [wFrom]
  | x :: s, t, i => by
    simp only [List.cons_append, wFrom, List.length_cons]
    rw [wFrom_append bs k s t (i + 1), show i + 1 + s.length = i + (s.length + 1) by omega]
    omega
theorem wAt_prefix {bs : List (Int × Int)} (h : anyBad bs = false) (s t : List Int) (k : Int) : wAt bs s k ≤ wAt bs (s ++ t) k := by
  unfold wAt
  rw [wFrom_append]
  have := (wFrom_spec h k t (0 + s.length)).1
  omega
theorem smooth_prefix {bs : List (Int × Int)} {s t : List Int} (h : smoothB bs (s ++ t) = true) : smoothB bs s = true := by
  rw [smoothB_iff] at h ⊢
  intro i hi k hk he
  have := h i (by simp; omega) k hk (by
    rw [getD_at (by simp; omega), getD_at (by simp; omega), List.getElem_append_left (by omega), List.getElem_append_left hi]
    rw [getD_at (by omega), getD_at hi] at he; exact he)
  exact this
theorem good_prefix {bs : List (Int × Int)} {st fl : Int} (hg : anyBad bs = false) {s t : List Int} (h : goodB bs st fl (s ++ t) = true) : goodB bs st fl s = true := by
  obtain ⟨h1, h2⟩ := good_spec.1 h
  exact good_spec.2 ⟨fun k hk => Int.le_trans (wAt_prefix hg s t k) (h1 k hk), smooth_prefix h2⟩

/-- Two stacks in each other's place. -/
def swp2 (a b x : Int) : Int := if x = a then b else if x = b then a else x
theorem swp2_inv (a b x : Int) : swp2 a b (swp2 a b x) = x := by unfold swp2; split <;> split <;> (try split) <;> omega
theorem swp2_inj {a b x y : Int} (h : swp2 a b x = swp2 a b y) : x = y := by rw [← swp2_inv a b x, h, swp2_inv]
theorem wFrom_map (bs : List (Int × Int)) (a b k : Int) : ∀ (s : List Int) (i : Nat), wFrom bs i (s.map (swp2 a b)) k = wFrom bs i s (swp2 a b k)
  | [], i => rfl
  | x :: s, i => by
    simp only [List.map_cons, wFrom, wFrom_map bs a b k s (i + 1)]
    by_cases h : x = swp2 a b k
    · rw [if_pos h, if_pos (by rw [h, swp2_inv])]
    · rw [if_neg h, if_neg (fun e => h (by rw [← e, swp2_inv]))]
theorem good_map {bs : List (Int × Int)} {st fl : Int} {a b : Nat} (ha : (a : Int) < st) (hb : (b : Int) < st) {x : List Int} (h : goodB bs st fl x = true) : goodB bs st fl (x.map (swp2 a b)) = true := by
  obtain ⟨h1, h2⟩ := good_spec.1 h
  refine good_spec.2 ⟨fun k hk => ?_, ?_⟩
  · unfold wAt
    rw [wFrom_map]
    have : ∃ m : Nat, swp2 a b (k : Int) = (m : Int) ∧ m < st.toNat := by
      unfold swp2
      split
      · exact ⟨b, rfl, by omega⟩
      · split
        · exact ⟨a, rfl, by omega⟩
        · exact ⟨k, rfl, hk⟩
    obtain ⟨m, e, hm⟩ := this
    rw [e]
    exact h1 m hm
  · rw [smoothB_iff] at h2 ⊢
    intro i hi k hk he
    rw [List.length_map] at hi
    refine h2 i hi k hk ?_
    rw [getD_at (by simp; omega), getD_at (by simpa using hi), List.getElem_map, List.getElem_map] at he
    rw [getD_at (by omega), getD_at hi]
    exact swp2_inj he

theorem wAt_mem {bs : List (Int × Int)} (hg : anyBad bs = false) {s : List Int} (hl : s.length ≤ bs.length) {k : Int} (h : wAt bs s k = 0) : k ∉ s := by
  intro hm
  obtain ⟨i, hi, e⟩ := List.getElem_of_mem hm
  have := wAt_pos hg hi (by omega)
  rw [e] at this
  omega

theorem earlier_pre : ∀ (p a b : List Int), earlier (p ++ a) (p ++ b) = earlier a b
  | [], a, b => rfl
  | x :: p, a, b => by simp only [List.cons_append, earlier, if_true]; exact earlier_pre p a b
theorem earlier_head (p : List Int) (x y : Int) (a b : List Int) (h : x ≠ y) : earlier (p ++ x :: a) (p ++ y :: b) = decide (x < y) := by
  rw [earlier_pre]; simp [earlier, h]

/-- The first candidate with which it goes on, if it goes on with one. -/
theorem find_first {α : Type} (f : Nat → Option α) : ∀ (l : List Nat) (k : Nat), l.Pairwise (· < ·) → k ∈ l → (f k).isSome = true → ∃ k' y, k' ∈ l ∧ k' ≤ k ∧ f k' = some y ∧ l.findSome? f = some y
  | [], k, _, hk, _ => by cases hk
  | a :: l, k, hp, hk, hs => by
    obtain ⟨h1, h2⟩ := List.pairwise_cons.1 hp
    cases ha : f a with
    | some y =>
      refine ⟨a, y, List.mem_cons_self .., ?_, ha, by simp [ha]⟩
      rcases List.mem_cons.1 hk with rfl | hk
      · exact Nat.le_refl _
      · exact Nat.le_of_lt (h1 k hk)
    | none =>
      rcases List.mem_cons.1 hk with rfl | hk
      · rw [ha] at hs; cases hs
      · obtain ⟨k', y, g1, g2, g3, g4⟩ := find_first f l k h2 hk hs
        exact ⟨k', y, List.mem_cons_of_mem _ g1, g2, g3, by simp [ha, g4]⟩

theorem cands_sorted (bs : List (Int × Int)) (st : Int) (s : List Int) : (cands bs st s).Pairwise (· < ·) := (List.pairwise_lt_range).filter _

/-- If there is a good stow, one is found; and no good one is before it. -/
theorem goF_first {bs : List (Int × Int)} {st fl : Int} (hg : anyBad bs = false) : ∀ (f : Nat) (s t : List Int), bs.length < f + s.length → (s ++ t).length = bs.length → goodB bs st fl (s ++ t) = true → allIn st t →
    ∃ y, goF bs st fl f s = some y ∧ earlier (s ++ t) y = false
  | 0, s, t, h1, h2, _, _ => by simp at h2; omega
  | f + 1, s, [], h1, h2, h3, _ => by
    rw [List.append_nil] at h2 h3
    refine ⟨s, ?_, ?_⟩
    · unfold goF; rw [if_neg (by simp [h3]), if_pos h2]
    · rw [List.append_nil]
      have : ∀ l : List Int, earlier l l = false := by
        intro l; induction l with
        | nil => rfl
        | cons a l ih => simp [earlier, ih]
      exact this s
  | f + 1, s, k0 :: t, h1, h2, h3, h4 => by
    simp only [List.length_append, List.length_cons] at h2
    obtain ⟨k1, k2⟩ := h4 k0 (List.mem_cons_self ..)
    obtain ⟨k, rfl⟩ := Int.eq_ofNat_of_zero_le k1
    have hgs := good_prefix hg h3
    have hun : goF bs st fl (f + 1) s = (cands bs st s).findSome? (fun k : Nat => goF bs st fl f (s ++ [(k : Int)])) := by
      rw [goF, if_neg (by simp [hgs]), if_neg (by omega)]
    rw [hun]
    -- whatever begins with an earlier stack comes before
    have fin : ∀ (j : Nat) (t' : List Int), j ≤ k → j ∈ cands bs st s → (s ++ [(j : Int)] ++ t').length = bs.length → goodB bs st fl (s ++ [(j : Int)] ++ t') = true → allIn st t' → (j = k → t' = t) →
        ∃ y, (cands bs st s).findSome? (fun k : Nat => goF bs st fl f (s ++ [(k : Int)])) = some y ∧ earlier (s ++ (k : Int) :: t) y = false := by
      intro j t' hjk hc hl hgd ha he
      obtain ⟨y, y1, y2⟩ := goF_first hg f (s ++ [(j : Int)]) t' (by simp; omega) hl hgd ha
      obtain ⟨k', y', g1, g2, g3, g4⟩ := find_first (fun k : Nat => goF bs st fl f (s ++ [(k : Int)])) _ j (cands_sorted bs st s) hc (by rw [y1]; rfl)
      refine ⟨y', g4, ?_⟩
      obtain ⟨_, _, t2, e2, _⟩ := goF_spec bs st fl f _ _ g3
      rcases Nat.lt_or_ge k' k with h | h
      · rw [e2, List.append_assoc, List.singleton_append, earlier_head _ _ _ _ _ (by omega), decide_eq_false_iff_not]
        omega
      · obtain rfl : k' = k := by omega
        obtain rfl : j = k' := by omega
        have g3 : goF bs st fl f (s ++ [(j : Int)]) = some y' := g3
        rw [y1] at g3
        cases g3
        rw [he rfl] at y2
        simpa using y2
    have ht : allIn st t := fun j hj => h4 j (List.mem_cons_of_mem _ hj)
    by_cases hc : k ∈ cands bs st s
    · exact fin k t (Nat.le_refl _) hc (by simp; omega) (by simpa using h3) ht (fun _ => rfl)
    -- another empty stack comes first
    have hk : k < st.toNat := by omega
    have hw : wAt bs s (k : Int) = 0 ∧ firstEmpty bs s k = false := by
      have := mt (fun h => List.mem_filter.2 ⟨List.mem_range.2 hk, h⟩) hc
      simp only [Bool.or_eq_true, decide_eq_true_eq, not_or, ne_eq, Decidable.not_not, Bool.not_eq_true] at this
      exact this
    obtain ⟨hw, hfe⟩ := hw
    have : ∃ j : Nat, j < k ∧ wAt bs s (j : Int) = 0 ∧ ∀ i, i < j → wAt bs s (i : Int) ≠ 0 := by
      have hex : ∃ j : Nat, j < k ∧ wAt bs s (j : Int) = 0 := by
        unfold firstEmpty at hfe
        rw [List.all_eq_false] at hfe
        obtain ⟨j, hj, h5⟩ := hfe
        refine ⟨j, List.mem_range.1 hj, by simpa using h5⟩
      have key : ∀ n : Nat, ∀ j : Nat, j < n → j < k → wAt bs s (j : Int) = 0 → ∃ j : Nat, j < k ∧ wAt bs s (j : Int) = 0 ∧ ∀ i, i < j → wAt bs s (i : Int) ≠ 0 := by
        intro n
        induction n with
        | zero => intro j hj; omega
        | succ n ih =>
          intro j hj hjk h0
          by_cases h6 : ∃ i, i < j ∧ wAt bs s (i : Nat) = 0
          · obtain ⟨i, hi, h7⟩ := h6
            exact ih i (by omega) (by omega) h7
          · exact ⟨j, hjk, h0, fun i hi h7 => h6 ⟨i, hi, h7⟩⟩
      obtain ⟨j, hj, h0⟩ := hex
      exact key (j + 1) j (Nat.lt_succ_self _) hj h0
    obtain ⟨j, hjk, hj0, hjf⟩ := this
    have hjc : j ∈ cands bs st s := by
      refine List.mem_filter.2 ⟨List.mem_range.2 (by omega), ?_⟩
      rw [Bool.or_eq_true]
      right
      unfold firstEmpty
      rw [List.all_eq_true]
      intro i hi
      simpa using hjf i (List.mem_range.1 hi)
    have hnj := wAt_mem hg (show s.length ≤ bs.length by omega) hj0
    have hnk := wAt_mem hg (show s.length ≤ bs.length by omega) hw
    have hsm : s.map (swp2 (j : Int) (k : Int)) = s := by
      conv => rhs; rw [← List.map_id s]
      refine List.map_congr_left (fun x hx => ?_)
      unfold swp2
      rw [if_neg (fun e => hnj (by rw [← e]; exact hx)), if_neg (fun e => hnk (by rw [← e]; exact hx))]; rfl
    have hsk : swp2 (j : Int) (k : Int) (k : Int) = (j : Int) := by unfold swp2; rw [if_neg (by omega), if_pos rfl]
    have hgm := good_map (a := j) (b := k) (show (j : Int) < st by omega) (show (k : Int) < st by omega) h3
    rw [List.map_append, List.map_cons, hsm, hsk] at hgm
    refine fin j (t.map (swp2 (j : Int) (k : Int))) (by omega) hjc (by simp; omega) (by simpa using hgm) (fun x hx => ?_) (fun e => by omega)
    obtain ⟨z, hz, rfl⟩ := List.mem_map.1 hx
    obtain ⟨z0, z1⟩ := ht z hz
    unfold swp2
    split
    · omega
    · split <;> omega

theorem goOn_first {bs : List (Int × Int)} {st fl : Int} (hg : anyBad bs = false) {s t : List Int} (h2 : (s ++ t).length = bs.length) (h3 : goodB bs st fl (s ++ t) = true) (h4 : allIn st t) :
    ∃ y, goOn bs st fl s = some y ∧ earlier (s ++ t) y = false := goF_first hg _ s t (by simp at h2; omega) h2 h3 h4
theorem goOn_any {bs : List (Int × Int)} {st fl : Int} (hg : anyBad bs = false) {x : List Int} (h2 : x.length = bs.length) (h3 : goodB bs st fl x = true) (h4 : allIn st x) :
    goB bs st fl [] = true ∧ earlier x (goL bs st fl []) = false := by
  obtain ⟨y, h5, h6⟩ := goOn_first hg (s := []) (t := x) h2 h3 h4
  obtain ⟨e1, e2⟩ := go_some h5
  exact ⟨e2, by rw [e1]; exact h6⟩
end Go.Abs.Ship
end

section
/- The ship's statements: the first stow. -/
open Go.Proofs
set_option maxRecDepth 100000
set_option linter.unusedVariables false
namespace Go.Abs.Ship

theorem stowE_eq {bs : List (Int × Int)} {st fl : Int} (hf : Fine bs st fl) : stowE bs st fl = if goB bs st fl [] then 0 else 23 := by
  have hf' : checkLoad bs st fl = 0 := hf
  unfold stowE
  rw [if_neg (by omega)]
theorem stow_ok {bs : List (Int × Int)} {st fl : Int} (hf : Fine bs st fl) (h : goB bs st fl [] = true) : stowE bs st fl = 0 ∧ stowL bs st fl = goL bs st fl [] ∧ goodB bs st fl (goL bs st fl []) = true ∧ (goL bs st fl []).length = bs.length ∧ allIn st (goL bs st fl []) := by
  have e : stowE bs st fl = 0 := by rw [stowE_eq hf, if_pos h]
  obtain ⟨g1, g2, t, g3, g4⟩ := goOn_spec (goB_some h)
  refine ⟨e, by unfold stowL; rw [if_pos e], g1, g2, ?_⟩
  rw [g3]; simpa using g4
theorem stow_no {bs : List (Int × Int)} {st fl : Int} (hf : Fine bs st fl) (h : goB bs st fl [] = false) : stowE bs st fl = 23 ∧ stowL bs st fl = [] := by
  have e : stowE bs st fl = 23 := by rw [stowE_eq hf, if_neg (by simp [h])]
  exact ⟨e, by unfold stowL; rw [if_neg (by omega)]⟩
theorem good_smooth {bs : List (Int × Int)} {st fl : Int} {s : List Int} (h : goodB bs st fl s = true) : smoothB bs s = true := (good_spec.1 h).2
theorem cs_zero {bs : List (Int × Int)} {st fl : Int} (hf : Fine bs st fl) {s : List Int} (hl : s.length = bs.length) (ha : allIn st s) (hg : goodB bs st fl s = true) : csErr bs st fl s = 0 := by
  rw [csErr_eq hf hl ha, if_pos (good_smooth hg), if_pos hg]
theorem cs_good0 {bs : List (Int × Int)} {st fl : Int} (hf : Fine bs st fl) {s : List Int} (hl : s.length = bs.length) (ha : allIn st s) (h : csErr bs st fl s = 0) : goodB bs st fl s = true := by
  rw [csErr_eq hf hl ha] at h
  split at h
  · split at h
    · assumption
    · omega
  · omega
/-- With as many stacks as the fewest, and floors that bear all, there is a good stow. -/
theorem few_good {bs : List (Int × Int)} {st fl st' : Int} (hf : Fine bs st fl) (h1 : fewestOf bs ≤ st') (h2 : 1 ≤ st') (h3 : st' ≤ 5) : goB bs st' 1000 [] = true := by
  obtain ⟨f1, f2, f3, f4, f5, f6⟩ := fine_spec hf
  have hs := few_smoothest bs
  unfold smoothest at hs
  simp only [Bool.and_eq_true, decide_eq_true_eq, Bool.not_eq_true'] at hs
  obtain ⟨g1, g2, g3, g4⟩ := hs
  have ha : allIn st' (fewS bs (allOf bs)) := fun j hj => by
    have := allIn_of g2 j hj
    omega
  exact (goOn_any f6 g1 (light f6 f1 (by omega) st' g4) ha).1

theorem bne_no {a : Int} (h : a = 0) : (a != 0) = false := by simp [h]
theorem bne_yes {a : Int} (h : a ≠ 0) : (a != 0) = true := by simp [h]

theorem k8 (hG : Good Try.prog (envOf [(40, mkC [v40]), (18, mkC [v18]), (32, mkC [v32]), (43, mkC [v43]), (19, mkC [v19]), (41, mkC [v41]), (42, mkC [v42]), (45, mkC [v45]), (20, mkC [v20]), (46, mkC [v46])])) : v8.Kept Try.prog 8 := by
  rintro ⟨bs, st, fl, bys, ⟨⟩⟩ hpre k hk
  change List (Int × Int) at bs
  change Int at st fl
  change List Int at bys
  refine aspec hmix hG Try.func8 tx8 (Eq.mpr (eq8 bs st fl bys k) ?_)
  replace hk : k (.bool true) [] := hk
  unfold vc8
  have hby : isBytes bys := hpre
  refine ⟨trivial, br_intro (fun h1 => br_intro (fun _ => ⟨trivial, hk⟩) (fun h2 => ?_)) (fun _ => ⟨trivial, hk⟩)⟩
  obtain ⟨hb, hf⟩ := not_fine h1
  obtain ⟨f1, f2, f3, f4, f5, f6⟩ := fine_spec hf
  have hlen : bys.length ≤ 20 := by simp only [decide_eq_false_iff_not] at h2; omega
  have hgl : (givenL bs st bys).length ≤ big60 := by rw [given_len]; simp only [big60]; omega
  have hga := given_in bs f2 bys
  have hgn := given_len bs st bys
  have hsl := small (Nat.le_trans (stowL_le bs st fl) hb) (by omega)
  have hb60 : bs.length ≤ big60 := by simp only [big60]; omega
  -- what is common to both ways
  have rest : br (stowE bs st fl != 0)
       (br ((stowE bs st fl == 23) == true)
        (br ((((stowL bs st fl).length : Int) == 0) == true)
         (br ((csErr bs st fl (givenL bs st bys) != 0) == true) (v18.p () ∧ k (.bool true) []) (k (.bool false) []))
         (k (.bool false) []))
        (k (.bool false) []))
       (v19.p (bs, (st, (fl, (stowL bs st fl, ())))) ∧ v20.p (bs, (st, (fl, (stowL bs st fl, ())))) ∧
       br ((csErr bs st fl (stowL bs st fl) == 0) == true)
        (br ((csErr bs st fl (stowL bs st fl) == 0) == true)
         (br ((csErr bs st fl (givenL bs st bys) != 0) == false)
          (v46.p (givenL bs st bys, (stowL bs st fl, ())) ∧
          br ((Bool.not (earlier (givenL bs st bys) (stowL bs st fl))) == true)
           (br ((decide (fewestOf bs ≤ st)) == true) (v18.p () ∧ k (.bool true) []) (k (.bool false) []))
           (k (.bool false) []))
          (br ((decide (fewestOf bs ≤ st)) == true) (v18.p () ∧ k (.bool true) []) (k (.bool false) [])))
         (k (.bool false) []))
        (k (.bool false) [])) := by
    cases hgo : goB bs st fl []
    · obtain ⟨e1, e2⟩ := stow_no hf hgo
      have hc : csErr bs st fl (givenL bs st bys) ≠ 0 := fun h => by
        have := (goOn_any f6 hgn (cs_good0 hf hgn hga h) hga).1
        rw [hgo] at this; cases this
      rw [e1, e2]
      exact br_yes rfl (br_yes rfl (br_yes rfl (br_yes (by rw [bne_yes hc]; rfl) ⟨trivial, hk⟩)))
    · obtain ⟨e1, e2, e3, e4, e5⟩ := stow_ok hf hgo
      have hc := cs_zero hf e4 e5 e3
      have hfew := fewest_st f6 (good_smooth e3) e4 (by omega) e5
      rw [e1]
      refine br_no rfl ⟨⟨hb, hsl⟩, ⟨hb, hsl⟩, ?_⟩
      rw [e2, hc]
      refine br_yes rfl (br_yes rfl (br_intro (fun h => ⟨⟨hgl, by rw [← e2]; exact hsl⟩, br_yes ?_ (br_yes (dec_yes hfew) ⟨trivial, hk⟩)⟩) (fun _ => br_yes (dec_yes hfew) ⟨trivial, hk⟩)))
      have h : csErr bs st fl (givenL bs st bys) = 0 := by simpa using h
      rw [(goOn_any f6 hgn (cs_good0 hf hgn hga h) hga).2]; rfl
  refine ⟨hb, ⟨hf, hlen, hby⟩, ⟨hb, hgl⟩, hf, br_intro (fun h5 => ?_) (fun _ => rest)⟩
  have h5 : fewestOf bs ≤ 5 := by simpa using h5
  have hst : ∃ st' : Int, (if fewestOf bs > 1 then fewestOf bs else 1) = st' ∧ fewestOf bs ≤ st' ∧ 1 ≤ st' ∧ st' ≤ 5 := by
    refine ⟨_, rfl, ?_⟩
    split <;> omega
  obtain ⟨st', e, s1, s2, s3⟩ := hst
  rw [e]
  have hf2 := fine_fl hf s2 s3 (fl' := 1000) (by omega) (by omega)
  obtain ⟨e1, e2, e3, e4, e5⟩ := stow_ok hf2 (few_good hf s1 s2 s3)
  rw [e1, e2, good_smooth e3]
  exact ⟨trivial, hb, br_yes rfl ⟨⟨Nat.le_of_eq e4, hb60⟩, br_yes rfl (br_no (by simp [e4]) rest)⟩⟩
end Go.Abs.Ship
end

section
/- Plain laws: the fewest stacks are as many as the longest rising list of ports. -/
set_option linter.unusedVariables false
namespace Go.Abs.Ship

theorem inc_le {bs : List (Int × Int)} (hg : anyBad bs = false) {L : List Int} (h1 : L.Sublist (bs.map (·.1))) (h2 : L.Pairwise (· < ·)) : (L.length : Int) ≤ fewestOf bs := by
  obtain ⟨is, e, hp⟩ := List.sublist_eq_map_getElem h1
  have hr : Ris bs (is.map (fun i => ((i.1 : Nat) : Int))) := by
    refine (ris_iff hg).2 ⟨fun x hx => ?_, ?_⟩
    · obtain ⟨i, hi, rfl⟩ := List.mem_map.1 hx
      have := Nat.lt_of_lt_of_eq i.2 (List.length_map ..)
      omega
    · rw [List.pairwise_map]
      rw [e, List.pairwise_map] at h2
      refine List.Pairwise.imp₂ (S := fun a b => (bs.map (·.1))[a] < (bs.map (·.1))[b]) (fun a b h3 h4 => ?_) hp h2
      have ha : a.1 < bs.length := Nat.lt_of_lt_of_eq a.2 (List.length_map ..)
      have hb : b.1 < bs.length := Nat.lt_of_lt_of_eq b.2 (List.length_map ..)
      rw [pt_eq ha, pt_eq hb]
      have h3 : a.1 < b.1 := h3
      refine ⟨by omega, ?_⟩
      simpa using h4
  have := fewest_le hg hr
  rw [e]
  simpa using this
theorem inc_ge {bs : List (Int × Int)} (hg : anyBad bs = false) : ∃ L : List Int, L.Sublist (bs.map (·.1)) ∧ L.Pairwise (· < ·) ∧ (L.length : Int) = fewestOf bs := by
  obtain ⟨l, h1, h2⟩ := fewest_ge hg
  obtain ⟨g1, g2⟩ := (ris_iff hg).1 h1
  have hz : (bs.map (·.1)).length = bs.length := by simp
  let is : List (Fin (bs.map (·.1)).length) := l.pmap (fun x (h : 0 ≤ x ∧ x < (bs.length : Int)) => ⟨x.toNat, by omega⟩) g1
  refine ⟨is.map (fun i => (bs.map (·.1))[i]), List.map_getElem_sublist ?_, ?_, by simp [is, h2]⟩
  · refine (List.pairwise_pmap g1).2 (g2.imp (fun {a b} h ha hb => ?_))
    show a.toNat < b.toNat
    omega
  · rw [List.pairwise_map]
    refine (List.pairwise_pmap g1).2 (g2.imp (fun {a b} h ha hb => ?_))
    have e1 : pt bs a = (bs[a.toNat]'(by omega)).1 := by rw [← pt_eq (by omega), show ((a.toNat : Nat) : Int) = a by omega]
    have e2 : pt bs b = (bs[b.toNat]'(by omega)).1 := by rw [← pt_eq (by omega), show ((b.toNat : Nat) : Int) = b by omega]
    have h := h.2
    rw [e1, e2] at h
    simpa using h
/-- What is told by longest rising lists of ports. -/
theorem fewest_eq {bs : List (Int × Int)} (hg : anyBad bs = false) {k : Int} (h1 : ∀ L : List Int, L.Sublist (bs.map (·.1)) → L.Pairwise (· < ·) → (L.length : Int) ≤ k) (h2 : ∃ L : List Int, L.Sublist (bs.map (·.1)) ∧ L.Pairwise (· < ·) ∧ (L.length : Int) = k) : fewestOf bs = k := by
  obtain ⟨L, a1, a2, a3⟩ := inc_ge hg
  obtain ⟨M, b1, b2, b3⟩ := h2
  have := h1 L a1 a2
  have := inc_le hg b1 b2
  omega

theorem bad_append {a b : List (Int × Int)} : anyBad (a ++ b) = false ↔ anyBad a = false ∧ anyBad b = false := by simp [anyBad]

/-- None of the second has a greater port than any of the first. -/
theorem fewest_max {a b : List (Int × Int)} (ha : anyBad a = false) (hb : anyBad b = false) (h : ∀ x ∈ a, ∀ y ∈ b, y.1 ≤ x.1) : fewestOf (a ++ b) = if fewestOf b > fewestOf a then fewestOf b else fewestOf a := by
  obtain ⟨A, a1, a2, a3⟩ := inc_ge ha
  obtain ⟨B, b1, b2, b3⟩ := inc_ge hb
  refine fewest_eq (bad_append.2 ⟨ha, hb⟩) (fun L h1 h2 => ?_) ?_
  · rw [List.map_append] at h1
    obtain ⟨L1, L2, rfl, s1, s2⟩ := List.sublist_append_iff.1 h1
    obtain ⟨p1, p2, p3⟩ := List.pairwise_append.1 h2
    have q1 := inc_le ha s1 p1
    have q2 := inc_le hb s2 p2
    have : L1 = [] ∨ L2 = [] := by
      cases L1 with
      | nil => exact .inl rfl
      | cons u L1 =>
        cases L2 with
        | nil => exact .inr rfl
        | cons v L2 =>
          have h3 := p3 u (List.mem_cons_self ..) v (List.mem_cons_self ..)
          obtain ⟨x, hx, e1⟩ := List.mem_map.1 (s1.subset (List.mem_cons_self ..))
          obtain ⟨y, hy, e2⟩ := List.mem_map.1 (s2.subset (List.mem_cons_self ..))
          have := h x hx y hy
          have e1 : x.1 = u := e1
          have e2 : y.1 = v := e2
          omega
    rcases this with rfl | rfl
    · simp only [List.nil_append]; split <;> omega
    · simp only [List.append_nil]; split <;> omega
  · rw [List.map_append]
    split
    · exact ⟨B, b1.trans (List.sublist_append_right _ _), b2, b3⟩
    · exact ⟨A, a1.trans (List.sublist_append_left _ _), a2, a3⟩
/-- All of the second have greater ports. -/
theorem fewest_sum {a b : List (Int × Int)} (ha : anyBad a = false) (hb : anyBad b = false) (h : ∀ x ∈ a, ∀ y ∈ b, x.1 < y.1) : fewestOf (a ++ b) = fewestOf a + fewestOf b := by
  obtain ⟨A, a1, a2, a3⟩ := inc_ge ha
  obtain ⟨B, b1, b2, b3⟩ := inc_ge hb
  refine fewest_eq (bad_append.2 ⟨ha, hb⟩) (fun L h1 h2 => ?_) ?_
  · rw [List.map_append] at h1
    obtain ⟨L1, L2, rfl, s1, s2⟩ := List.sublist_append_iff.1 h1
    obtain ⟨p1, p2, p3⟩ := List.pairwise_append.1 h2
    have q1 := inc_le ha s1 p1
    have q2 := inc_le hb s2 p2
    simp only [List.length_append]; omega
  · rw [List.map_append]
    refine ⟨A ++ B, List.Sublist.append a1 b1, List.pairwise_append.2 ⟨a2, b2, fun u hu v hv => ?_⟩, by simp only [List.length_append]; omega⟩
    obtain ⟨x, hx, e1⟩ := List.mem_map.1 (a1.subset hu)
    obtain ⟨y, hy, e2⟩ := List.mem_map.1 (b1.subset hv)
    have := h x hx y hy
    have e1 : x.1 = u := e1
    have e2 : y.1 = v := e2
    omega
/-- Ports that are all moved as far. -/
theorem fewest_shift {a : List (Int × Int)} (d : Int) (ha : anyBad a = false) (hb : anyBad (a.map (fun b => (b.1 + d, b.2))) = false) : fewestOf (a.map (fun b => (b.1 + d, b.2))) = fewestOf a := by
  have em : (a.map (fun b => (b.1 + d, b.2))).map (·.1) = (a.map (·.1)).map (· + d) := by simp [List.map_map, Function.comp_def]
  refine fewest_eq hb (fun L h1 h2 => ?_) ?_
  · rw [em] at h1
    obtain ⟨M, m1, rfl⟩ := List.sublist_map_iff.1 h1
    rw [List.pairwise_map] at h2
    have := inc_le ha m1 (h2.imp (fun h => by omega))
    simpa using this
  · obtain ⟨A, a1, a2, a3⟩ := inc_ge ha
    refine ⟨A.map (· + d), by rw [em]; exact a1.map _, by rw [List.pairwise_map]; exact a2.imp (fun h => by omega), by simpa using a3⟩

/-! ### boxes that come in the opposite order -/
def flip (b : Int × Int) : Int × Int := (21 - b.1, b.2)
def turned (bs : List (Int × Int)) : List (Int × Int) := bs.reverse.map flip
theorem turned_len (bs : List (Int × Int)) : (turned bs).length = bs.length := by simp [turned]
theorem turned_turned (bs : List (Int × Int)) : turned (turned bs) = bs := by
  unfold turned
  rw [← List.map_reverse, List.reverse_reverse, List.map_map]
  conv => rhs; rw [← List.map_id bs]
  refine List.map_congr_left (fun b _ => ?_)
  simp only [Function.comp, flip, id]
  rw [show 21 - (21 - b.1) = b.1 by omega]
theorem turned_bad {bs : List (Int × Int)} (h : anyBad bs = false) : anyBad (turned bs) = false := by
  unfold anyBad turned at *
  rw [List.any_eq_false] at h ⊢
  intro x hx
  obtain ⟨y, hy, rfl⟩ := List.mem_map.1 hx
  have := h y (List.mem_reverse.1 hy)
  simp only [badBox, decide_eq_true_eq] at this ⊢
  show ¬ (21 - y.1 < 1 ∨ 20 < 21 - y.1 ∨ y.2 < 1 ∨ 100 < y.2)
  omega
theorem fewest_turned_le {bs : List (Int × Int)} (hg : anyBad bs = false) : fewestOf bs ≤ fewestOf (turned bs) := by
  obtain ⟨A, a1, a2, a3⟩ := inc_ge hg
  have := inc_le (turned_bad hg) (L := (A.map (fun p => 21 - p)).reverse) (by
    have e : (turned bs).map (·.1) = ((bs.map (·.1)).map (fun p => 21 - p)).reverse := by
      unfold turned
      rw [List.map_map, List.map_map, List.map_reverse]; rfl
    rw [e]
    exact (a1.map _).reverse) (by
    rw [List.pairwise_reverse, List.pairwise_map]
    exact a2.imp (fun h => by omega))
  simp only [List.length_reverse, List.length_map] at this
  omega
theorem fewest_turned {bs : List (Int × Int)} (hg : anyBad bs = false) : fewestOf (turned bs) = fewestOf bs := by
  have h1 := fewest_turned_le hg
  have h2 := fewest_turned_le (turned_bad hg)
  rw [turned_turned] at h2
  omega
theorem range_rev (n : Nat) : (List.range n).reverse = (List.range n).map (fun i => n - 1 - i) := by
  apply List.ext_getElem
  · simp
  · intro i h1 h2
    simp
def turnL (n : Nat) (l : List Int) : List Int := l.reverse.map (fun x => (n : Int) - 1 - x)
theorem turnL_len (n : Nat) (l : List Int) : (turnL n l).length = l.length := by simp [turnL]
theorem turnL_list {n : Nat} {l : List Int} (h : isList l (n : Int) = true) : isList (turnL n l) (n : Int) = true := by
  rw [isList_spec] at h ⊢
  obtain ⟨h1, h2⟩ := h
  refine ⟨fun x hx => ?_, ?_⟩
  · obtain ⟨y, hy, rfl⟩ := List.mem_map.1 hx
    have := h1 y (List.mem_reverse.1 hy)
    omega
  · unfold turnL
    rw [List.pairwise_map, List.pairwise_reverse]
    exact h2.imp (fun h => by omega)
theorem others_turned (bs : List (Int × Int)) {l : List Int} (hl : isList l (bs.length : Int) = true) : others (turned bs) (turnL bs.length l) = turned (others bs l) := by
  have hh : ∀ i, i < bs.length → hasI (turnL bs.length l) (i : Int) = hasI l ((bs.length - 1 - i : Nat) : Int) := by
    intro i hi
    rw [Bool.eq_iff_iff, hasI_iff, hasI_iff]
    unfold turnL
    rw [List.mem_map]
    constructor
    · rintro ⟨y, hy, e⟩
      have : y = ((bs.length - 1 - i : Nat) : Int) := by omega
      rw [← this]; exact List.mem_reverse.1 hy
    · intro h
      exact ⟨_, List.mem_reverse.2 h, by omega⟩
  unfold others
  rw [turned_len]
  have e1 : (List.range bs.length).filter (fun i : Nat => !hasI (turnL bs.length l) (i : Int)) = (List.range bs.length).filter ((fun i : Nat => !hasI l (i : Int)) ∘ (fun i => bs.length - 1 - i)) := by
    refine List.filter_congr (fun i hi => ?_)
    have hi := List.mem_range.1 hi
    simp only [Function.comp, hh i hi]
  rw [e1]
  unfold turned
  rw [← List.map_reverse, ← List.filter_reverse, range_rev, List.filter_map, List.map_map, List.map_map]
  refine List.map_congr_left (fun i hi => ?_)
  have hi := List.mem_range.1 (List.mem_filter.1 hi).1
  simp only [Function.comp]
  rw [getD_at (by simp; omega), getD_at (by omega), List.getElem_map, List.getElem_reverse]
theorem others_bad {bs : List (Int × Int)} (h : anyBad bs = false) (l : List Int) : anyBad (others bs l) = false := by
  rw [← Bool.not_eq_true] at h ⊢
  intro hh
  obtain ⟨y, hy, hb⟩ := List.any_eq_true.1 hh
  unfold others at hy
  obtain ⟨i, hi, rfl⟩ := List.mem_map.1 hy
  have hi := List.mem_range.1 (List.mem_filter.1 hi).1
  refine h (List.any_eq_true.2 ⟨_, ?_, hb⟩)
  rw [getD_at hi]; exact List.getElem_mem hi
theorem betL_false {a b : List Int} (h : betL a b = false) : b.length ≤ a.length := by
  unfold betL at h
  simp only [Bool.or_eq_false_iff, decide_eq_false_iff_not] at h
  omega
theorem left_turned_le {bs : List (Int × Int)} (hg : anyBad bs = false) {st : Int} (h0 : 0 ≤ st) : (leftOf (turned bs) st).length ≤ (leftOf bs st).length := by
  obtain ⟨h1, h2⟩ := leftOf_spec bs h0
  obtain ⟨g1, g2⟩ := leftOf_spec (turned bs) h0
  have := betL_false (g2 (turnL bs.length (leftOf bs st)) ⟨by rw [turned_len]; exact turnL_list h1.list, by
    have := h1.good
    rw [leftGood, decide_eq_true_eq] at this ⊢
    rw [others_turned bs h1.list, fewest_turned (others_bad hg _)]
    exact this⟩)
  rw [turnL_len] at this
  exact this
theorem left_turned {bs : List (Int × Int)} (hg : anyBad bs = false) {st : Int} (h0 : 0 ≤ st) : (leftOf bs st).length = (leftOf (turned bs) st).length := by
  have h1 := left_turned_le hg h0
  have h2 := left_turned_le (turned_bad hg) h0
  rw [turned_turned] at h2
  omega
end Go.Abs.Ship
end

section
/- The ship's statements: boxes that are left. -/
open Go.Proofs
set_option maxRecDepth 100000
set_option linter.unusedVariables false
namespace Go.Abs.Ship

theorem others_nil (bs : List (Int × Int)) : others bs [] = bs := by
  unfold others
  have : (List.range bs.length).filter (fun i : Nat => !hasI [] (i : Int)) = List.range bs.length := List.filter_eq_self.2 (fun _ _ => rfl)
  rw [this]
  exact map_range_getD bs
theorem others_len (bs : List (Int × Int)) (l : List Int) : (others bs l).length ≤ bs.length := by
  unfold others
  rw [List.length_map]
  exact Nat.le_trans (List.length_filter_le _ _) (by simp)
theorem fine_of {bs bs' : List (Int × Int)} {st fl : Int} (hf : Fine bs st fl) (hl : bs'.length ≤ 9) (hb : anyBad bs' = false) : Fine bs' st fl := by
  obtain ⟨f1, f2, f3, f4, f5, f6⟩ := fine_spec hf
  show checkLoad bs' st fl = 0
  unfold checkLoad
  rw [if_neg (by omega), if_neg (by rw [hb]; simp; omega)]
theorem fine_others {bs : List (Int × Int)} {st fl : Int} (hf : Fine bs st fl) (l : List Int) : Fine (others bs l) st fl := by
  obtain ⟨f1, f2, f3, f4, f5, f6⟩ := fine_spec hf
  exact fine_of hf (Nat.le_trans (others_len bs l) f1) (others_bad f6 l)
theorem left_nil {bs : List (Int × Int)} {st : Int} (h0 : 0 ≤ st) : ((leftOf bs st).length = 0) ↔ fewestOf bs ≤ st := by
  obtain ⟨h1, h2⟩ := leftOf_spec bs h0
  constructor
  · intro h
    have e := List.eq_nil_of_length_eq_zero h
    have := h1.good
    rw [e, leftGood, others_nil, decide_eq_true_eq] at this
    exact this
  · intro h
    have := betL_false (h2 [] ⟨rfl, by rw [leftGood, others_nil, decide_eq_true_eq]; exact h⟩)
    simpa using this

/-- A list without the number at one place. -/
theorem drop_list {x : List Int} {n : Int} (h : isList x n = true) (i : Nat) : isList (x.eraseIdx i) n = true := by
  rw [isList_spec] at h ⊢
  obtain ⟨h1, h2⟩ := h
  have hs := List.eraseIdx_sublist x i
  exact ⟨fun y hy => h1 y (hs.subset hy), h2.sublist hs⟩
theorem erase_take {x : List Int} {i k : Nat} (hk : k < x.length) : (x.take (k + 1)).eraseIdx i = (x.take k).eraseIdx i ++ (if k = i then [] else [x[k]]) := by
  have hl : (x.take k).length = k := by simp; omega
  rw [List.take_succ_eq_append_getElem hk]
  rcases Nat.lt_or_ge i k with h | h
  · rw [List.eraseIdx_append_of_lt_length (by omega), if_neg (by omega)]
  · rw [List.eraseIdx_append_of_length_le (by omega), List.eraseIdx_of_length_le (by omega : (x.take k).length ≤ i), hl]
    by_cases e : k = i
    · subst e; simp
    · rw [if_neg e, List.eraseIdx_of_length_le (by simp; omega)]

theorem k10 (hG : Good Try.prog (envOf [(40, mkC [v40]), (18, mkC [v18]), (41, mkC [v41]), (36, mkC [v36]), (47, mkC [v47]), (48, mkC [v48]), (42, mkC [v42]), (44, mkC [v44])])) : v10.Kept Try.prog 10 := by
  rintro ⟨bs, st, fl, bits, which, ⟨⟩⟩ hpre k hk
  change List (Int × Int) at bs
  change Int at st fl
  change Int at bits which
  refine aspec hmix hG Try.func10 tx10 (Eq.mpr (eq10 bs st fl bits which k) ?_)
  replace hk : k (.bool true) [] := hk
  unfold vc10
  obtain ⟨hbits, hwh⟩ := hpre
  have hbits : isHalf bits := hbits
  have hwh : isByte which := hwh
  refine ⟨trivial, br_intro (fun _ => ⟨trivial, hk⟩) (fun h1 => ?_)⟩
  obtain ⟨hb, hf⟩ := not_fine (bs := bs) (st := st) (fl := fl) (by rw [h1]; rfl)
  obtain ⟨f1, f2, f3, f4, f5, f6⟩ := fine_spec hf
  have hf0 : checkLoad bs st fl = 0 := hf
  have hleft : leftL bs st fl = leftOf bs st := by unfold leftL; rw [if_neg (by omega)]
  obtain ⟨hl1, hl2⟩ := leftOf_spec bs (show 0 ≤ st by omega)
  have hll := isList_len hl1.list
  have hg : fewestOf (others bs (leftOf bs st)) ≤ st := by have := hl1.good; rw [leftGood, decide_eq_true_eq] at this; exact this
  have hb60 : bs.length ≤ big60 := by simp only [big60]; omega
  have hlb : (leftOf bs st).length ≤ big60 := by simp only [big60]; omega
  have hlist := listed_len bits.toNat bs.length
  have hlist60 : (listed bits.toNat bs.length).length ≤ big60 := by simp only [big60]; omega
  rw [hleft, hf0]
  simp only [Int.toNat_natCast]
  refine ⟨hf, hb, br_yes rfl ⟨hlb, br_yes (by rw [hl1.list]; rfl) (br_no ?_ ⟨⟨by show bs.length ≤ 1000; omega, hlb⟩, trivial, fine_others hf _, br_no (by simp; omega) ?_⟩)⟩⟩
  · have := left_nil (bs := bs) (st := st) (by omega)
    by_cases h : fewestOf bs ≤ st
    · have e := this.2 h; simp [h, e]
    · have e := mt this.1 h; simp [h]; intro e2; exact e (by simp [e2])
  refine ⟨fits64 (by have := hbits.2; have := hbits.1; omega) (by have := hbits.2; omega), ⟨⟨hbits.1, by show bits < _; have := hbits.2; omega⟩, by show (0 : Int) ≤ (bs.length : Int); omega, by show (bs.length : Int) ≤ 40; omega⟩, ⟨by show bs.length ≤ 1000; omega, hlist60⟩, trivial, fine_others hf _, ?_⟩
  refine br_intro (fun h5 => br_no ?_ ?_) (fun _ => ?_)
  · have h5 : fewestOf (others bs (listed bits.toNat bs.length)) ≤ st := by simpa using h5
    have := betL_false (hl2 _ ⟨listed_isList _ _, by rw [leftGood, decide_eq_true_eq]; exact h5⟩)
    simp; omega
  all_goals
    refine br_intro (fun _ => ⟨trivial, hk⟩) (fun h6 => ⟨fits64 (by have := hwh.2; have := hwh.1; omega) (by have := hwh.2; omega), ?_⟩)
    have hpos : 0 < (leftOf bs st).length := by
      rcases Nat.eq_zero_or_pos (leftOf bs st).length with h | h
      · rw [h] at h6; simp at h6
      · exact h
    refine ⟨⟨hwh.1, by omega⟩, ?_⟩
    have hi0 := Int.emod_nonneg which (show (((leftOf bs st).length : Nat) : Int) ≠ 0 by omega)
    have hi1 := Int.emod_lt_of_pos which (show 0 < (((leftOf bs st).length : Nat) : Int) by omega)
    have ei : (which % (((leftOf bs st).length : Nat) : Int)) = (((which % (((leftOf bs st).length : Nat) : Int)).toNat : Nat) : Int) := by omega
    rw [ei]
    generalize (which % (((leftOf bs st).length : Nat) : Int)).toNat = i at ei
    have hil : i < (leftOf bs st).length := by omega
    clear ei hi0 hi1
    generalize leftOf bs st = x at *
    refine Loop.upto (fun k => (x, (i : Int), (k : Int), bs, st, fl, (x.take k).eraseIdx i, ())) (fun k => True) x.length rfl trivial ?_ ?_
    · intro q K hq _ hK
      dsimp only
      rw [br_decide]
      refine ⟨fun _ => ?_, fun h => absurd hq (by omega)⟩
      have hK := hK trivial
      rw [erase_take hq] at hK
      have hel : ((x.take q).eraseIdx i).length ≤ q := by
        have := List.length_eraseIdx_le (x.take q) i
        have h3 : (x.take q).length ≤ q := by simp; omega
        omega
      rw [br_bne]
      simp only [Int.toNat_natCast]
      refine ⟨fun h7 => ⟨⟨by omega, by omega⟩, by simp only [List.length_singleton, big]; omega, fits64 (by omega) (by omega), ?_⟩, fun h7 => ⟨fits64 (by omega) (by omega), ?_⟩⟩
      · rw [if_neg (by omega)] at hK; exact hK
      · rw [if_pos (by omega), List.append_nil] at hK; exact hK
    · intro K _
      dsimp only
      rw [br_decide]
      refine ⟨fun h => absurd h (by omega), fun _ => ?_⟩
      rw [List.take_of_length_le (Nat.le_refl _)]
      have hel : (x.eraseIdx i).length = x.length - 1 := List.length_eraseIdx_of_lt hil
      refine ⟨⟨by show bs.length ≤ 1000; omega, by show (x.eraseIdx i).length ≤ big60; simp only [big60]; omega⟩, trivial, fine_others hf _, br_yes (dec_yes ?_) ⟨trivial, hk⟩⟩
      have h8 := mt (fun h => betL_false (hl2 (x.eraseIdx i) ⟨drop_list hl1.list i, by rw [leftGood, decide_eq_true_eq]; exact h⟩)) (by omega)
      show st < fewestOf (others bs (x.eraseIdx i))
      omega
end Go.Abs.Ship
end

section
/- The ship's statements: boxes that come in the opposite order. -/
open Go.Proofs
set_option maxRecDepth 100000
set_option linter.unusedVariables false
namespace Go.Abs.Ship

theorem fine_turned {bs : List (Int × Int)} {st fl : Int} (hf : Fine bs st fl) : Fine (turned bs) st fl := by
  obtain ⟨f1, f2, f3, f4, f5, f6⟩ := fine_spec hf
  exact fine_of hf (by rw [turned_len]; exact f1) (turned_bad f6)
theorem leftL_eq {bs : List (Int × Int)} {st fl : Int} (hf : Fine bs st fl) : leftL bs st fl = leftOf bs st := by
  have hf0 : checkLoad bs st fl = 0 := hf
  unfold leftL; rw [if_neg (by omega)]
theorem turned_take {bs : List (Int × Int)} {t i : Nat} (h : i + t + 1 = bs.length) : (turned bs).take (t + 1) = (turned bs).take t ++ [((21 : Int) - (bs[i]'(by omega)).1, (bs[i]'(by omega)).2)] := by
  rw [List.take_succ_eq_append_getElem (by rw [turned_len]; omega)]
  congr 2
  unfold turned
  rw [List.getElem_map, List.getElem_reverse]
  have e : bs.length - 1 - t = i := by omega
  simp only [e]; rfl

theorem k12 (hG : Good Try.prog (envOf [(40, mkC [v40]), (18, mkC [v18]), (42, mkC [v42]), (41, mkC [v41]), (36, mkC [v36])])) : v12.Kept Try.prog 12 := by
  rintro ⟨bs, st, fl, ⟨⟩⟩ hpre k hk
  change List (Int × Int) at bs
  change Int at st fl
  refine aspec hmix hG Try.func12 tx12 (Eq.mpr (eq12 bs st fl k) ?_)
  replace hk : k (.bool true) [] := hk
  unfold vc12
  refine ⟨trivial, br_intro (fun _ => ⟨trivial, hk⟩) (fun h1 => ?_)⟩
  obtain ⟨hb, hf⟩ := not_fine (bs := bs) (st := st) (fl := fl) (by rw [h1]; rfl)
  obtain ⟨f1, f2, f3, f4, f5, f6⟩ := fine_spec hf
  refine ⟨fits64 (by omega) (by omega), ?_⟩
  refine Loop.upto (fun t => (((bs.length : Nat) : Int) - 1 - (t : Int), bs, st, fl, (turned bs).take t, ())) (fun t => True) bs.length ?_ trivial ?_ ?_
  · show (((bs.length : Nat) : Int) - 1 - ((0 : Nat) : Int), bs, st, fl, (turned bs).take 0, ()) = _
    simp
  · intro t K ht _ hK
    dsimp only
    rw [br_decide]
    refine ⟨fun _ => ?_, fun h => absurd ht (by omega)⟩
    have hK := hK trivial
    obtain ⟨i, hi⟩ : ∃ i, i + t + 1 = bs.length := ⟨bs.length - 1 - t, by omega⟩
    have his : i < bs.length := by omega
    have ei : ((bs.length : Nat) : Int) - 1 - (t : Int) = (i : Int) := by omega
    have ei2 : ((bs.length : Nat) : Int) - 1 - ((t + 1 : Nat) : Int) = (i : Int) - 1 := by omega
    rw [ei2, turned_take hi] at hK
    rw [ei]
    have hlt : ((turned bs).take t).length ≤ t := by simp; omega
    have hbx := box_spec f6 his
    simp only [Int.toNat_natCast]
    exact ⟨⟨by omega, by omega⟩, fits64 (by omega) (by omega), ⟨by omega, by omega⟩, by simp only [List.length_singleton, big]; omega, fits64 (by omega) (by omega), hK⟩
  · intro K _
    dsimp only
    rw [br_decide]
    refine ⟨fun h => absurd h (by omega), fun _ => ?_⟩
    rw [List.take_of_length_le (by rw [turned_len]; exact Nat.le_refl _)]
    have hft := fine_turned hf
    have e1 : checkLoad bs st fl = 0 := hf
    have e2 : checkLoad (turned bs) st fl = 0 := hft
    rw [leftL_eq hf, leftL_eq hft, fewest_turned f6, e1, e2, left_turned f6 (show 0 ≤ st by omega)]
    exact ⟨trivial, hf, hft, hb, by show (turned bs).length ≤ 16; rw [turned_len]; exact hb, br_yes (eqbt _) (br_yes rfl (br_yes rfl (br_yes (eqbt _) ⟨trivial, hk⟩)))⟩
end Go.Abs.Ship
end

section
/- The ship's statements: one more box, more stacks, a greater floor. -/
open Go.Proofs
set_option maxRecDepth 100000
set_option linter.unusedVariables false
namespace Go.Abs.Ship

theorem fewest_one (bs : List (Int × Int)) (b : Int × Int) : fewestOf bs ≤ fewestOf (bs ++ [b]) ∧ fewestOf (bs ++ [b]) ≤ fewestOf bs + 1 := by
  unfold fewestOf ports
  rw [List.map_append, List.foldl_append]
  generalize (bs.map (·.1)).foldl portStep [] = T
  simp only [List.map_cons, List.map_nil, List.foldl_cons, List.foldl_nil]
  unfold portStep
  split
  · simp; omega
  · simp; omega
theorem good_more {bs : List (Int × Int)} {st fl st' fl' : Int} (h0 : 0 ≤ fl) (hfl : fl ≤ fl') {x : List Int} (ha : allIn st x) (h : goodB bs st fl x = true) : goodB bs st' fl' x = true := by
  obtain ⟨h1, h2⟩ := good_spec.1 h
  refine good_spec.2 ⟨fun k _ => ?_, h2⟩
  rcases Nat.lt_or_ge k st.toNat with hk | hk
  · exact Int.le_trans (h1 k hk) hfl
  · have : wAt bs x (k : Int) = 0 := wFrom_none x 0 (fun y hy e => by have := ha y hy; omega)
    omega
theorem all_more {st st' : Int} (h : st ≤ st') {x : List Int} (ha : allIn st x) : allIn st' x := fun j hj => ⟨(ha j hj).1, Int.lt_of_lt_of_le (ha j hj).2 h⟩
theorem left_more {bs : List (Int × Int)} {st st' : Int} (h0 : 0 ≤ st) (h : st ≤ st') : (leftOf bs st').length ≤ (leftOf bs st).length := by
  obtain ⟨h1, h2⟩ := leftOf_spec bs h0
  obtain ⟨g1, g2⟩ := leftOf_spec bs (Int.le_trans h0 h)
  refine betL_false (g2 _ ⟨h1.list, ?_⟩)
  have := h1.good
  rw [leftGood, decide_eq_true_eq] at this ⊢
  omega

theorem k13 (hG : Good Try.prog (envOf [(40, mkC [v40]), (18, mkC [v18]), (41, mkC [v41]), (42, mkC [v42]), (32, mkC [v32]), (36, mkC [v36]), (43, mkC [v43]), (19, mkC [v19])])) : v13.Kept Try.prog 13 := by
  rintro ⟨bs, st, fl, bp, bw, more, floor, bys, ⟨⟩⟩ hpre k hk
  change List (Int × Int) at bs
  change Int at st fl
  change Int at bp bw more floor
  change List Int at bys
  refine aspec hmix hG Try.func13 tx13 (Eq.mpr (eq13 bs st fl bp bw more floor bys k) ?_)
  replace hk : k (.bool true) [] := hk
  unfold vc13
  obtain ⟨hmore, hfloor, hby⟩ := hpre
  have hmore : isByte more := hmore
  have hfloor : isHalf floor := hfloor
  have hby : isBytes bys := hby
  refine ⟨trivial, br_intro (fun h1 => br_intro (fun _ => ⟨trivial, hk⟩) (fun h2 => ?_)) (fun _ => ⟨trivial, hk⟩)⟩
  obtain ⟨hb, hf⟩ := not_fine h1
  obtain ⟨f1, f2, f3, f4, f5, f6⟩ := fine_spec hf
  have hlen : bys.length ≤ 20 := by simp only [decide_eq_false_iff_not] at h2; omega
  have hgl : (givenL bs st bys).length ≤ big60 := by rw [given_len]; simp only [big60]; omega
  have hga := given_in bs f2 bys
  have hgn := given_len bs st bys
  have hm3 : 0 ≤ more % 3 ∧ more % 3 < 3 := ⟨Int.emod_nonneg _ (by omega), Int.emod_lt_of_pos _ (by omega)⟩
  have hfl0 := hfloor.1
  have hfl1 := hfloor.2
  have hmo0 := hmore.1
  have hst : ∃ st' : Int, (if st + more % 3 < 5 then st + more % 3 else 5) = st' ∧ st ≤ st' ∧ st' ≤ 5 := by
    refine ⟨_, rfl, ?_⟩
    split <;> omega
  obtain ⟨st', est, s1, s2⟩ := hst
  have hfl : ∃ fl' : Int, (if fl + floor < 1000 then fl + floor else 1000) = fl' ∧ fl ≤ fl' ∧ fl' ≤ 1000 := by
    refine ⟨_, rfl, ?_⟩
    split <;> omega
  obtain ⟨fl', efl, t1, t2⟩ := hfl
  have hf2 : Fine bs st' fl' := fine_fl hf (by omega) s2 (by omega) t2
  rw [est, efl, List.nil_append]
  have c1 : (checkLoad bs st fl == 0) = true := by rw [show checkLoad bs st fl = 0 from hf]; rfl
  have c2 : (checkLoad bs st' fl' == 0) = true := by rw [show checkLoad bs st' fl' = 0 from hf2]; rfl
  have d1 : ((((leftL bs st' fl').length : Nat) : Int) ≤ (((leftL bs st fl).length : Nat) : Int)) := by
    rw [leftL_eq hf, leftL_eq hf2]
    have := left_more (bs := bs) (show 0 ≤ st by omega) s1
    omega
  have d2 : csErr bs st fl (givenL bs st bys) = 0 → csErr bs st' fl' (givenL bs st bys) = 0 := fun h =>
    cs_zero hf2 hgn (all_more s1 hga) (good_more (by omega) t1 hga (cs_good0 hf hgn hga h))
  have d3 : stowE bs st fl = 0 → stowE bs st' fl' = 0 := fun h => by
    cases hgo : goB bs st fl []
    · have := (stow_no hf hgo).1; omega
    · obtain ⟨e1, e2, e3, e4, e5⟩ := stow_ok hf hgo
      exact (stow_ok hf2 (goOn_any f6 e4 (good_more (by omega) t1 e5 e3) (all_more s1 e5)).1).1
  -- the end of each way
  have fin : br ((csErr bs st fl (givenL bs st bys) != 0) == false)
      (br ((csErr bs st' fl' (givenL bs st bys) == 0) == true) (v18.p () ∧ k (.bool true) []) (k (.bool false) []))
      (v18.p () ∧ k (.bool true) []) :=
    br_intro (fun h => br_yes (by rw [d2 (by simpa using h)]; rfl) ⟨trivial, hk⟩) (fun _ => ⟨trivial, hk⟩)
  have rest : br ((stowE bs st fl != 0) == false)
      (br ((stowE bs st' fl' == 0) == true)
       (br ((checkLoad bs st fl == 0) == true)
        (br ((checkLoad bs st' fl' == 0) == true)
         (br (decide ((((leftL bs st' fl').length : Nat) : Int) ≤ (((leftL bs st fl).length : Nat) : Int)) == true)
          (br ((csErr bs st fl (givenL bs st bys) != 0) == false)
           (br ((csErr bs st' fl' (givenL bs st bys) == 0) == true) (v18.p () ∧ k (.bool true) []) (k (.bool false) []))
           (v18.p () ∧ k (.bool true) []))
          (k (.bool false) []))
         (k (.bool false) []))
        (k (.bool false) []))
       (k (.bool false) []))
      (br ((checkLoad bs st fl == 0) == true)
       (br ((checkLoad bs st' fl' == 0) == true)
        (br (decide ((((leftL bs st' fl').length : Nat) : Int) ≤ (((leftL bs st fl).length : Nat) : Int)) == true)
         (br ((csErr bs st fl (givenL bs st bys) != 0) == false)
          (br ((csErr bs st' fl' (givenL bs st bys) == 0) == true) (v18.p () ∧ k (.bool true) []) (k (.bool false) []))
          (v18.p () ∧ k (.bool true) []))
         (k (.bool false) []))
        (k (.bool false) []))
       (k (.bool false) [])) :=
    br_intro (fun h => br_yes (by rw [d3 (by simpa using h)]; rfl) (br_yes (by rw [c1]; rfl) (br_yes (by rw [c2]; rfl) (br_yes (dec_yes d1) fin))))
      (fun _ => br_yes (by rw [c1]; rfl) (br_yes (by rw [c2]; rfl) (br_yes (dec_yes d1) fin)))
  have tail : ∀ q : Prop, q → (((0 ≤ more) ∧ ((0 : Int) < 3)) ∧ fitsK .i64 (more % 3) ∧ fitsK .i64 (st + more % 3) ∧ fitsK .i64 floor ∧ fitsK .i64 (fl + floor) ∧
      v42.p (st', (fl', (bs, ()))) ∧ v32.p (bs, (st, (fl, ()))) ∧ v32.p (bs, (st', (fl', ()))) ∧ v36.p (bs, (st, (fl, ()))) ∧ v36.p (bs, (st', (fl', ()))) ∧ v43.p (bs, (st, (fl, (bys, ())))) ∧
      v19.p (bs, (st, (fl, (givenL bs st bys, ())))) ∧ v19.p (bs, (st', (fl', (givenL bs st bys, ())))) ∧ q) := fun q hq =>
    ⟨⟨hmo0, by omega⟩, fits64 (by omega) (by omega), fits64 (by omega) (by omega), fits64 (by omega) (by omega), fits64 (by omega) (by omega), trivial, hb, hb, hb, hb, ⟨hf, hlen, hby⟩, ⟨hb, hgl⟩, ⟨hb, hgl⟩, hq⟩
  refine ⟨hf, by simp only [List.length_nil, big]; omega, by simp only [List.length_singleton, big]; omega, trivial, trivial, br_intro (fun h => ?_) (fun _ => tail _ rest)⟩
  have hx : Fine (bs ++ [(bp, bw)]) st fl := by
    simp only [fine, clIs, Bool.and_eq_true, decide_eq_true_eq] at h
    exact h.2
  obtain ⟨o1, o2⟩ := fewest_one bs (bp, bw)
  have hX : fewestOf bs ≤ 9 ∧ 0 ≤ fewestOf bs := by have := ports_le bs; unfold fewestOf; omega
  exact ⟨hx, br_yes (by simp; omega) ⟨fits64 (by omega) (by omega), br_no (by simp; omega) (tail _ rest)⟩⟩
end Go.Abs.Ship
end

section
/- The contracts put together (printed by a program). -/
open Go.Proofs
set_option maxRecDepth 100000
namespace Go.Abs.Ship
theorem hc16 : HasCode Try.prog 16 := hasCode Try.func16 (by kernel_rfl) (by kernel_rfl)
theorem g16 : Keeps Try.prog 16 [v16] := keeps1 hc16 (k16 good_nil)
theorem hc22 : HasCode Try.prog 22 := hasCode Try.func22 (by kernel_rfl) (by kernel_rfl)
theorem g22 : Keeps Try.prog 22 [v22] := keeps1 hc22 (k22 good_nil)
theorem hc40 : HasCode Try.prog 40 := hasCode Try.func40 (by kernel_rfl) (by kernel_rfl)
theorem g40 : Keeps Try.prog 40 [v40] := keeps1 hc40 (k40 (g16.add (g22.add good_nil)))
theorem hc75 : HasCode Try.prog 75 := hasCode Try.func75 (by kernel_rfl) (by kernel_rfl)
theorem g75 : Keeps Try.prog 75 [v75] := keeps1 hc75 (k75 good_nil)
theorem hc42 : HasCode Try.prog 42 := hasCode Try.func42 (by kernel_rfl) (by kernel_rfl)
theorem g42 : Keeps Try.prog 42 [v42] := keeps1 hc42 (k42 good_nil)
theorem hc49 : HasCode Try.prog 49 := hasCode Try.func49 (by kernel_rfl) (by kernel_rfl)
theorem g49 : Keeps Try.prog 49 [v49] := keeps1 hc49 (k49 (g75.add (g42.add good_nil)))
theorem hc50 : HasCode Try.prog 50 := hasCode Try.func50 (by kernel_rfl) (by kernel_rfl)
theorem g50 : Keeps Try.prog 50 [v50] := keeps1 hc50 (k50 good_nil)
theorem hc78 : HasCode Try.prog 78 := hasCode Try.func78 (by kernel_rfl) (by kernel_rfl)
theorem g78 : Keeps Try.prog 78 [v78] := keeps1 hc78 (k78 good_nil)
theorem hc93 : HasCode Try.prog 93 := hasCode Try.func93 (by kernel_rfl) (by kernel_rfl)
theorem g93a : Keeps Try.prog 93 [v93a] := keeps1 hc93 (k93a (g78.add good_nil))
theorem hc77 : HasCode Try.prog 77 := hasCode Try.func77 (by kernel_rfl) (by kernel_rfl)
theorem g77 : Keeps Try.prog 77 [v77] := keeps1 hc77 (k77 (g93a.add good_nil))
theorem hc59 : HasCode Try.prog 59 := hasCode Try.func59 (by kernel_rfl) (by kernel_rfl)
theorem g59 : Keeps Try.prog 59 [v59] := keeps1 hc59 (k59 (g77.add good_nil))
theorem hc58 : HasCode Try.prog 58 := hasCode Try.func58 (by kernel_rfl) (by kernel_rfl)
theorem g58 : Keeps Try.prog 58 [v58] := keeps1 hc58 (k58 (g59.add good_nil))
theorem hc79 : HasCode Try.prog 79 := hasCode Try.func79 (by kernel_rfl) (by kernel_rfl)
theorem g79 : Keeps Try.prog 79 [v79] := keeps1 hc79 (k79 (g58.add good_nil))
theorem hc60 : HasCode Try.prog 60 := hasCode Try.func60 (by kernel_rfl) (by kernel_rfl)
theorem g60 : Keeps Try.prog 60 [v60] := keeps1 hc60 (k60 (g79.add good_nil))
theorem hc21 : HasCode Try.prog 21 := hasCode Try.func21 (by kernel_rfl) (by kernel_rfl)
theorem g21 : Keeps Try.prog 21 [v21] := keeps1 hc21 (k21 (g59.add (g60.add good_nil)))
theorem hc61 : HasCode Try.prog 61 := hasCode Try.func61 (by kernel_rfl) (by kernel_rfl)
theorem g61 : Keeps Try.prog 61 [v61] := keeps1 hc61 (k61 (g21.add good_nil))
theorem hc83 : HasCode Try.prog 83 := hasCode Try.func83 (by kernel_rfl) (by kernel_rfl)
theorem g83 : Keeps Try.prog 83 [v83] := keeps1 hc83 (k83 good_nil)
theorem hc76 : HasCode Try.prog 76 := hasCode Try.func76 (by kernel_rfl) (by kernel_rfl)
theorem g76 : Keeps Try.prog 76 [v76] := keeps1 hc76 (k76 (g83.add good_nil))
theorem hc51 : HasCode Try.prog 51 := hasCode Try.func51 (by kernel_rfl) (by kernel_rfl)
theorem g51 : Keeps Try.prog 51 [v51] := keeps1 hc51 (k51 (g61.add (g59.add (g76.add good_nil))))
theorem hc52 : HasCode Try.prog 52 := hasCode Try.func52 (by kernel_rfl) (by kernel_rfl)
theorem g52 : Keeps Try.prog 52 [v52] := keeps1 hc52 (k52 good_nil)
theorem hc54 : HasCode Try.prog 54 := hasCode Try.func54 (by kernel_rfl) (by kernel_rfl)
theorem g54 : Keeps Try.prog 54 [v54] := keeps1 hc54 (k54 good_nil)
theorem hc53 : HasCode Try.prog 53 := hasCode Try.func53 (by kernel_rfl) (by kernel_rfl)
theorem g53 : Keeps Try.prog 53 [v53] := keeps1 hc53 (k53 (g54.add good_nil))
theorem hc19 : HasCode Try.prog 19 := hasCode Try.func19 (by kernel_rfl) (by kernel_rfl)
theorem g19 : Keeps Try.prog 19 [v19] := keeps1 hc19 (k19 (g51.add (g52.add (g53.add good_nil))))
theorem hc80 : HasCode Try.prog 80 := hasCode Try.func80 (by kernel_rfl) (by kernel_rfl)
theorem g80 : Keeps Try.prog 80 [v80] := keeps1 hc80 (k80 good_nil)
theorem hc82 : HasCode Try.prog 82 := hasCode Try.func82 (by kernel_rfl) (by kernel_rfl)
theorem g82 : Keeps Try.prog 82 [v82] := keeps1 hc82 (k82 good_nil)
theorem hc81 : HasCode Try.prog 81 := hasCode Try.func81 (by kernel_rfl) (by kernel_rfl)
theorem g81 : Keeps Try.prog 81 [v81] := keeps1 hc81 (k81 (g82.add good_nil))
theorem hc62 : HasCode Try.prog 62 := hasCode Try.func62 (by kernel_rfl) (by kernel_rfl)
theorem g62 : Keeps Try.prog 62 [v62] := keeps1 hc62 (k62 (g80.add (g81.add (g83.add good_nil))))
theorem hc63 : HasCode Try.prog 63 := hasCode Try.func63 (by kernel_rfl) (by kernel_rfl)
theorem g63 : Keeps Try.prog 63 [v63] := keeps1 hc63 (k63 good_nil)
theorem hc23 : HasCode Try.prog 23 := hasCode Try.func23 (by kernel_rfl) (by kernel_rfl)
theorem g23 : Keeps Try.prog 23 [v23] := keeps1 hc23 (k23 (g61.add (g62.add (g63.add good_nil))))
theorem hc66 : HasCode Try.prog 66 := hasCode Try.func66 (by kernel_rfl) (by kernel_rfl)
theorem g66 : Keeps Try.prog 66 [v66] := keeps1 hc66 (k66 (g83.add good_nil))
theorem hc27 : HasCode Try.prog 27 := hasCode Try.func27 (by kernel_rfl) (by kernel_rfl)
theorem g27 : Keeps Try.prog 27 [v27] := keeps1 hc27 (k27 (g61.add (g66.add good_nil)))
theorem hc65 : HasCode Try.prog 65 := hasCode Try.func65 (by kernel_rfl) (by kernel_rfl)
theorem g65 : Keeps Try.prog 65 [v65] := keeps1 hc65 (k65 (g59.add good_nil))
theorem hc25 : HasCode Try.prog 25 := hasCode Try.func25 (by kernel_rfl) (by kernel_rfl)
theorem g25 : Keeps Try.prog 25 [v25] := keeps1 hc25 (k25 (g61.add (g65.add good_nil)))
theorem hc85 : HasCode Try.prog 85 := hasCode Try.func85 (by kernel_rfl) (by kernel_rfl)
theorem g85 : Keeps Try.prog 85 [v85] := keeps1 hc85 (k85 good_nil)
theorem hc68 : HasCode Try.prog 68 := hasCode Try.func68 (by kernel_rfl) (by kernel_rfl)
theorem g68 : Keeps Try.prog 68 [v68] := keeps_rec m68 hc68 (fun n h => k68 n (g52.add (g76.add (g85.add (h.add good_nil)))))
theorem hc32 : HasCode Try.prog 32 := hasCode Try.func32 (by kernel_rfl) (by kernel_rfl)
theorem g32 : Keeps Try.prog 32 [v32] := keeps1 hc32 (k32 (g61.add (g68.add good_nil)))
theorem hc70 : HasCode Try.prog 70 := hasCode Try.func70 (by kernel_rfl) (by kernel_rfl)
theorem g70 : Keeps Try.prog 70 [v70] := keeps1 hc70 (k70 (g86 good_nil))
theorem hc34 : HasCode Try.prog 34 := hasCode Try.func34 (by kernel_rfl) (by kernel_rfl)
theorem g34 : Keeps Try.prog 34 [v34] := keeps1 hc34 (k34 (g61.add (g59.add (g68.add (g70.add good_nil)))))
theorem g63i : Keeps Try.prog 63 [v63i] := keeps1 hc63 (k63i good_nil)
theorem hc88 : HasCode Try.prog 88 := hasCode Try.func88 (by kernel_rfl) (by kernel_rfl)
theorem g88 : Keeps Try.prog 88 [v88] := keeps1 hc88 (k88 good_nil)
theorem hc95 : HasCode Try.prog 95 := hasCode Try.func95 (by kernel_rfl) (by kernel_rfl)
theorem g95 : Keeps Try.prog 95 [v95] := keeps1 hc95 (k95 good_nil)
theorem hc90 : HasCode Try.prog 90 := hasCode Try.func90 (by kernel_rfl) (by kernel_rfl)
theorem g90 : Keeps Try.prog 90 [v90] := keeps1 hc90 (k90 (g95.add good_nil))
theorem hc89 : HasCode Try.prog 89 := hasCode Try.func89 (by kernel_rfl) (by kernel_rfl)
theorem g89 : Keeps Try.prog 89 [v89] := keeps1 hc89 (k89 (g90.add good_nil))
theorem g93b : Keeps Try.prog 93 [v93b] := keeps1 hc93 (k93b (g89.add good_nil))
theorem hc87 : HasCode Try.prog 87 := hasCode Try.func87 (by kernel_rfl) (by kernel_rfl)
theorem g87 : Keeps Try.prog 87 [v87] := keeps1 hc87 (k87 (g93b.add (g89.add good_nil)))
theorem hc71 : HasCode Try.prog 71 := hasCode Try.func71 (by kernel_rfl) (by kernel_rfl)
theorem g71 : Keeps Try.prog 71 [v71] := keeps_rec m71 hc71 (fun n h => k71 n (g88.add (g87.add (g62.add (h.add good_nil)))))
theorem hc36 : HasCode Try.prog 36 := hasCode Try.func36 (by kernel_rfl) (by kernel_rfl)
theorem g36 : Keeps Try.prog 36 [v36] := keeps1 hc36 (k36 (g61.add (g63i.add (g71.add good_nil))))
theorem hc74 : HasCode Try.prog 74 := hasCode Try.func74 (by kernel_rfl) (by kernel_rfl)
theorem g74 : Keeps Try.prog 74 [v74] := keeps1 hc74 (k74 good_nil)
theorem hc73 : HasCode Try.prog 73 := hasCode Try.func73 (by kernel_rfl) (by kernel_rfl)
theorem g73 : Keeps Try.prog 73 [v73] := keeps1 hc73 (k73 (g74.add good_nil))
theorem hc38 : HasCode Try.prog 38 := hasCode Try.func38 (by kernel_rfl) (by kernel_rfl)
theorem g38 : Keeps Try.prog 38 [v38] := keeps1 hc38 (k38 (g51.add (g63.add (g73.add good_nil))))
theorem hc29 : HasCode Try.prog 29 := hasCode Try.func29 (by kernel_rfl) (by kernel_rfl)
theorem g29 : Keeps Try.prog 29 [v29] := keeps1 hc29 (k29 (g61.add (g62.add (g63.add good_nil))))
theorem hc30 : HasCode Try.prog 30 := hasCode Try.func30 (by kernel_rfl) (by kernel_rfl)
theorem g30 : Keeps Try.prog 30 [v30] := keeps1 hc30 (k30 good_nil)
theorem hc64 : HasCode Try.prog 64 := hasCode Try.func64 (by kernel_rfl) (by kernel_rfl)
theorem g64 : Keeps Try.prog 64 [v64] := keeps1 hc64 (k64 good_nil)
theorem hc45 : HasCode Try.prog 45 := hasCode Try.func45 (by kernel_rfl) (by kernel_rfl)
theorem g45 : Keeps Try.prog 45 [v45] := keeps1 hc45 (k45 good_nil)
theorem hc31 : HasCode Try.prog 31 := hasCode Try.func31 (by kernel_rfl) (by kernel_rfl)
theorem g31 : Keeps Try.prog 31 [v31] := keeps1 hc31 (k31 (g64.add (g45.add good_nil)))
theorem hc18 : HasCode Try.prog 18 := hasCode Try.func18 (by kernel_rfl) (by kernel_rfl)
theorem g18 : Keeps Try.prog 18 [v18] := keeps1 hc18 (k18 (g49.add (g50.add (g19.add (g23.add (g27.add (g25.add (g32.add (g34.add (g36.add (g38.add (g29.add (g30.add (g31.add good_nil))))))))))))))
theorem hc47 : HasCode Try.prog 47 := hasCode Try.func47 (by kernel_rfl) (by kernel_rfl)
theorem g47 : Keeps Try.prog 47 [v47] := keeps1 hc47 (k47 good_nil)
theorem hc26 : HasCode Try.prog 26 := hasCode Try.func26 (by kernel_rfl) (by kernel_rfl)
theorem g26 : Keeps Try.prog 26 [v26] := keeps1 hc26 (k26 (g22.add (g47.add good_nil)))
theorem hc17 : HasCode Try.prog 17 := hasCode Try.func17 (by kernel_rfl) (by kernel_rfl)
theorem g17 : Keeps Try.prog 17 [v17] := keeps1 hc17 (k17 good_nil)
theorem hc41 : HasCode Try.prog 41 := hasCode Try.func41 (by kernel_rfl) (by kernel_rfl)
theorem g41 : Keeps Try.prog 41 [v41] := keeps1 hc41 (k41 (g23.add (g29.add (g27.add (g25.add (g26.add (g31.add (g17.add good_nil))))))))
theorem hc43 : HasCode Try.prog 43 := hasCode Try.func43 (by kernel_rfl) (by kernel_rfl)
theorem g43 : Keeps Try.prog 43 [v43] := keeps1 hc43 (k43 (g45.add good_nil))
theorem hc13 : HasCode Try.prog 13 := hasCode Try.func13 (by kernel_rfl) (by kernel_rfl)
theorem g13 : Keeps Try.prog 13 [v13] := keeps1 hc13 (k13 (g40.add (g18.add (g41.add (g42.add (g32.add (g36.add (g43.add (g19.add good_nil)))))))))
end Go.Abs.Ship
end

