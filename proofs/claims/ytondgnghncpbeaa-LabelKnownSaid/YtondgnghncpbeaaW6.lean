/- Part 6 of the road to this seat's statements: lemmas about a small interpreter over the model's code, and about the functions that it is used on. No condition of its own. -/
import Derived.Shelf.SlSortCmp.NoneTotal
import Derived.Test.YtondgnghncpbeaaProg
import Derived.Shelf.SlLaysE
import Derived.Shelf.Lays8
import Derived.Shelf.SlicesE.Delete
import Derived.Shelf.SlicesE.Reverse
import Derived.Shelf.Spec.SlicesGrow
import Derived.Test.YtondgnghncpbeaaW5

section
/- The library's SortFunc, at elements of one cell: its contract over regions handed to it. -/
namespace Go.Abs
open Go.Proofs Go.Shelf Go.Sort

/-! ### worlds -/
theorem world_grow {W w' : World} (h : Kept (fun b => b < W.heap.size) W w') : ∃ q os', w' = grow (W.drewN q) os' := by
  refine ⟨w'.drawn - W.drawn, w'.heap.extract W.heap.size w'.heap.size, ?_⟩
  obtain ⟨h1, h2, h3, h4, h5, h6⟩ := h
  obtain ⟨heap, tape, drawn, os, output⟩ := w'
  obtain ⟨heap0, tape0, drawn0, os0, output0⟩ := W
  simp only at h1 h2 h3 h4 h5 h6
  subst h1; subst h2; subst h3
  simp only [grow, World.drewN, World.mk.injEq, and_true, true_and]
  refine ⟨?_, by omega⟩
  apply Array.ext_getElem?
  intro i
  rw [Array.getElem?_append]
  split
  · rename_i hi; exact h5 i hi
  · rename_i hi
    rw [Array.getElem?_extract]
    split
    · congr 1; omega
    · exact Array.getElem?_eq_none (by omega)

theorem sort_heap {α : Type} [Inhabited α] (enc : α → Value) (w : World) (blk off m : Nat) (dk : Array α) (os : Array Obj) {b : Nat} (hb : b < w.heap.size) (hne : b ≠ blk) :
    (sortWorld enc w blk off m dk os).heap[b]? = w.heap[b]? := by
  unfold sortWorld
  rw [heap_grow_old _ _ (by rw [Go.Proofs.size_putRow]; exact hb)]
  unfold putRow mapBlock
  simp only [Array.getElem?_modify]
  rw [if_neg (fun e => hne e.symm)]; rfl
theorem sort_heap_at {α : Type} [Inhabited α] (enc : α → Value) (w : World) (blk off m : Nat) (dk : Array α) (os : Array Obj) {cs : Array Value} {e : TypeId} {fz : Nat × Nat} (h : w.heap[blk]? = some (.cells cs e fz)) :
    (sortWorld enc w blk off m dk os).heap[blk]? = some (.cells (putCells enc off dk cs) e fz) := by
  unfold sortWorld
  rw [heap_grow_old _ _ (by rw [Go.Proofs.size_putRow]; exact lt_of_heap h)]
  unfold putRow mapBlock
  simp only [Array.getElem?_modify, if_true]
  show Option.map _ w.heap[blk]? = _
  rw [h]; rfl
theorem sort_size {α : Type} [Inhabited α] (enc : α → Value) (w : World) (blk off m : Nat) (dk : Array α) (os : Array Obj) : w.heap.size ≤ (sortWorld enc w blk off m dk os).heap.size := by
  unfold sortWorld
  rw [size_grow, Go.Proofs.size_putRow]
  show w.heap.size ≤ w.heap.size + _
  omega

theorem sort_ok {α : Type} [Inhabited α] {F : Nat → Prop} {K : Know} {w : World} (hok : WOk F K w) (enc : α → Value) (blk off m : Nat) (dk : Array α) (os : Array Obj) (h1 : K.cells blk = none) (h2 : K.inv blk = none) : WOk F K (sortWorld enc w blk off m dk os) where
  knows := ⟨fun b cs h => by
    obtain ⟨e, fz, g⟩ := hok.knows.1 b cs h
    exact ⟨e, fz, by rw [sort_heap _ _ _ _ _ _ _ (lt_of_heap g) (fun e => by subst e; rw [h1] at h; cases h)]; exact g⟩, fun b p h => by
    obtain ⟨o, g, hp⟩ := hok.knows.2 b p h
    exact ⟨o, by rw [sort_heap _ _ _ _ _ _ _ (lt_of_heap g) (fun e => by subst e; rw [h2] at h; cases h)]; exact g, hp⟩⟩
  lt := fun b hb => Nat.lt_of_lt_of_le (hok.lt b hb) (sort_size ..)
  inv := hok.inv
  apart := hok.apart

theorem sort_kept {α : Type} [Inhabited α] {F : Nat → Prop} {K : Know} {w : World} (hok : WOk F K w) (enc : α → Value) (blk off m : Nat) (dk : Array α) (os : Array Obj) (h1 : ¬ F blk) : Kept F w (sortWorld enc w blk off m dk os) where
  os := rfl
  tape := rfl
  output := rfl
  size := sort_size ..
  block := fun b hb => sort_heap _ _ _ _ _ _ _ (hok.lt b hb) (fun e => h1 (e ▸ hb))
  drawn := Nat.le_add_right _ _

/-- The same cells, and no more. -/
def Know.bare (K : Know) : Know := ⟨K.cells, fun _ => none, none⟩
theorem wok_bare {F : Nat → Prop} {K : Know} {w : World} (h : WOk F K w) : WOk (fun b => b < w.heap.size) K.bare w where
  knows := ⟨h.knows.1, fun b p h => by cases h⟩
  lt := fun b h => h
  inv := fun b p h => by cases h
  apart := fun b p h => by cases h

theorem slab_one {cs : Array Value} {i : Nat} {v : Value} (h : slab cs i 1 = [v]) : cs[i]? = some v := by
  unfold slab at h
  have : ((cs.toList.drop i).take 1)[0]? = some v := by rw [h]; rfl
  rw [List.getElem?_take, List.getElem?_drop] at this
  simpa using this
theorem slab_of {cs : Array Value} {i : Nat} {v : Value} (h : cs[i]? = some v) : slab cs i 1 = [v] := by
  unfold slab
  apply List.ext_getElem?
  intro j
  rw [List.getElem?_take, List.getElem?_drop]
  cases j with
  | zero => simpa using h
  | succ j => simp

theorem den_cell1 {K : Know} {t : Ty} (ht : t.size = 1) {x : t.den} {cs : List Value} (h : DenRep K t x cs) : ∃ v, cs = [v] ∧ v.oneCell' = true := by
  cases t with
  | int k => exact ⟨_, h, rfl⟩
  | bool => exact ⟨_, h, rfl⟩
  | slice e =>
    obtain ⟨base, cap, h1, _⟩ := h
    exact ⟨_, h1, rfl⟩
  | pair a b =>
    have := a.size_pos; have := b.size_pos
    simp only [Ty.size] at ht
    omega

theorem repL_append {K : Know} {H : Nat → Option Hd} : ∀ {us bs : List AVal} {vs ws : List Value}, RepL K H us vs → RepL K H bs ws → RepL K H (us ++ bs) (vs ++ ws)
  | [], _, vs, _, h, k => by
    have : vs = [] := RepL.nil_iff.1 h
    subst this; exact k
  | a :: us, _, vs, _, h, k => by
    obtain ⟨x, xs, rfl, h1, h2⟩ := h.inv
    exact .cons h1 (repL_append h2 k)

/-! ### the contract -/
/-- An element, with the cell that holds it. -/
structure SEl (K : Know) (t : Ty) (l : List t.den) where
  x : t.den
  v : Value
  mem : x ∈ l
  rep : DenRep K t x [v]

theorem mrel_nil {F : Nat → Prop} {K : Know} {H : Nat → Option Hd} {w : World} : MRel F K H w (newM (fun _ => none) 0 []) :=
  ⟨fun r c f hd h => (by cases h), fun r c hd b h => (by cases h), fun r c hd b h => (by cases h), fun r r' c c' hd hd' b h => (by cases h)⟩

theorem sort_spec {P : Program} {ρ : Ren} (L : SlLaysF.n6 P ρ) {t : Ty} (h1 : t.size = 1) {g : FuncId} {caps : List AVal} (hp : plainVs caps = true) (eg : ∀ args w, (callFunc g args).run P w = .ok (.enter g args) w)
    {l : List t.den} {cf : t.den → t.den → Int} (hlen : l.length < 4611686018427387904)
    (irr : ∀ x ∈ l, ¬ cf x x < 0) (tr : ∀ x ∈ l, ∀ y ∈ l, ∀ z ∈ l, cf x y < 0 → cf y z < 0 → cf x z < 0) (ntr : ∀ x ∈ l, ∀ y ∈ l, ∀ z ∈ l, ¬ cf x y < 0 → ¬ cf y z < 0 → ¬ cf x z < 0)
    (hcmp : ∀ x ∈ l, ∀ y ∈ l, ASpec P g (t.cells x ++ (t.cells y ++ caps)) [] (fun v _ => v = .int .i64 (cf x y)))
    {full : Bool} {k : AVal → List Cont → Prop} (hk : ∀ l' : List t.den, l'.Perm l → l'.Pairwise (fun a b => ¬ cf b a < 0) → k (.tup []) [.sl t l']) :
    ASpec P (ρ.f 6) [.reg 0 full, .fn (.func g) [] caps] [.sl t l] k := by
  intro F K H w vs hok hargs hm hfr
  obtain ⟨v0, vs', rfl, hr0, hargs'⟩ := hargs.inv
  obtain ⟨v1, vs'', rfl, hr1, hargs''⟩ := hargs'.inv
  obtain rfl : vs'' = [] := RepL.nil_iff.1 hargs''
  clear hargs hargs' hargs''
  simp only [Rep] at hr0 hr1
  obtain ⟨hd, hH, rfl, hfull⟩ := hr0
  obtain ⟨fi, ca, rfl, hfi, hca⟩ := hr1
  obtain rfl : fi = #[] := by
    have := RepL.nil_iff.1 hfi
    exact Array.toList_eq_nil_iff.1 this
  clear hfi
  obtain ⟨c1, c2, c3, c4⟩ := hm.cont 0 (.sl t l) .own hd rfl (by simp) hH
  rcases Nat.eq_zero_or_pos l.length with h0 | hpos
  · have e0 : hd.len = 0 := by omega
    have el : l = [] := List.eq_nil_of_length_eq_zero h0
    subst el
    rw [e0]
    refine (AnyF.slices_SortFunc_none { L with } _ hd.cap _ w).mono ?_
    rintro e w' ⟨rfl, rfl⟩
    refine ⟨_, .tup [], [.sl t []], K, H, rfl, hk [] (.refl _) .nil, .refl K, ?_, hm, hfr, hok, .refl _ _, .refl _ _, Nat.le_refl _, fun _ _ => rfl⟩
    simp only [Rep]
    exact ⟨#[], rfl, .nil⟩
  rcases c4 with ⟨c4, c5⟩ | ⟨b, cs, e, fz, g1, g2, g3, g4⟩
  · omega
  obtain ⟨o1, o2, o3, o4⟩ := hm.own 0 (.sl t l) hd b rfl hH g1
  obtain ⟨cs', e', o5⟩ := o4 rfl
  rw [g2] at o5
  cases o5
  clear o4
  rw [h1, Nat.mul_one] at g3
  have hsz : l.length ≤ cs.size := by omega
  have hel : ∀ i (h : i < l.length), DenRep K t l[i] [cs[i]'(by omega)] := by
    intro i h
    have := g4 i h
    rw [h1, Nat.mul_one, Nat.zero_add, slab_of (Array.getElem?_eq_getElem (by omega))] at this
    exact this
  let d : Array (SEl K t l) := Array.ofFn (fun i : Fin l.length => ⟨l[i.1], cs[i.1]'(by omega), List.getElem_mem _, hel i.1 i.2⟩)
  have hds : d.size = l.length := Array.size_ofFn
  haveI : Inhabited (SEl K t l) := ⟨d[0]'(by omega)⟩
  have hdi : ∀ i (h : i < l.length), (d[i]!).x = l[i] ∧ (d[i]!).v = cs[i]'(by omega) := by
    intro i h
    rw [getElem!_pos d i (by omega)]
    simp only [d, Array.getElem_ofFn]
    exact ⟨trivial, trivial⟩
  let enc : SEl K t l → Value := SEl.v
  let cf' : SEl K t l → SEl K t l → Int := fun a b => cf a.x b.x
  have hone : OneCell enc := fun x => by
    obtain ⟨v, e1, e2⟩ := den_cell1 h1 x.rep
    cases e1; exact e2
  have hO : SWO (ltOf cf') := by
    refine ⟨fun x => ?_, fun x y z h1 h2 => ?_, fun x y z h1 h2 => ?_⟩
    · simp only [ltOf, decide_eq_false_iff_not]; exact irr _ x.mem
    · simp only [ltOf, decide_eq_true_eq] at h1 h2 ⊢; exact tr _ x.mem _ y.mem _ z.mem h1 h2
    · simp only [ltOf, decide_eq_false_iff_not] at h1 h2 ⊢; exact ntr _ x.mem _ y.mem _ z.mem h1 h2
  have hcell : Holds enc w b 0 d := by
    intro j hj
    have hj' : j < l.length := by omega
    refine ⟨?_, ?_⟩
    · unfold World.cell?
      rw [g2]
      simp only [Option.isSome_none, Bool.false_eq_true, if_false, Nat.zero_add]
      rw [Array.getElem?_eq_getElem (by omega)]
      rw [← (hdi j hj').2]
    · unfold World.frozen?
      rw [g2]
      simp
  have hcl : CmpLays1 P g ca enc cf' b 0 d.size w := by
    intro m os dk hs x y
    have hokW := sort_ok hok enc b 0 m dk os o2 o3
    generalize hW : sortWorld enc w b 0 m dk os = W at hokW
    have hr : RepL K.bare (fun _ => none) (t.cells x.x ++ (t.cells y.x ++ caps)) ([x.v] ++ ([y.v] ++ ca.toList)) :=
      repL_append (repL_cells t x.x _ (DenRep.cells (K := K) (K' := K.bare) (fun _ _ h => h) t _ _ x.rep)) (repL_append (repL_cells t y.x _ (DenRep.cells (K := K) (K' := K.bare) (fun _ _ h => h) t _ _ y.rep)) (plain_repL (K := K) (K' := K.bare) (fun _ _ h => h) caps _ hp hca))
    have := hcmp x.x x.mem y.x y.mem (fun b => b < W.heap.size) K.bare (fun _ => none) W _ (wok_bare hokW) hr mrel_nil (fun _ _ => rfl)
    have ea : ([x.v] ++ ([y.v] ++ ca.toList)).toArray = #[enc x, enc y] ++ ca := by
      apply Array.ext'
      simp [enc]
    rw [ea] at this
    refine this.mono ?_
    rintro e w' ⟨v, r, RM, K', H', rfl, rfl, _, hrep, _, _, _, hkp, _⟩
    simp only [Rep] at hrep
    subst hrep
    exact ⟨rfl, world_grow hkp⟩
  have hblk : b < w.heap.size := lt_of_heap g2
  have := Any.slices_SortFunc L enc hone cf' hO g ca b 0 hd.cap d w eg hcl hcell hblk (by omega)
  rw [g1]
  have ev : hd.len = d.size := by omega
  rw [ev]
  refine this.mono ?_
  rintro e2 w' ⟨rfl, d', n, os, hperm, hsort, rfl⟩
  obtain ⟨p1, p2, p3⟩ := hperm
  have q1 : d'.extract 0 d.size = d' := by rw [← p1]; exact Array.extract_size
  have q2 : d.extract 0 d.size = d := Array.extract_size
  rw [q1, q2] at p3
  have hdl : d.toList.map SEl.x = l := by
    apply List.ext_getElem
    · simp [hds]
    · intro i h1 h2
      rw [List.getElem_map]
      have := (hdi i h2).1
      rw [getElem!_pos d i (by omega)] at this
      rw [← this]; simp
  let l' : List t.den := d'.toList.map SEl.x
  have hl' : l'.length = l.length := by simp [l', p1, hds]
  have hpl : l'.Perm l := by
    have := p3.map SEl.x
    rw [hdl] at this
    exact this
  have hpw : l'.Pairwise (fun a b => ¬ cf b a < 0) := by
    rw [List.pairwise_iff_getElem]
    intro i j hi hj hij
    have := hsort i j (Nat.zero_le _) hij (by omega)
    rw [getElem!_pos d' i (by omega), getElem!_pos d' j (by omega)] at this
    simp only [ltOf, cf', decide_eq_false_iff_not] at this
    simpa [l'] using this
  have hcont : ContRel K H (sortWorld enc w b 0 n d' os) hd (.sl t l') := by
    refine ⟨c1, by omega, c3, .inr ⟨b, _, _, (0, 0), g1, sort_heap_at enc w b 0 n d' os g2, ?_, ?_⟩⟩
    · rw [h1, Nat.mul_one]; simpa [putCells] using g3
    · intro i hi
      have hi2 : i < d'.size := by omega
      have : (putCells enc 0 d' cs)[i]? = some (d'[i]).v := by
        simp only [putCells, Array.getElem?_mapIdx, Nat.zero_add, Nat.zero_le, true_and, Nat.sub_zero]
        rw [Array.getElem?_eq_getElem (by omega), Option.map_some, if_pos hi2, getElem!_pos d' i hi2]
      rw [h1, Nat.mul_one, Nat.zero_add, slab_of this]
      have e3 : l'[i] = (d'[i]).x := by simp [l']
      rw [e3]
      exact (d'[i]).rep
  refine ⟨_, .tup [], [.sl t l'], K, H, rfl, hk l' hpl hpw, .refl K, ?_, ?_, hfr, sort_ok hok enc b 0 n d' os o2 o3, sort_kept hok enc b 0 n d' os o1, .refl _ _, Nat.le_refl _, fun _ _ => rfl⟩
  · simp only [Rep]
    exact ⟨#[], rfl, .nil⟩
  have only : ∀ {r : Nat} {c : Cont} {f : Flag}, newM (fun _ => none) 0 [Cont.sl t l'] r = some (c, f) → r = 0 ∧ c = .sl t l' ∧ f = .own := by
    intro r c f h
    have h' : upd (fun _ => none) 0 (Cont.sl t l', Flag.own) r = some (c, f) := h
    by_cases hr : r = 0
    · subst hr; rw [upd_same] at h'; cases h'; exact ⟨rfl, rfl, rfl⟩
    · rw [upd_ne _ _ _ _ hr] at h'; cases h'
  refine ⟨?_, ?_, ?_, ?_⟩
  · intro r c f hd' h2 _ h3
    obtain ⟨rfl, rfl, rfl⟩ := only h2
    rw [hH] at h3; cases h3
    exact hcont
  · intro r c hd' b' h2 h3 h4
    obtain ⟨rfl, rfl, _⟩ := only h2
    rw [hH] at h3; cases h3
    rw [g1] at h4; cases h4
    exact ⟨o1, o2, o3, fun _ => ⟨_, _, sort_heap_at enc w b 0 n d' os g2⟩⟩
  · intro r c hd' b' h2
    obtain ⟨_, _, h3⟩ := only h2
    cases h3
  · intro r r' c c' hd1 hd2 b' h2 h3
    rw [(only h2).1, (only h3).1]; intros; rfl
end Go.Abs
end

section
/- The label's functions keep their contracts: the least sets. -/
open Go.Proofs
set_option maxRecDepth 100000
set_option linter.unusedVariables false
namespace Go.Abs.Label

theorem k84 (hG : Good Try.prog (envOf [(65, mkC [v70])])) : v84.Kept Try.prog 85 := by
  rintro ⟨l, ⟨⟩⟩ ⟨h1, h2⟩ k hk
  have h1 : l.length ≤ 2000 := h1
  have h2 : ∀ x ∈ l, x.length ≤ 1000 := h2
  refine sort_spec Try.laySort (t := .slice (.int .i64)) rfl (g := 65) (caps := []) rfl (hG.call 65 _ rfl) (l := l) (cf := cmpL) (Nat.lt_of_le_of_lt h1 (by decide))
    (fun x _ => cl_irr x) (fun x _ y _ z _ => cl_tr) (fun x _ y _ z _ => cl_ntr) (fun x hx y hy => ?_) (full := false) (fun l' g1 g2 => ?_)
  · refine hG.spec 65 _ rfl _ [] _ ⟨?_, ?_⟩
    · exact ⟨h2 x hx, h2 y hy⟩
    · show (rI (cmpL x y)) = _
      rfl
  · have e := sortLL_unique (l := l) (l' := l') g1 g2
    rw [e]
    exact hk

/-! ### the parts of a set, one after the other -/
theorem parts_head (s : Nat) : ∃ l, partsN s = 0 :: l := by
  unfold partsN
  rw [List.range_succ_eq_map]
  have : subB 0 s = true := by unfold subB; simp
  rw [List.filter_cons, if_pos this]
  exact ⟨_, rfl⟩
theorem next_eq {n s : Nat} (hs : s < 1024) (hn : n < s) : bitsA .and .i64 ((n : Int) - (s : Int)) (s : Int) = (((n + 1024 - s) &&& s : Nat) : Int) := by
  show IntKind.i64.wrap ((BitVec.ofInt 64 ((n : Int) - (s : Int)) &&& BitVec.ofInt 64 (s : Int)).toNat : Int) = _
  have e1 : (BitVec.ofInt 64 ((n : Int) - (s : Int))).toNat = n + 2 ^ 64 - s := by
    rw [BitVec.toNat_ofInt]
    have : (((n : Int) - (s : Int)) % ((2 ^ 64 : Nat) : Int)) = ((n + 2 ^ 64 - s : Nat) : Int) := by
      have h64 : ((2 ^ 64 : Nat) : Int) = 18446744073709551616 := by decide
      rw [h64]
      omega
    rw [this]; rfl
  have e : (BitVec.ofInt 64 ((n : Int) - (s : Int)) &&& BitVec.ofInt 64 (s : Int)).toNat = (n + 1024 - s) &&& s := by
    rw [BitVec.toNat_and, e1, ofInt_toNat s (by omega)]
    apply Nat.eq_of_testBit_eq
    intro i
    rw [Nat.testBit_and, Nat.testBit_and]
    rcases Nat.lt_or_ge i 10 with h | h
    · have hm : (n + 2 ^ 64 - s) % 2 ^ 10 = (n + 1024 - s) % 2 ^ 10 := by omega
      have h1 := Nat.testBit_mod_two_pow (n + 2 ^ 64 - s) 10 i
      have h2 := Nat.testBit_mod_two_pow (n + 1024 - s) 10 i
      rw [hm, h2] at h1
      simp only [h, decide_true, Bool.true_and] at h1
      rw [h1]
    · have : s.testBit i = false := Nat.testBit_lt_two_pow (Nat.lt_of_lt_of_le hs (by
        have : 2 ^ 10 ≤ 2 ^ i := Nat.pow_le_pow_right (by omega) h
        omega))
      rw [this, Bool.and_false, Bool.and_false]
  rw [e]
  exact wrap_nat _ (Nat.lt_of_le_of_lt Nat.and_le_right (by omega))

/-! ### entries -/
theorem ents_len (l : List Int) : (entsI l).length = l.length := by unfold entsI; simp
theorem ents_keys (l : List Int) : (entsI l).map (fun e => e.2.1) = l := by
  unfold entsI
  rw [List.map_map]
  apply List.ext_getElem
  · simp
  · intro i h1 h2
    simp
theorem ents_ids (l : List Int) : (entsI l).map (fun e => e.1) = List.range l.length := by
  unfold entsI
  rw [List.map_map]
  apply List.ext_getElem
  · simp
  · intro i h1 h2
    simp
theorem ents_snoc (l : List Int) (x : Int) : entsI (l ++ [x]) = entsI l ++ [(l.length, x, cntI x)] := by
  unfold entsI
  rw [List.zipIdx_append, List.map_append]
  simp
theorem ents_mem {l : List Int} {e : Ent} (h : e ∈ entsI l) : e.2.1 ∈ l ∧ e.1 < l.length := by
  constructor
  · have := List.mem_map_of_mem (f := fun e : Ent => e.2.1) h
    rwa [ents_keys] at this
  · have := List.mem_map_of_mem (f := fun e : Ent => e.1) h
    rwa [ents_ids, List.mem_range] at this
theorem beq_int {a b : Int} : Ty.beq (.int .i64) a b = true ↔ a = b := beq_eq (.int .i64) a b rfl
theorem mhas_no {l : List Int} {x : Int} (h : x ∉ l) : mhas (.int .i64) (entsI l) x = false := by
  show (entsI l).any (fun e : Ent => Ty.beq (.int .i64) x e.2.1) = false
  rw [List.any_eq_false]
  intro e he hb
  have := beq_int.1 hb
  exact h (this ▸ (ents_mem he).1)
theorem mput_new {l : List Int} {x : Int} (h : x ∉ l) : mput (.int .i64) (entsI l) l.length x (cntI x) = entsI (l ++ [x]) ∧ mclk (.int .i64) (entsI l) l.length x = l.length + 1 := by
  unfold mput mclk
  rw [mhas_no h, ents_snoc]
  exact ⟨rfl, rfl⟩
theorem mdel_filter (x : Int) : ∀ (l : List Ent), (l.map (fun e => e.2.1)).Nodup → mdel (.int .i64) x l = l.filter (fun e => !decide (e.2.1 = x))
  | [], _ => rfl
  | e :: l, h => by
    rw [List.map_cons, List.nodup_cons] at h
    show (if Ty.beq (.int .i64) x e.2.1 then l else e :: mdel (.int .i64) x l) = _
    by_cases hx : e.2.1 = x
    · rw [if_pos (beq_int.2 hx.symm), List.filter_cons_of_neg (by simp [hx])]
      symm
      apply List.filter_eq_self.2
      intro d hd
      have : d.2.1 ≠ x := fun e2 => h.1 (List.mem_map.2 ⟨d, hd, by rw [e2, hx]⟩)
      simp [this]
    · rw [if_neg (fun hb => hx (beq_int.1 hb).symm), List.filter_cons_of_pos (by simp [hx]), mdel_filter x l h.2]
theorem nd_filter_keys {l : List Ent} (h : (l.map (fun e => e.2.1)).Nodup) (p : Ent → Bool) : ((l.filter p).map (fun e => e.2.1)).Nodup :=
  List.Nodup.sublist (List.Sublist.map _ List.filter_sublist) h

def fin61 (k : AVal → List Cont → Prop) : ((((List Int) × (Nat × ((List Nat) × (Nat × ((List (Nat × (Int × Int))) × (Nat × Unit))))))) → Prop) → (((List Int) × (Nat × ((List Nat) × (Nat × ((List (Nat × (Int × Int))) × (Nat × Unit))))))) → Prop := (fun K9 x9 =>
        ((∀ e11 : (Nat × (Int × Int)), ((Membership.mem x9.2.2.2.2.1 e11) → (e11.1 < x9.2.1))) ∧ (x9.2.1 ≤ x9.2.2.2.1)) ∧
        (∀ b11 : ((Go.Abs.mleft (Go.Abs.Ty.int Go.IntKind.i64) x9.2.2.2.2.1 x9.2.2.1) = ([] : List (Nat × (Int × Int)))),
         Go.Abs.Loop (σ := (Int × (Int × ((List Int) × ((List (Nat × (Int × Int))) × (Nat × Unit)))))) (fun K12 x12 =>
           br ((decide (x12.2.1 < x12.1)))
            ((((0 : Int) ≤ x12.2.1) ∧ ((Int.toNat x12.2.1) < (List.length x12.2.2.1))) ∧
            ∃ h14 : ((Int.toNat x12.2.1) < (List.length x12.2.2.1)),
            (Go.Abs.Label.v85.p (x12.2.2.1, ((x12.2.2.1[(Int.toNat x12.2.1)]'h14), ()))) ∧
            br ((List.any x12.2.2.1 (Go.Abs.Label.properB (x12.2.2.1[(Int.toNat x12.2.1)]'h14))))
             ((Go.Abs.fitsK Go.IntKind.i64 (x12.2.1 + (1 : Int))) ∧
             (K12 (x12.1, ((x12.2.1 + (1 : Int)), (x12.2.2.1, ((Go.Abs.mdel (Go.Abs.Ty.int Go.IntKind.i64) (x12.2.2.1[(Int.toNat x12.2.1)]'h14) x12.2.2.2.1), (x12.2.2.2.2.1, ())))))))
             ((Go.Abs.fitsK Go.IntKind.i64 (x12.2.1 + (1 : Int))) ∧
             (K12 (x12.1, ((x12.2.1 + (1 : Int)), (x12.2.2.1, (x12.2.2.2.1, (x12.2.2.2.2.1, ()))))))))
            ((k (Go.Abs.AVal.mref 0) ((Go.Abs.Cont.mp (Go.Abs.MK.mk (Go.Abs.aggT Go.Proofs.Try.prog (69 : Nat)) (Go.Abs.Ty.int Go.IntKind.i64) Go.IntKind.i64) x12.2.2.2.1 x12.2.2.2.2.1) :: [])))) (((((List.length x9.1) : Nat) : Int), ((0 : Int), (x9.1, (x9.2.2.2.2.1, (x9.2.2.2.2.2.1, ()))))))) ∧
        ∀ b11 : (Nat × (Int × Int)),
        ∀ b12 : (Membership.mem (Go.Abs.mleft (Go.Abs.Ty.int Go.IntKind.i64) x9.2.2.2.2.1 x9.2.2.1) b11),
        ((x9.2.2.2.2.2.1 = x9.2.2.2.2.2.1) ∧ (List.Nodup (List.map (fun e13 => e13.1) x9.2.2.2.2.1))) ∧
        ∃ h13 : (Nat × (Int × Int)),
        ((Membership.mem x9.2.2.2.2.1 h13) ∧ ((List.getLast? (x9.2.2.1 ++ (b11.1 :: []))) = (Option.some h13.1))) ∧
        (((List.length x9.1) + (List.length (h13.2.1 :: ([] : List Int)))) ≤ Go.Abs.big) ∧
        (K9 ((x9.1 ++ (h13.2.1 :: ([] : List Int))), (x9.2.1, ((x9.2.2.1 ++ (b11.1 :: [])), (x9.2.2.2.2.2.1, (x9.2.2.2.2.1, (x9.2.2.2.2.2.1, ()))))))))

theorem fin_ok {k : AVal → List Cont → Prop} {G : List Int} (hn : G.Nodup) (hl : G.length ≤ 1024) (hB : allB G) (hk : k (.mref 0) [.mp mkB (minE G) G.length]) : Loop (fin61 k) ([], G.length, [], G.length, entsI G, G.length, ()) := by
  have hagg : aggT Try.prog 69 = true := by kernel_rfl
  have h2 : ((entsI G).map (·.1)).Nodup := by
    have := ents_ids G
    show ((entsI G).map (fun e => e.1)).Nodup
    rw [this]
    exact List.nodup_range
  have h3 : ∀ e ∈ entsI G, e.1 < G.length := fun e he => (ents_mem he).2
  refine Loop.intro (fun x => ∃ done seen, Ran (entsI G) done seen ∧ x = (done.map (fun e => e.2.1), G.length, seen, G.length, entsI G, G.length, ())) (fun x => (mleft (.int .i64) (entsI G) x.2.2.1).length) ?_ ⟨[], [], Ran.start _, rfl⟩
  rintro x K ⟨done, seen, hr, rfl⟩ hK
  unfold fin61
  dsimp only
  have hlen : done.length ≤ G.length := by
    have := Nat.le_trans (Nat.le_add_right _ _) hr.cnt
    rwa [ents_len] at this
  refine ⟨⟨h3, Nat.le_refl _⟩, fun he => ?_, fun b hb => ⟨⟨rfl, h2⟩, b, ⟨(mleft_mem.1 hb).1, by simp⟩, by simp [big]; omega, hK _ ⟨done ++ [b], seen ++ [b.1], hr.next hb, by rw [List.map_append]; rfl⟩ (mleft_less hb)⟩⟩
  have hp := (hr.all h2 he).map (fun e : Ent => e.2.1)
  rw [ents_keys] at hp
  generalize done.map (fun e : Ent => e.2.1) = out at hp
  have hol : out.length = G.length := hp.length_eq
  have hoB : allB out := fun x hx => hB x (hp.subset hx)
  have hony : ∀ x, out.any (properB x) = G.any (properB x) := fun x => hp.any_eq
  have hkn : ((entsI G).map (fun e => e.2.1)).Nodup := by rw [ents_keys]; exact hn
  refine Loop.upto (fun i => (((out.length : Nat) : Int), (i : Int), out, (entsI G).filter (fun e => !(decide (e.2.1 ∈ out.take i) && G.any (properB e.2.1))), G.length, ())) (fun i => True) out.length ?_ trivial ?_ ?_
  · have : (entsI G).filter (fun e => !(decide (e.2.1 ∈ out.take 0) && G.any (properB e.2.1))) = entsI G := List.filter_eq_self.2 (fun e _ => by simp)
    rw [this]
    rfl
  · intro i K_i hi hp_i hK_i
    dsimp only
    rw [br_decide]
    refine ⟨fun _ => ?_, fun h => absurd hi (by omega)⟩
    try simp only [Int.toNat_natCast]
    have hK_i := hK_i trivial
    have hx : isB out[i] := hoB _ (List.getElem_mem hi)
    refine ⟨⟨by omega, by omega⟩, by omega, ⟨by show out.length ≤ 2000; omega, hoB, hx⟩, ?_⟩
    rw [hony]
    have e : ∀ (c : Bool), G.any (properB out[i]) = c → (entsI G).filter (fun e => !(decide (e.2.1 ∈ out.take (i + 1)) && G.any (properB e.2.1))) = if c then ((entsI G).filter (fun e => !(decide (e.2.1 ∈ out.take i) && G.any (properB e.2.1)))).filter (fun e => !decide (e.2.1 = out[i])) else (entsI G).filter (fun e => !(decide (e.2.1 ∈ out.take i) && G.any (properB e.2.1))) := by
      intro c hc
      have hd : ∀ y : Int, decide (y ∈ out.take (i + 1)) = (decide (y ∈ out.take i) || decide (y = out[i])) := fun y => by
        rw [← Bool.decide_or, decide_eq_decide, List.take_succ_eq_append_getElem hi, List.mem_append, List.mem_singleton]
      cases c with
      | true =>
        rw [if_pos rfl, List.filter_filter]
        apply List.filter_congr
        intro e _
        rw [hd]
        by_cases h1 : e.2.1 = out[i]
        · simp [h1, hc]
        · simp [h1]
      | false =>
        rw [if_neg (by simp)]
        apply List.filter_congr
        intro e _
        rw [hd]
        by_cases h1 : e.2.1 = out[i]
        · simp [h1, hc]
        · simp [h1]
    refine br_intro (fun h => ⟨fits64 (by omega) (by omega), ?_⟩) (fun h => ⟨fits64 (by omega) (by omega), ?_⟩)
    · rw [e true h, if_pos rfl] at hK_i
      rw [mdel_filter _ _ (nd_filter_keys hkn _)]
      exact hK_i
    · rw [e false h, if_neg (by simp)] at hK_i
      exact hK_i
  · intro K_i hp_i
    dsimp only
    rw [br_decide]
    refine ⟨fun h => absurd h (by omega), fun _ => ?_⟩
    rw [hagg, List.take_length]
    have e : (entsI G).filter (fun e => !(decide (e.2.1 ∈ out) && G.any (properB e.2.1))) = minE G := by
      unfold minE
      apply List.filter_congr
      intro e he
      have : e.2.1 ∈ out := hp.symm.subset (ents_mem he).1
      simp [this]
    rw [e]
    exact hk

theorem goods_take {good : Int → Bool} {s i : Nat} (hi : i < (partsN s).length) : (((partsN s).take (i + 1)).map Int.ofNat).filter good = (((partsN s).take i).map Int.ofNat).filter good ++ (if good ((partsN s)[i] : Int) then [((partsN s)[i] : Int)] else []) := by
  rw [List.take_succ_eq_append_getElem hi, List.map_append, List.filter_append]
  congr 1
  simp only [List.map_cons, List.map_nil, List.filter_cons, List.filter_nil]
  rfl
theorem goods_new {good : Int → Bool} {s i : Nat} (hi : i < (partsN s).length) : ((partsN s)[i] : Int) ∉ (((partsN s).take i).map Int.ofNat).filter good := by
  intro h
  obtain ⟨h1, _⟩ := List.mem_filter.1 h
  obtain ⟨p, hp, e⟩ := List.mem_map.1 h1
  have e : p = (partsN s)[i] := Int.ofNat.inj e
  subst e
  have nd := parts_nd s
  rw [← List.take_append_drop i (partsN s)] at nd
  have hm : (partsN s)[i] ∈ (partsN s).drop i := by
    rw [List.drop_eq_getElem_cons hi]
    exact List.mem_cons_self ..
  have := (List.nodup_append.1 nd).2.2 _ hp (partsN s)[i] hm
  exact this rfl
theorem goods_nd (good : Int → Bool) (s : Nat) (i : Nat) : ((((partsN s).take i).map Int.ofNat).filter good).Nodup := by
  refine List.Pairwise.filter _ ?_
  rw [List.pairwise_map]
  exact (List.Nodup.sublist (List.take_sublist i _) (parts_nd s)).imp (fun h e => h (Int.ofNat.inj e))
theorem goods_B {good : Int → Bool} {s : Nat} (hs : s < 1024) (i : Nat) : allB ((((partsN s).take i).map Int.ofNat).filter good) := by
  intro x hx
  obtain ⟨h1, _⟩ := List.mem_filter.1 hx
  obtain ⟨p, hp, rfl⟩ := List.mem_map.1 h1
  have := (parts_mem.1 (List.mem_of_mem_take hp)).1
  show 0 ≤ (p : Int) ∧ (p : Int) < 1024
  omega
theorem goods_len {good : Int → Bool} {s : Nat} (hs : s < 1024) (i : Nat) : ((((partsN s).take i).map Int.ofNat).filter good).length ≤ 1024 := by
  refine Nat.le_trans (List.length_filter_le _ _) ?_
  rw [List.length_map]
  rw [List.length_take]
  refine Nat.le_trans (Nat.min_le_right _ _) ?_
  unfold partsN
  refine Nat.le_trans (List.length_filter_le _ _) ?_
  rw [List.length_range]
  omega

theorem k61a (hG : Good Try.prog (envOf [(55, mkC [v58]), (52, mkC [v67]), (61, mkC [v66]), (87, mkC [v86]), (86, mkC [v85])])) : v61a.Kept Try.prog 57 := by
  rintro ⟨w, rs, s, w2, rs2, n, ⟨⟩⟩ hpre k hk
  change Int at w
  change List (List Int × Int) at rs
  change Int at s w2
  change List (List Int × Int) at rs2
  change Int at n
  refine aspec hmix hG Try.func57 tx61 (Eq.mpr (eq61a w rs s w2 rs2 n k) ?_)
  replace hk : k (.mref 0) [.mp mkB (minE (goodsR w2 rs2 n s)) (goodsR w2 rs2 n s).length] := hk
  unfold vc61a
  obtain ⟨hs, hg, hn⟩ := hpre
  have hs : isB s := hs
  have hg : Gd w2 rs2 := hg
  have h1 : 0 ≤ s := hs.1
  have h2 : s < 1024 := hs.2
  obtain ⟨s, rfl⟩ := Int.eq_ofNat_of_zero_le h1
  have hs2 : s < 1024 := by omega
  unfold goodsR goodsI at hk
  rw [Int.toNat_natCast] at hk
  obtain ⟨tl, htl⟩ := parts_head s
  have hpos : 0 < (partsN s).length := by rw [htl]; simp
  refine ⟨trivial, ?_⟩
  refine Loop.upto (fun i => ((s : Int), (((partsN s).getD i 0 : Nat) : Int), (s : Int), w2, rs2, n, entsI ((((partsN s).take i).map Int.ofNat).filter (reasonOk w2 rs2 n)), ((((partsN s).take i).map Int.ofNat).filter (reasonOk w2 rs2 n)).length, ())) (fun i => True) ((partsN s).length - 1) ?_ trivial ?_ ?_
  · rw [htl]; rfl
  · intro i K hi _ hK
    have hK := hK trivial
    dsimp only
    have hi0 : i < (partsN s).length := by omega
    rw [getD_at hi0]
    obtain ⟨c1, c2⟩ := chain_at hs2 i (by omega)
    have hle := (parts_mem.1 (List.getElem_mem hi0)).1
    have hpB : isB ((partsN s)[i] : Int) := ⟨by omega, by omega⟩
    have hne : (((partsN s)[i] : Nat) : Int) ≠ (s : Int) := by omega
    rw [getD_at (show i + 1 < (partsN s).length by omega), goods_take hi0, ← c1, ← next_eq hs2 (by omega)] at hK
    refine ⟨⟨hpB, hg, hn⟩, br_intro (fun h => ?_) (fun h => ?_)⟩
    · rw [if_pos h] at hK
      obtain ⟨m1, m2⟩ := mput_new (goods_new (good := reasonOk w2 rs2 n) hi0)
      refine ⟨hpB, ?_⟩
      rw [br_beq]
      refine ⟨fun e => absurd e hne, fun _ => ⟨fits64 (by omega) (by omega), ?_⟩⟩
      rw [m1, m2]
      rw [List.length_append, List.length_singleton] at hK
      exact hK
    · rw [if_neg (by simp [h]), List.append_nil] at hK
      rw [br_beq]
      exact ⟨fun e => absurd e hne, fun _ => ⟨fits64 (by omega) (by omega), hK⟩⟩
  · intro K _
    dsimp only
    have hi0 : (partsN s).length - 1 < (partsN s).length := by omega
    have hlast := chain_last hi0
    rw [getD_at hi0]
    have ht := goods_take (good := reasonOk w2 rs2 n) hi0
    rw [show (partsN s).length - 1 + 1 = (partsN s).length by omega, List.take_length] at ht
    have hnew := goods_new (good := reasonOk w2 rs2 n) hi0
    have g1 := goods_nd (reasonOk w2 rs2 n) s (partsN s).length
    have g2 := goods_len (good := reasonOk w2 rs2 n) hs2 (partsN s).length
    have g3 := goods_B (good := reasonOk w2 rs2 n) hs2 (partsN s).length
    rw [List.take_length] at g1 g2 g3
    have fin := fin_ok g1 g2 g3 hk
    rw [hlast] at ht hnew ⊢
    refine ⟨⟨hs, hg, hn⟩, br_intro (fun h => ?_) (fun h => ?_)⟩
    · rw [if_pos h] at ht
      obtain ⟨m1, m2⟩ := mput_new hnew
      refine ⟨hs, ?_⟩
      rw [br_beq]
      refine ⟨fun _ => ?_, fun e => absurd rfl e⟩
      rw [m1, m2, ← ht]
      have el : ((((partsN s).take ((partsN s).length - 1)).map Int.ofNat).filter (reasonOk w2 rs2 n)).length + 1 = (((partsN s).map Int.ofNat).filter (reasonOk w2 rs2 n)).length := by rw [ht, List.length_append]; rfl
      rw [el]
      exact fin
    · rw [if_neg (by simp [h]), List.append_nil] at ht
      rw [br_beq]
      refine ⟨fun _ => ?_, fun e => absurd rfl e⟩
      rw [← ht]
      exact fin
theorem k61b (hG : Good Try.prog (envOf [(58, mkC [v63]), (52, mkC [v67]), (61, mkC [v66]), (87, mkC [v86]), (86, mkC [v85])])) : v61b.Kept Try.prog 57 := by
  rintro ⟨w, rs, s, w2, rs2, n, ⟨⟩⟩ hpre k hk
  change Int at w
  change List (List Int × Int) at rs
  change Int at s w2
  change List (List Int × Int) at rs2
  change Int at n
  refine aspec hmix hG Try.func57 tx61 (Eq.mpr (eq61b w rs s w2 rs2 n k) ?_)
  replace hk : k (.mref 0) [.mp mkB (minE (goodsK w2 rs2 n s)) (goodsK w2 rs2 n s).length] := hk
  unfold vc61b
  obtain ⟨hs, hg, hn⟩ := hpre
  have hs : isB s := hs
  have hg : Gd w2 rs2 := hg
  have h1 : 0 ≤ s := hs.1
  have h2 : s < 1024 := hs.2
  obtain ⟨s, rfl⟩ := Int.eq_ofNat_of_zero_le h1
  have hs2 : s < 1024 := by omega
  unfold goodsK goodsI at hk
  rw [Int.toNat_natCast] at hk
  obtain ⟨tl, htl⟩ := parts_head s
  have hpos : 0 < (partsN s).length := by rw [htl]; simp
  refine ⟨trivial, ?_⟩
  refine Loop.upto (fun i => ((s : Int), (((partsN s).getD i 0 : Nat) : Int), (s : Int), w2, rs2, n, entsI ((((partsN s).take i).map Int.ofNat).filter (keyOk w2 rs2 n)), ((((partsN s).take i).map Int.ofNat).filter (keyOk w2 rs2 n)).length, ())) (fun i => True) ((partsN s).length - 1) ?_ trivial ?_ ?_
  · rw [htl]; rfl
  · intro i K hi _ hK
    have hK := hK trivial
    dsimp only
    have hi0 : i < (partsN s).length := by omega
    rw [getD_at hi0]
    obtain ⟨c1, c2⟩ := chain_at hs2 i (by omega)
    have hle := (parts_mem.1 (List.getElem_mem hi0)).1
    have hpB : isB ((partsN s)[i] : Int) := ⟨by omega, by omega⟩
    have hne : (((partsN s)[i] : Nat) : Int) ≠ (s : Int) := by omega
    rw [getD_at (show i + 1 < (partsN s).length by omega), goods_take hi0, ← c1, ← next_eq hs2 (by omega)] at hK
    refine ⟨⟨hpB, hg, hn⟩, br_intro (fun h => ?_) (fun h => ?_)⟩
    · rw [if_pos h] at hK
      obtain ⟨m1, m2⟩ := mput_new (goods_new (good := keyOk w2 rs2 n) hi0)
      refine ⟨hpB, ?_⟩
      rw [br_beq]
      refine ⟨fun e => absurd e hne, fun _ => ⟨fits64 (by omega) (by omega), ?_⟩⟩
      rw [m1, m2]
      rw [List.length_append, List.length_singleton] at hK
      exact hK
    · rw [if_neg (by simp [h]), List.append_nil] at hK
      rw [br_beq]
      exact ⟨fun e => absurd e hne, fun _ => ⟨fits64 (by omega) (by omega), hK⟩⟩
  · intro K _
    dsimp only
    have hi0 : (partsN s).length - 1 < (partsN s).length := by omega
    have hlast := chain_last hi0
    rw [getD_at hi0]
    have ht := goods_take (good := keyOk w2 rs2 n) hi0
    rw [show (partsN s).length - 1 + 1 = (partsN s).length by omega, List.take_length] at ht
    have hnew := goods_new (good := keyOk w2 rs2 n) hi0
    have g1 := goods_nd (keyOk w2 rs2 n) s (partsN s).length
    have g2 := goods_len (good := keyOk w2 rs2 n) hs2 (partsN s).length
    have g3 := goods_B (good := keyOk w2 rs2 n) hs2 (partsN s).length
    rw [List.take_length] at g1 g2 g3
    have fin := fin_ok g1 g2 g3 hk
    rw [hlast] at ht hnew ⊢
    refine ⟨⟨hs, hg, hn⟩, br_intro (fun h => ?_) (fun h => ?_)⟩
    · rw [if_pos h] at ht
      obtain ⟨m1, m2⟩ := mput_new hnew
      refine ⟨hs, ?_⟩
      rw [br_beq]
      refine ⟨fun _ => ?_, fun e => absurd rfl e⟩
      rw [m1, m2, ← ht]
      have el : ((((partsN s).take ((partsN s).length - 1)).map Int.ofNat).filter (keyOk w2 rs2 n)).length + 1 = (((partsN s).map Int.ofNat).filter (keyOk w2 rs2 n)).length := by rw [ht, List.length_append]; rfl
      rw [el]
      exact fin
    · rw [if_neg (by simp [h]), List.append_nil] at ht
      rw [br_beq]
      refine ⟨fun _ => ?_, fun e => absurd rfl e⟩
      rw [← ht]
      exact fin
end Go.Abs.Label
end

section
/- The label's functions keep their contracts: the sort of the reference; reasons and keys. -/
open Go.Proofs
set_option maxRecDepth 100000
set_option linter.unusedVariables false
namespace Go.Abs.Label

/-! ### sorting by insertion -/
theorem goods_eq (good : Int → Bool) (s : Int) : goodsI good s = (((partsN s.toNat).take (partsN s.toNat).length).map Int.ofNat).filter good := by
  unfold goodsI
  rw [List.take_length]
theorem min_ok {G : List Int} (hl : G.length ≤ 1024) (hB : allB G) : entsOk (minE G) G.length := by
  have hs : ∀ e ∈ minE G, e ∈ entsI G := fun e he => (List.mem_filter.1 he).1
  refine ⟨?_, ?_, fun e he => (ents_mem (hs e he)).2, fun e he => hB _ (ents_mem (hs e he)).1⟩
  · refine Nat.le_trans (List.length_filter_le _ _) ?_
    rw [ents_len]; omega
  · refine List.Nodup.sublist (List.Sublist.map _ List.filter_sublist) (l₂ := (entsI G).map (fun e => e.1)) ?_
    rw [ents_ids]
    exact List.nodup_range
theorem goods_ok {good : Int → Bool} {s : Int} (hs : isB s) : (goodsI good s).Nodup ∧ (goodsI good s).length ≤ 1024 ∧ allB (goodsI good s) := by
  have h1 : 0 ≤ s := hs.1
  have h2 : s < 1024 := hs.2
  rw [goods_eq]
  exact ⟨goods_nd _ _ _, goods_len (by omega) _, goods_B (by omega) _⟩
theorem zero_isB : isB 0 := ⟨by omega, by omega⟩

theorem k18 (hG : Good Try.prog (envOf [(42, mkC [v42]), (43, mkC [v50]), (50, mkC [v57]), (55, mkC [v58]), (57, mkC [v61a]), (56, mkC [v60])])) : v18.Kept Try.prog 24 := by
  rintro ⟨w, rs, l, x, ⟨⟩⟩ hpre k hk
  change Int at w
  change List (List Int × Int) at rs
  change List Int at l
  change Int at x
  refine aspec hmix hG Try.func24 tx18 (Eq.mpr (eq18 w rs l x k) ?_)
  replace hk : k (.tup [.reg 0 false, rI (wordErr w rs l x)]) [.sl (.slice (.int .i64)) (reaL w rs l x)] := hk
  unfold vc18
  obtain ⟨hs, hl⟩ := hpre
  have hl : l.length ≤ 1000 := hl
  refine ⟨⟨hs, hl⟩, ?_⟩
  unfold reaL at hk
  have bad : ∀ e : Int, e ≠ 0 → labelErr w rs l = e → k (.tup [.reg 0 false, rI e]) [.sl (.slice (.int .i64)) []] := fun e h0 he => by
    have h1 : wordErr w rs l x = e := by unfold wordErr; rw [he, if_pos h0]
    rw [h1, if_neg h0] at hk
    exact hk
  refine br_intro (fun h => bad 6 (by omega) (by simpa [leIs] using h)) (fun h6 => br_intro (fun h => bad 2 (by omega) (by simpa [leIs] using h)) (fun h2 => br_intro (fun h => bad 3 (by omega) (by simpa [leIs] using h)) (fun h3 => ?_)))
  have e := labelErr_cases w rs l h6 h2 h3
  obtain ⟨hg, hin, hb⟩ := label_isB e
  have hw := guild_words hg
  refine ⟨fits64 (by omega) (by omega), by show (1 : Nat) ≤ big60; decide, ?_⟩
  rw [Bool.not_not, anyOut_one]
  refine br_intro (fun h => ?_) (fun h => ?_)
  · simp only [outOf, decide_eq_true_eq] at h
    have h1 : wordErr w rs l x = 3 := by unfold wordErr; rw [if_neg (by omega), if_neg (by omega)]
    rw [h1, if_neg (by omega)] at hk
    exact hk
  · simp only [outOf, decide_eq_false_iff_not] at h
    have h1 : wordErr w rs l x = 0 := by unfold wordErr; rw [if_neg (by omega), if_pos (by omega)]
    rw [h1, if_pos rfl] at hk
    have hx : 0 ≤ x ∧ x ≤ 9 := by omega
    have hn := andI_isB zero_isB hx.1 hx.2
    obtain ⟨g1, g2, g3⟩ := goods_ok (good := reasonOk w rs (andI 0 x)) hb
    exact ⟨⟨zero_isB, hx.1, hx.2⟩, ⟨hb, hg, hn⟩, min_ok g2 g3, hk⟩

/-! ### keys -/
theorem best_gen : ∀ (l : List Int) (b : Int), (l.foldl (fun b y => if cntI y < cntI b then y else b) b = b ∨ l.foldl (fun b y => if cntI y < cntI b then y else b) b ∈ l) ∧ cntI (l.foldl (fun b y => if cntI y < cntI b then y else b) b) ≤ cntI b ∧ ∀ x ∈ l, cntI (l.foldl (fun b y => if cntI y < cntI b then y else b) b) ≤ cntI x
  | [], b => ⟨.inl rfl, Int.le_refl _, fun x h => by cases h⟩
  | y :: l, b => by
    rw [List.foldl_cons]
    obtain ⟨h1, h2, h3⟩ := best_gen l (if cntI y < cntI b then y else b)
    generalize l.foldl (fun b y => if cntI y < cntI b then y else b) (if cntI y < cntI b then y else b) = r at h1 h2 h3
    by_cases h : cntI y < cntI b
    · rw [if_pos h] at h1 h2
      refine ⟨.inr ?_, by omega, fun x hx => ?_⟩
      · rcases h1 with h1 | h1
        · rw [h1]; simp
        · exact List.mem_cons_of_mem _ h1
      · rcases List.mem_cons.1 hx with rfl | hx
        · exact h2
        · exact h3 x hx
    · rw [if_neg h] at h1 h2
      refine ⟨?_, h2, fun x hx => ?_⟩
      · rcases h1 with h1 | h1
        · exact .inl h1
        · exact .inr (List.mem_cons_of_mem _ h1)
      · rcases List.mem_cons.1 hx with rfl | hx
        · omega
        · exact h3 x hx
theorem best_spec {l : List Int} (h : l ≠ []) : bestC l ∈ l ∧ ∀ x ∈ l, cntI (bestC l) ≤ cntI x := by
  cases l with
  | nil => exact absurd rfl h
  | cons y l =>
    obtain ⟨h1, h2, h3⟩ := best_gen l y
    refine ⟨?_, fun x hx => ?_⟩
    · rcases h1 with h1 | h1
      · have e : bestC (y :: l) = y := h1
        rw [e]; simp
      · exact List.mem_cons_of_mem _ h1
    · rcases List.mem_cons.1 hx with rfl | hx
      · exact h2
      · exact h3 x hx
theorem best_perm {l l' : List Int} (h : l.Perm l') (hn : l ≠ []) : cntI (bestC l) = cntI (bestC l') := by
  have hn' : l' ≠ [] := fun e => by subst e; exact hn h.eq_nil
  obtain ⟨a1, a2⟩ := best_spec hn
  obtain ⟨b1, b2⟩ := best_spec hn'
  have := a2 _ (h.symm.subset b1)
  have := b2 _ (h.subset a1)
  omega
theorem sub_le {a b : Nat} (h : subB a b = true) : a ≤ b := by
  unfold subB at h
  rw [decide_eq_true_eq] at h
  rw [← h]
  exact Nat.and_le_left
theorem goods_lt (good : Int → Bool) (s : Int) : (goodsI good s).Pairwise (· < ·) := by
  unfold goodsI
  refine List.Pairwise.filter _ ?_
  rw [List.pairwise_map]
  exact (parts_lt _).imp (fun h => Int.ofNat_lt.2 h)
/-- The least number among sets has no other one within. -/
theorem min_some {G : List Int} (hG : G.Pairwise (· < ·)) (hB : allB G) (hn : G ≠ []) : minE G ≠ [] := by
  cases G with
  | nil => exact absurd rfl hn
  | cons x G =>
    have h : (0, x, cntI x) ∈ minE (x :: G) := by
      unfold minE
      rw [List.mem_filter]
      refine ⟨?_, ?_⟩
      · unfold entsI
        rw [List.zipIdx_cons, List.map_cons]
        exact List.mem_cons_self ..
      · simp only [Bool.not_eq_true', List.any_eq_false]
        intro y hy hp
        unfold properB hasI at hp
        simp only [Bool.and_eq_true, decide_eq_true_eq] at hp
        have h1 := sub_le hp.2
        have hx : isB x := hB x (by simp)
        have hyB : isB y := hB y hy
        have hx0 : 0 ≤ x := hx.1
        have hy0 : 0 ≤ y := hyB.1
        rcases List.mem_cons.1 hy with rfl | hy
        · exact hp.1 rfl
        · have := (List.pairwise_cons.1 hG).1 y hy
          omega
    intro e
    rw [e] at h
    cases h
theorem whole_good (w : Int) (rs : List (List Int × Int)) {s : Int} (hs : 0 ≤ s) : s ∈ goodsK w rs (fromI w rs s) s := by
  unfold goodsK goodsI
  rw [List.mem_filter]
  refine ⟨List.mem_map.2 ⟨s.toNat, parts_mem.2 ⟨Nat.le_refl _, le_refl_sub _⟩, ?_⟩, by unfold keyOk; simp⟩
  show ((s.toNat : Nat) : Int) = s
  omega

theorem k20 (hG : Good Try.prog (envOf [(42, mkC [v42]), (53, mkC [v43]), (58, mkC [v63]), (57, mkC [v61b]), (59, mkC [v64]), (61, mkC [v66]), (56, mkC [v60])])) : v20.Kept Try.prog 28 := by
  rintro ⟨w, rs, l, ⟨⟩⟩ hpre k hk
  change Int at w
  change List (List Int × Int) at rs
  change List Int at l
  refine aspec hmix hG Try.func28 tx20 (Eq.mpr (eq20 w rs l k) ?_)
  replace hk : k (.tup [.reg 0 false, rI (labelErr w rs l)]) [.sl (.slice (.int .i64)) (keyL w rs l)] := hk
  unfold vc20
  obtain ⟨hs, hl⟩ := hpre
  have hl : l.length ≤ 1000 := hl
  refine ⟨⟨hs, hl⟩, ?_⟩
  unfold keyL at hk
  have bad : ∀ e : Int, e ≠ 0 → labelErr w rs l = e → k (.tup [.reg 0 false, rI e]) [.sl (.slice (.int .i64)) []] := fun e h0 he => by
    rw [he, if_neg h0] at hk
    exact hk
  refine br_intro (fun h => bad 6 (by omega) (by simpa [leIs] using h)) (fun h6 => br_intro (fun h => bad 2 (by omega) (by simpa [leIs] using h)) (fun h2 => br_intro (fun h => bad 3 (by omega) (by simpa [leIs] using h)) (fun h3 => ?_)))
  have e := labelErr_cases w rs l h6 h2 h3
  obtain ⟨hg, hin, hb⟩ := label_isB e
  have hf := gd_isB hg hb
  rw [e, if_pos rfl] at hk
  obtain ⟨g1, g2, g3⟩ := goods_ok (good := keyOk w rs (fromI w rs (bitsI l))) hb
  have hG : (goodsK w rs (fromI w rs (bitsI l)) (bitsI l)).length ≤ 1024 := g2
  have hGB : allB (goodsK w rs (fromI w rs (bitsI l)) (bitsI l)) := g3
  have hGn : (goodsK w rs (fromI w rs (bitsI l)) (bitsI l)).Nodup := g1
  have hsome : minE (goodsK w rs (fromI w rs (bitsI l)) (bitsI l)) ≠ [] := min_some (goods_lt _ _) hGB (fun h => by
    have := whole_good w rs hb.1
    rw [h] at this
    cases this)
  refine ⟨⟨hg, hb⟩, ⟨hb, hg, hf⟩, ?_⟩
  generalize goodsK w rs (fromI w rs (bitsI l)) (bitsI l) = G at hk hG hGB hGn hsome
  obtain ⟨o1, o2, o3, o4⟩ := min_ok hG hGB
  have hkn : ((minE G).map (fun e => e.2.1)).Nodup := nd_filter_keys (l := entsI G) (by rw [ents_keys]; exact hGn) _
  have o2 : ((minE G).map (·.1)).Nodup := o2
  have o1 : (minE G).length ≤ 2000 := o1
  generalize minE G = E at hk hsome o1 o2 o3 o4 hkn
  refine Loop.intro (fun x => ∃ done seen, Ran E done seen ∧ x = (E, G.length, done.map (fun e => e.2.1), G.length, seen, G.length, ())) (fun x => (mleft (.int .i64) E x.2.2.2.2.1).length) ?_ ⟨[], [], Ran.start _, rfl⟩
  rintro x K ⟨done, seen, hr, rfl⟩ hK
  dsimp only
  have hlen : done.length ≤ E.length := Nat.le_trans (Nat.le_add_right _ _) hr.cnt
  refine ⟨⟨o3, Nat.le_refl _⟩, fun he => ?_, fun b hb => ⟨⟨rfl, o2⟩, b, ⟨(mleft_mem.1 hb).1, by simp⟩, by simp [big]; omega, hK _ ⟨done ++ [b], seen ++ [b.1], hr.next hb, by rw [List.map_append]; rfl⟩ (mleft_less hb)⟩⟩
  have hp := (hr.all o2 he).map (fun e : Ent => e.2.1)
  generalize done.map (fun e : Ent => e.2.1) = out at hp
  have hol : out.length = E.length := by rw [hp.length_eq, List.length_map]
  have hoB : allB out := fun x hx => by
    obtain ⟨d, hd, rfl⟩ := List.mem_map.1 (hp.subset hx)
    exact o4 d hd
  have hne : out ≠ [] := fun h => by
    subst h
    have : E.length = 0 := hol.symm
    exact hsome (List.eq_nil_of_length_eq_zero this)
  have hpos : 0 < out.length := List.length_pos_iff.2 hne
  have hbest := best_perm hp hne
  have hbm := (best_spec hne).1
  refine ⟨⟨hpos, by show out.length ≤ 2000; omega, hoB⟩, hoB _ hbm, ?_⟩
  refine Loop.upto (fun i => (cntI (bestC out), ((out.length : Nat) : Int), (i : Int), E.filter (fun e => !(decide (e.2.1 ∈ out.take i) && decide (cntI e.2.1 > cntI (bestC out)))), G.length, out, ())) (fun i => True) out.length ?_ trivial ?_ ?_
  · have : E.filter (fun e => !(decide (e.2.1 ∈ out.take 0) && decide (cntI e.2.1 > cntI (bestC out)))) = E := List.filter_eq_self.2 (fun e _ => by simp)
    rw [this]
    rfl
  · intro i K_i hi hp_i hK_i
    dsimp only
    rw [br_decide]
    refine ⟨fun _ => ?_, fun h => absurd hi (by omega)⟩
    try simp only [Int.toNat_natCast]
    have hK_i := hK_i trivial
    have hx : isB out[i] := hoB _ (List.getElem_mem hi)
    refine ⟨⟨by omega, by omega⟩, by omega, hx, ?_⟩
    have e : ∀ (c : Bool), decide (cntI out[i] > cntI (bestC out)) = c → E.filter (fun e => !(decide (e.2.1 ∈ out.take (i + 1)) && decide (cntI e.2.1 > cntI (bestC out)))) = if c then (E.filter (fun e => !(decide (e.2.1 ∈ out.take i) && decide (cntI e.2.1 > cntI (bestC out))))).filter (fun e => !decide (e.2.1 = out[i])) else E.filter (fun e => !(decide (e.2.1 ∈ out.take i) && decide (cntI e.2.1 > cntI (bestC out)))) := by
      intro c hc
      have hd : ∀ y : Int, decide (y ∈ out.take (i + 1)) = (decide (y ∈ out.take i) || decide (y = out[i])) := fun y => by
        rw [← Bool.decide_or, decide_eq_decide, List.take_succ_eq_append_getElem hi, List.mem_append, List.mem_singleton]
      cases c with
      | true =>
        rw [if_pos rfl, List.filter_filter]
        apply List.filter_congr
        intro e _
        rw [hd]
        by_cases h1 : e.2.1 = out[i]
        · rw [h1, hc]; simp
        · have : decide (e.2.1 = out[i]) = false := by simpa using h1
          rw [this]; simp
      | false =>
        rw [if_neg (by simp)]
        apply List.filter_congr
        intro e _
        rw [hd]
        by_cases h1 : e.2.1 = out[i]
        · rw [h1, hc]; simp
        · have : decide (e.2.1 = out[i]) = false := by simpa using h1
          rw [this]; simp
    refine br_intro (fun h => ⟨fits64 (by omega) (by omega), ?_⟩) (fun h => ⟨fits64 (by omega) (by omega), ?_⟩)
    · rw [e true h, if_pos rfl] at hK_i
      rw [mdel_filter _ _ (nd_filter_keys hkn _)]
      exact hK_i
    · rw [e false h, if_neg (by simp)] at hK_i
      exact hK_i
  · intro K_i hp_i
    dsimp only
    rw [br_decide]
    refine ⟨fun h => absurd h (by omega), fun _ => ?_⟩
    rw [List.take_length]
    have e : E.filter (fun e => !(decide (e.2.1 ∈ out) && decide (cntI e.2.1 > cntI (bestC out)))) = fewE E := by
      unfold fewE
      apply List.filter_congr
      intro e he
      have : e.2.1 ∈ out := hp.symm.subset (List.mem_map_of_mem (f := fun e : Ent => e.2.1) he)
      rw [hbest]
      simp [this]
    rw [e]
    have hsub : (fewE E).Sublist E := List.filter_sublist
    exact ⟨⟨Nat.le_trans hsub.length_le o1, List.Nodup.sublist (hsub.map _) o2, fun e he => o3 e (hsub.subset he), fun e he => o4 e (hsub.subset he)⟩, hk⟩
end Go.Abs.Label
end

section
/- Conditions and their equations, printed by a program. -/
open Go.Proofs
set_option maxRecDepth 100000
set_option linter.unusedVariables false
namespace Go.Abs.Label
def vc69 (a b : List Int) (k : AVal → List Cont → Prop) : Prop :=
  br (((decide ((((List.length a) : Nat) : Int) < (((List.length b) : Nat) : Int))) == Bool.false))
   (br ((((((List.length a) : Nat) : Int) == (((List.length b) : Nat) : Int)) == Bool.true))
    ((Go.Abs.Label.v70.p (a, (b, ()))) ∧
    (k (Go.Abs.AVal.bool (decide ((Go.Abs.Label.cmpL a b) < (0 : Int)))) []))
    ((k (Go.Abs.AVal.bool Bool.false) [])))
   ((k (Go.Abs.AVal.bool Bool.true) []))
theorem eq69 (a b : List Int) (k : AVal → List Cont → Prop) : awpF (envOf [(65, mkC [v70])]) Try.prog kt 64 false Try.f64 (v69.args (a, b, ())) (v69.conts (a, b, ())) k = vc69 a b k := by kernel_rfl
theorem tx69 : (Try.f64.body.map Code.textsOk).getD true = true := by kernel_rfl

def vc68 (l : List (List Int)) (k : AVal → List Cont → Prop) : Prop :=
  ∃ h2 : (((0 : Int) ≤ (0 : Int)) ∧ ((Int.toNat (0 : Int)) < (List.length l))),
  (((0 : Int) ≤ (1 : Int)) ∧ ((1 : Int) ≤ (((List.length l) : Nat) : Int))) ∧
  Go.Abs.Loop (σ := ((List Int) × ((List (List Int)) × (Int × (Int × Unit))))) (fun K3 x3 =>
    br ((decide (x3.2.2.2.1 < x3.2.2.1)))
     (∃ h5 : (((0 : Int) ≤ x3.2.2.2.1) ∧ ((Int.toNat x3.2.2.2.1) < (List.length x3.2.1))),
     (Go.Abs.Label.v69.p ((x3.2.1[(Int.toNat x3.2.2.2.1)]'h5.2), (x3.1, ()))) ∧
     br ((Go.Abs.Label.betT (x3.2.1[(Int.toNat x3.2.2.2.1)]'h5.2) x3.1))
      ((Go.Abs.fitsK Go.IntKind.i64 (x3.2.2.2.1 + (1 : Int))) ∧
      (K3 ((x3.2.1[(Int.toNat x3.2.2.2.1)]'h5.2), (x3.2.1, (x3.2.2.1, ((x3.2.2.2.1 + (1 : Int)), ()))))))
      ((Go.Abs.fitsK Go.IntKind.i64 (x3.2.2.2.1 + (1 : Int))) ∧
      (K3 (x3.1, (x3.2.1, (x3.2.2.1, ((x3.2.2.2.1 + (1 : Int)), ())))))))
     ((k (Go.Abs.AVal.imm (Go.Abs.Ty.int Go.IntKind.i64) x3.1 Bool.false) []))) (((l[(Int.toNat (0 : Int))]'h2.2), ((List.drop (Int.toNat (1 : Int)) l), ((((List.length (List.drop (Int.toNat (1 : Int)) l)) : Nat) : Int), ((0 : Int), ())))))
theorem eq68 (l : List (List Int)) (k : AVal → List Cont → Prop) : awpF (envOf [(64, mkC [v69])]) Try.prog kt 63 false Try.f63 (v68.args (l, ())) (v68.conts (l, ())) k = vc68 l k := by kernel_rfl
theorem tx68 : (Try.f63.body.map Code.textsOk).getD true = true := by kernel_rfl

def vc23 (w : Int) (rs : List (List Int × Int)) (l : List Int) (k : AVal → List Cont → Prop) : Prop :=
  (Go.Abs.Label.v42.p (w, (rs, (l, ())))) ∧
  br ((Go.Abs.Label.leIs w rs l (6 : Int)))
   ((k (Go.Abs.AVal.tup ((Go.Abs.AVal.imm (Go.Abs.Ty.int Go.IntKind.i64) ([] : List Int) Bool.false) :: ((Go.Abs.AVal.int Go.IntKind.i64 (6 : Int)) :: []))) []))
   (br ((Go.Abs.Label.leIs w rs l (2 : Int)))
    ((k (Go.Abs.AVal.tup ((Go.Abs.AVal.imm (Go.Abs.Ty.int Go.IntKind.i64) ([] : List Int) Bool.false) :: ((Go.Abs.AVal.int Go.IntKind.i64 (2 : Int)) :: []))) []))
    (br ((Go.Abs.Label.leIs w rs l (3 : Int)))
     ((k (Go.Abs.AVal.tup ((Go.Abs.AVal.imm (Go.Abs.Ty.int Go.IntKind.i64) ([] : List Int) Bool.false) :: ((Go.Abs.AVal.int Go.IntKind.i64 (3 : Int)) :: []))) []))
     ((Go.Abs.Label.v48.p (w, (rs, ((0 : Int), ())))) ∧
     br ((Go.Abs.Label.banI w rs (0 : Int)))
      ((k (Go.Abs.AVal.tup ((Go.Abs.AVal.imm (Go.Abs.Ty.int Go.IntKind.i64) ([] : List Int) Bool.false) :: ((Go.Abs.AVal.int Go.IntKind.i64 (25 : Int)) :: []))) []))
      ((Go.Abs.Label.v67.p ((Go.Abs.Label.bitsI l), ())) ∧
      Go.Abs.Loop (σ := (Int × (Int × (Int × (Int × ((List ((List Int) × Int)) × (Int × ((List (List Int)) × Unit)))))))) (fun K4 x4 =>
        (Go.Abs.Label.v48.p (x4.2.2.2.1, (x4.2.2.2.2.1, ((Go.Abs.bitsA Go.BinOp.andNot Go.IntKind.i64 x4.2.2.2.2.2.1 x4.2.1), ())))) ∧
        br ((Bool.not (Go.Abs.Label.banI x4.2.2.2.1 x4.2.2.2.2.1 (Go.Abs.bitsA Go.BinOp.andNot Go.IntKind.i64 x4.2.2.2.2.2.1 x4.2.1))))
         ((Go.Abs.Label.v44.p (x4.2.1, ())) ∧
         (((List.length x4.2.2.2.2.2.2.1) + (List.length ((Go.Abs.Label.listI x4.2.1) :: ([] : List (List Int))))) ≤ Go.Abs.big) ∧
         br ((x4.2.1 == x4.1))
          ((Go.Abs.Label.v68.p ((x4.2.2.2.2.2.2.1 ++ ((Go.Abs.Label.listI x4.2.1) :: ([] : List (List Int)))), ())) ∧
          (k (Go.Abs.AVal.tup ((Go.Abs.AVal.imm (Go.Abs.Ty.int Go.IntKind.i64) (Go.Abs.Label.bestT (x4.2.2.2.2.2.2.1 ++ ((Go.Abs.Label.listI x4.2.1) :: ([] : List (List Int))))) Bool.false) :: ((Go.Abs.AVal.int Go.IntKind.i64 (0 : Int)) :: []))) []))
          ((Go.Abs.fitsK Go.IntKind.i64 (x4.2.1 - x4.1)) ∧
          (K4 (x4.1, ((Go.Abs.bitsA Go.BinOp.and Go.IntKind.i64 (x4.2.1 - x4.1) x4.1), (x4.2.2.1, (x4.2.2.2.1, (x4.2.2.2.2.1, (x4.2.2.2.2.2.1, ((x4.2.2.2.2.2.2.1 ++ ((Go.Abs.Label.listI x4.2.1) :: ([] : List (List Int)))), ()))))))))))
         (br ((x4.2.1 == x4.1))
          ((Go.Abs.Label.v68.p (x4.2.2.2.2.2.2.1, ())) ∧
          (k (Go.Abs.AVal.tup ((Go.Abs.AVal.imm (Go.Abs.Ty.int Go.IntKind.i64) (Go.Abs.Label.bestT x4.2.2.2.2.2.2.1) Bool.false) :: ((Go.Abs.AVal.int Go.IntKind.i64 (0 : Int)) :: []))) []))
          ((Go.Abs.fitsK Go.IntKind.i64 (x4.2.1 - x4.1)) ∧
          (K4 (x4.1, ((Go.Abs.bitsA Go.BinOp.and Go.IntKind.i64 (x4.2.1 - x4.1) x4.1), (x4.2.2.1, (x4.2.2.2.1, (x4.2.2.2.2.1, (x4.2.2.2.2.2.1, (x4.2.2.2.2.2.2.1, ()))))))))))) (((Go.Abs.Label.bitsI l), ((0 : Int), ((Go.Abs.Label.bitsI l), (w, (rs, ((Go.Abs.Label.bitsI l), (([] : List (List Int)), ()))))))))))))
theorem eq23 (w : Int) (rs : List (List Int × Int)) (l : List Int) (k : AVal → List Cont → Prop) : awpF (envOf [(42, mkC [v42]), (54, mkC [v48]), (52, mkC [v67]), (62, mkC [v44]), (63, mkC [v68])]) Try.prog kt 30 true Try.f30 (v23.args (w, rs, l, ())) (v23.conts (w, rs, l, ())) k = vc23 w rs l k := by kernel_rfl
theorem tx23 : (Try.f30.body.map Code.textsOk).getD true = true := by kernel_rfl

def vc25 (w : Int) (rs : List (List Int × Int)) (k : AVal → List Cont → Prop) : Prop :=
  (Go.Abs.Label.v42.p (w, (rs, (([] : List Int), ())))) ∧
  br ((Go.Abs.Label.leIs w rs ([] : List Int) (6 : Int)))
   ((k (Go.Abs.AVal.tup ((Go.Abs.AVal.int Go.IntKind.i64 (0 : Int)) :: ((Go.Abs.AVal.int Go.IntKind.i64 (6 : Int)) :: []))) []))
   (br ((Go.Abs.Label.leIs w rs ([] : List Int) (2 : Int)))
    ((k (Go.Abs.AVal.tup ((Go.Abs.AVal.int Go.IntKind.i64 (0 : Int)) :: ((Go.Abs.AVal.int Go.IntKind.i64 (2 : Int)) :: []))) []))
    (br ((Go.Abs.Label.leIs w rs ([] : List Int) (3 : Int)))
     ((k (Go.Abs.AVal.tup ((Go.Abs.AVal.int Go.IntKind.i64 (0 : Int)) :: ((Go.Abs.AVal.int Go.IntKind.i64 (3 : Int)) :: []))) []))
     (((0 : Int) ≤ w) ∧
     (Go.Abs.fitsK Go.IntKind.i64 ((Go.Abs.shlA Go.IntKind.i64 (1 : Int) w) - (1 : Int))) ∧
     (Go.Abs.Label.v67.p (((Go.Abs.shlA Go.IntKind.i64 (1 : Int) w) - (1 : Int)), ())) ∧
     Go.Abs.Loop (σ := (Int × (Int × (Int × (Int × ((List ((List Int) × Int)) × (Int × Unit))))))) (fun K3 x3 =>
       (Go.Abs.Label.v43.p (x3.2.2.2.1, (x3.2.2.2.2.1, (x3.2.1, ())))) ∧
       br ((((Go.Abs.Label.fromI x3.2.2.2.1 x3.2.2.2.2.1 x3.2.1) == x3.2.1) == Bool.true))
        ((Go.Abs.Label.v48.p (x3.2.2.2.1, (x3.2.2.2.2.1, (x3.2.1, ())))) ∧
        br ((Bool.not (Go.Abs.Label.banI x3.2.2.2.1 x3.2.2.2.2.1 x3.2.1)))
         ((Go.Abs.fitsK Go.IntKind.i64 (x3.2.2.2.2.2.1 + (1 : Int))) ∧
         br ((x3.2.1 == x3.1))
          ((k (Go.Abs.AVal.tup ((Go.Abs.AVal.int Go.IntKind.i64 (x3.2.2.2.2.2.1 + (1 : Int))) :: ((Go.Abs.AVal.int Go.IntKind.i64 (0 : Int)) :: []))) []))
          ((Go.Abs.fitsK Go.IntKind.i64 (x3.2.1 - x3.1)) ∧
          (K3 (x3.1, ((Go.Abs.bitsA Go.BinOp.and Go.IntKind.i64 (x3.2.1 - x3.1) x3.1), (x3.2.2.1, (x3.2.2.2.1, (x3.2.2.2.2.1, ((x3.2.2.2.2.2.1 + (1 : Int)), ())))))))))
         (br ((x3.2.1 == x3.1))
          ((k (Go.Abs.AVal.tup ((Go.Abs.AVal.int Go.IntKind.i64 x3.2.2.2.2.2.1) :: ((Go.Abs.AVal.int Go.IntKind.i64 (0 : Int)) :: []))) []))
          ((Go.Abs.fitsK Go.IntKind.i64 (x3.2.1 - x3.1)) ∧
          (K3 (x3.1, ((Go.Abs.bitsA Go.BinOp.and Go.IntKind.i64 (x3.2.1 - x3.1) x3.1), (x3.2.2.1, (x3.2.2.2.1, (x3.2.2.2.2.1, (x3.2.2.2.2.2.1, ()))))))))))
        (br ((x3.2.1 == x3.1))
         ((k (Go.Abs.AVal.tup ((Go.Abs.AVal.int Go.IntKind.i64 x3.2.2.2.2.2.1) :: ((Go.Abs.AVal.int Go.IntKind.i64 (0 : Int)) :: []))) []))
         ((Go.Abs.fitsK Go.IntKind.i64 (x3.2.1 - x3.1)) ∧
         (K3 (x3.1, ((Go.Abs.bitsA Go.BinOp.and Go.IntKind.i64 (x3.2.1 - x3.1) x3.1), (x3.2.2.1, (x3.2.2.2.1, (x3.2.2.2.2.1, (x3.2.2.2.2.2.1, ())))))))))) ((((Go.Abs.shlA Go.IntKind.i64 (1 : Int) w) - (1 : Int)), ((0 : Int), (((Go.Abs.shlA Go.IntKind.i64 (1 : Int) w) - (1 : Int)), (w, (rs, ((0 : Int), ()))))))))))
theorem eq25 (w : Int) (rs : List (List Int × Int)) (k : AVal → List Cont → Prop) : awpF (envOf [(42, mkC [v42]), (52, mkC [v67]), (53, mkC [v43]), (54, mkC [v48])]) Try.prog kt 23 false Try.f23 (v25.args (w, rs, ())) (v25.conts (w, rs, ())) k = vc25 w rs k := by kernel_rfl
theorem tx25 : (Try.f23.body.map Code.textsOk).getD true = true := by kernel_rfl

def vc27 (w : Int) (rs : List (List Int × Int)) (r : Int) (k : AVal → List Cont → Prop) : Prop :=
  (Go.Abs.Label.v42.p (w, (rs, (([] : List Int), ())))) ∧
  br ((Go.Abs.Label.leIs w rs ([] : List Int) (6 : Int)))
   ((k (Go.Abs.AVal.tup ((Go.Abs.AVal.bool Bool.false) :: ((Go.Abs.AVal.int Go.IntKind.i64 (6 : Int)) :: []))) []))
   (br ((Go.Abs.Label.leIs w rs ([] : List Int) (2 : Int)))
    ((k (Go.Abs.AVal.tup ((Go.Abs.AVal.bool Bool.false) :: ((Go.Abs.AVal.int Go.IntKind.i64 (2 : Int)) :: []))) []))
    (br ((Go.Abs.Label.leIs w rs ([] : List Int) (3 : Int)))
     ((k (Go.Abs.AVal.tup ((Go.Abs.AVal.bool Bool.false) :: ((Go.Abs.AVal.int Go.IntKind.i64 (3 : Int)) :: []))) []))
     ((Go.Abs.fitsK Go.IntKind.i64 ((((List.length rs) : Nat) : Int) - (1 : Int))) ∧
     (Go.Abs.Label.v50.p ((0 : Int), (((((List.length rs) : Nat) : Int) - (1 : Int)), ((r :: ([] : List Int)), ())))) ∧
     br ((Bool.not (Bool.not (Go.Abs.Label.anyOut (0 : Int) ((((List.length rs) : Nat) : Int) - (1 : Int)) (r :: ([] : List Int))))))
      ((k (Go.Abs.AVal.tup ((Go.Abs.AVal.bool Bool.false) :: ((Go.Abs.AVal.int Go.IntKind.i64 (2 : Int)) :: []))) []))
      (∃ h4 : (((0 : Int) ≤ r) ∧ ((Int.toNat r) < (List.length rs))),
      (((0 : Int) ≤ r) ∧ (r ≤ (((List.length rs) : Nat) : Int))) ∧
      (Go.Abs.fitsK Go.IntKind.i64 (r + (1 : Int))) ∧
      (((0 : Int) ≤ (r + (1 : Int))) ∧ ((r + (1 : Int)) ≤ (((List.length rs) : Nat) : Int))) ∧
      (Go.Abs.Label.v72.p (((List.take (Int.toNat r) rs) :: ((List.drop (Int.toNat (r + (1 : Int))) rs) :: ([] : List (List ((List Int) × Int))))), ())) ∧
      br ((decide ((rs[(Int.toNat r)]'h4.2).2 < (0 : Int))))
       ((Go.Abs.Label.v73.p ((rs[(Int.toNat r)]'h4.2).1, ())) ∧
       (Go.Abs.Label.v48.p (w, ((List.flatten ((List.take (Int.toNat r) rs) :: ((List.drop (Int.toNat (r + (1 : Int))) rs) :: ([] : List (List ((List Int) × Int)))))), ((Go.Abs.Label.bitsI (rs[(Int.toNat r)]'h4.2).1), ())))) ∧
       (k (Go.Abs.AVal.tup ((Go.Abs.AVal.bool (Go.Abs.Label.banI w (List.flatten ((List.take (Int.toNat r) rs) :: ((List.drop (Int.toNat (r + (1 : Int))) rs) :: ([] : List (List ((List Int) × Int)))))) (Go.Abs.Label.bitsI (rs[(Int.toNat r)]'h4.2).1))) :: ((Go.Abs.AVal.int Go.IntKind.i64 (0 : Int)) :: []))) []))
       ((Go.Abs.Label.v73.p ((rs[(Int.toNat r)]'h4.2).1, ())) ∧
       (Go.Abs.Label.v43.p (w, ((List.flatten ((List.take (Int.toNat r) rs) :: ((List.drop (Int.toNat (r + (1 : Int))) rs) :: ([] : List (List ((List Int) × Int)))))), ((Go.Abs.Label.bitsI (rs[(Int.toNat r)]'h4.2).1), ())))) ∧
       (Go.Abs.Label.v57.p ((0 : Int), ((rs[(Int.toNat r)]'h4.2).2, ()))) ∧
       (Go.Abs.Label.v59.p ((Go.Abs.Label.fromI w (List.flatten ((List.take (Int.toNat r) rs) :: ((List.drop (Int.toNat (r + (1 : Int))) rs) :: ([] : List (List ((List Int) × Int)))))) (Go.Abs.Label.bitsI (rs[(Int.toNat r)]'h4.2).1)), ((Go.Abs.Label.andI (0 : Int) (rs[(Int.toNat r)]'h4.2).2), ()))) ∧
       (k (Go.Abs.AVal.tup ((Go.Abs.AVal.bool (Go.Abs.Label.hasI (Go.Abs.Label.fromI w (List.flatten ((List.take (Int.toNat r) rs) :: ((List.drop (Int.toNat (r + (1 : Int))) rs) :: ([] : List (List ((List Int) × Int)))))) (Go.Abs.Label.bitsI (rs[(Int.toNat r)]'h4.2).1)) (Go.Abs.Label.andI (0 : Int) (rs[(Int.toNat r)]'h4.2).2))) :: ((Go.Abs.AVal.int Go.IntKind.i64 (0 : Int)) :: []))) []))))))
theorem eq27 (w : Int) (rs : List (List Int × Int)) (r : Int) (k : AVal → List Cont → Prop) : awpF (envOf [(42, mkC [v42]), (43, mkC [v50]), (66, mkC [v72]), (49, mkC [v73]), (54, mkC [v48]), (53, mkC [v43]), (50, mkC [v57]), (48, mkC [v59])]) Try.prog kt 32 false Try.f32 (v27.args (w, rs, r, ())) (v27.conts (w, rs, r, ())) k = vc27 w rs r k := by kernel_rfl
theorem tx27 : (Try.f32.body.map Code.textsOk).getD true = true := by kernel_rfl

end Go.Abs.Label
end

section
/- The label's functions keep their contracts: what is taken, closed ones, reasons and keys by the reference. -/
open Go.Proofs
set_option maxRecDepth 100000
set_option linter.unusedVariables false
namespace Go.Abs.Label

theorem k69 (hG : Good Try.prog (envOf [(65, mkC [v70])])) : v69.Kept Try.prog 64 := by
  rintro ⟨a, b, ⟨⟩⟩ hpre k hk
  change List Int at a b
  refine aspec hmix hG Try.func64 tx69 (Eq.mpr (eq69 a b k) ?_)
  replace hk : k (.bool (betT a b)) [] := hk
  unfold vc69
  obtain ⟨h1, h2⟩ := hpre
  unfold betT at hk
  rw [br_false]
  refine ⟨fun g => ?_, fun g => ?_⟩
  · have e : decide (a.length < b.length) = false := by simp only [decide_eq_false_iff_not]; omega
    rw [e, Bool.false_or] at hk
    rw [br_bt]
    refine ⟨fun g2 => ⟨⟨h1, h2⟩, ?_⟩, fun g2 => ?_⟩
    · have e2 : decide (a.length = b.length) = true := by
        simp only [beq_iff_eq] at g2
        simp only [decide_eq_true_eq]; omega
      have e3 : decide (cmpL a b < 0) = before a b := by
        rw [Bool.eq_iff_iff, decide_eq_true_eq, cmp_neg]
      rw [e2, Bool.true_and] at hk
      rw [e3]
      exact hk
    · have e2 : decide (a.length = b.length) = false := by
        simp only [beq_eq_false_iff_ne, ne_eq] at g2
        simp only [decide_eq_false_iff_not]; omega
      rw [e2, Bool.false_and] at hk
      exact hk
  · have e : decide (a.length < b.length) = true := by simp only [decide_eq_true_eq]; omega
    rw [e, Bool.true_or] at hk
    exact hk

theorem k68 (hG : Good Try.prog (envOf [(64, mkC [v69])])) : v68.Kept Try.prog 63 := by
  rintro ⟨l, ⟨⟩⟩ hpre k hk
  change List (List Int) at l
  refine aspec hmix hG Try.func63 tx68 (Eq.mpr (eq68 l k) ?_)
  replace hk : k (.imm (.int .i64) (bestT l) false) [] := hk
  unfold vc68
  obtain ⟨h0, h1, h2⟩ := hpre
  have h0 : 0 < l.length := h0
  have h1 : l.length ≤ 2000 := h1
  have h2 : ∀ x ∈ l, x.length ≤ 1000 := h2
  obtain ⟨x, m, rfl⟩ : ∃ x m, l = x :: m := by
    cases l with
    | nil => simp at h0
    | cons x m => exact ⟨x, m, rfl⟩
  simp only [List.length_cons] at h1
  refine ⟨⟨by omega, by simp⟩, ⟨by omega, by simp only [List.length_cons]; omega⟩, ?_⟩
  show Loop _ (x, m, ((m.length : Nat) : Int), 0, ())
  refine Loop.upto (fun i => ((m.take i).foldl (fun b y => if betT y b then y else b) x, m, ((m.length : Nat) : Int), (i : Int), ())) (fun i => ((m.take i).foldl (fun b y => if betT y b then y else b) x).length ≤ 1000) m.length rfl (h2 x (by simp)) ?_ ?_
  · intro i K hi hp hK
    dsimp only
    rw [br_decide]
    refine ⟨fun _ => ?_, fun h => absurd hi (by omega)⟩
    try simp only [Int.toNat_natCast]
    have hm : m[i].length ≤ 1000 := h2 _ (List.mem_cons_of_mem _ (List.getElem_mem hi))
    refine ⟨⟨by omega, by omega⟩, ⟨hm, hp⟩, ?_⟩
    have e : (m.take (i + 1)).foldl (fun b y => if betT y b then y else b) x = if betT m[i] ((m.take i).foldl (fun b y => if betT y b then y else b) x) then m[i] else (m.take i).foldl (fun b y => if betT y b then y else b) x := by
      rw [List.take_succ_eq_append_getElem hi, List.foldl_append]; rfl
    rw [e] at hK
    refine br_intro (fun h => ⟨fits64 (by omega) (by omega), ?_⟩) (fun h => ⟨fits64 (by omega) (by omega), ?_⟩)
    · rw [if_pos h] at hK; exact hK hm
    · rw [if_neg (by simp [h])] at hK; exact hK hp
  · intro K hp
    dsimp only
    rw [br_decide]
    refine ⟨fun h => absurd h (by omega), fun _ => ?_⟩
    rw [List.take_length]
    exact hk

theorem pow_w {W : Nat} (h : W ≤ 10) : shlA .i64 1 (W : Int) = ((2 ^ W : Nat) : Int) ∧ 2 ^ W ≤ 1024 := by
  refine ⟨one_shl W (by omega), ?_⟩
  have : 2 ^ W ≤ 2 ^ 10 := Nat.pow_le_pow_right (by omega) h
  omega
theorem range_filter {p : Nat → Bool} (i : Nat) : (List.range (i + 1)).filter p = (List.range i).filter p ++ (if p i then [i] else []) := by
  rw [List.range_succ, List.filter_append]
  congr 1
  by_cases h : p i = true <;> simp [h]
theorem filter_len {p : Nat → Bool} (i : Nat) : ((List.range i).filter p).length ≤ i := Nat.le_trans (List.length_filter_le _ _) (by simp)

theorem parts_full (W : Nat) : partsN (2 ^ W - 1) = List.range (2 ^ W) := by
  have hp : 0 < 2 ^ W := Nat.pow_pos (by omega)
  unfold partsN
  rw [Nat.sub_add_cancel hp]
  refine List.filter_eq_self.2 fun p hpr => ?_
  rw [List.mem_range] at hpr
  refine sub_iff.2 fun i hi => ?_
  rw [Nat.testBit_two_pow_sub_one, decide_eq_true_eq]
  rcases Nat.lt_or_ge i W with h | h
  · exact h
  · rw [Nat.testBit_lt_two_pow (Nat.lt_of_lt_of_le hpr (Nat.pow_le_pow_right (by omega) h))] at hi
    cases hi
theorem next_full {W : Nat} (hW : W ≤ 10) {i : Nat} (hi : i + 1 < 2 ^ W) : bitsA .and .i64 ((i : Int) - ((2 ^ W : Nat) - 1 : Int)) ((2 ^ W : Nat) - 1 : Int) = ((i + 1 : Nat) : Int) := by
  obtain ⟨_, hp2⟩ := pow_w hW
  have e : ((2 ^ W : Nat) : Int) - 1 = ((2 ^ W - 1 : Nat) : Int) := by omega
  rw [e, next_eq (by omega) (by omega)]
  have hl : (partsN (2 ^ W - 1)).length = 2 ^ W := by rw [parts_full, List.length_range]
  have := (chain_at (s := 2 ^ W - 1) (by omega) i (by rw [hl]; omega)).1
  simp only [parts_full, List.getElem_range] at this
  rw [this]

theorem nil_ok {w : Int} {rs : List (List Int × Int)} : labelErr w rs [] = guildErr w rs := by
  unfold labelErr
  by_cases h : guildErr w rs = 0
  · rw [if_neg (by omega), h]; rfl
  · rw [if_pos h]

theorem k25 (hG : Good Try.prog (envOf [(42, mkC [v42]), (52, mkC [v67]), (53, mkC [v43]), (54, mkC [v48])])) : v25.Kept Try.prog 23 := by
  rintro ⟨w, rs, ⟨⟩⟩ hpre k hk
  change Int at w
  change List (List Int × Int) at rs
  refine aspec hmix hG Try.func23 tx25 (Eq.mpr (eq25 w rs k) ?_)
  replace hk : k (.tup [rI (closL w rs), rI (guildErr w rs)]) [] := hk
  unfold vc25
  have hs : smallG rs := hpre
  unfold closL at hk
  refine ⟨⟨hs, by show (0 : Nat) ≤ 1000; omega⟩, ?_⟩
  have bad : ∀ e : Int, e ≠ 0 → labelErr w rs [] = e → k (.tup [rI 0, rI e]) [] := fun e h0 he => by
    rw [nil_ok] at he
    rw [he, if_neg h0] at hk
    exact hk
  refine br_intro (fun h => bad 6 (by omega) (by simpa [leIs] using h)) (fun h6 => br_intro (fun h => bad 2 (by omega) (by simpa [leIs] using h)) (fun h2 => br_intro (fun h => bad 3 (by omega) (by simpa [leIs] using h)) (fun h3 => ?_)))
  have h := labelErr_cases w rs [] h6 h2 h3
  rw [nil_ok] at h
  have hg : Gd w rs := h
  rw [if_pos h, h] at hk
  have hw := guild_words hg
  obtain ⟨W, rfl⟩ := Int.eq_ofNat_of_zero_le (show 0 ≤ w by omega)
  obtain ⟨hp1, hp2⟩ := pow_w (show W ≤ 10 by omega)
  have hp0 : 0 < 2 ^ W := Nat.pow_pos (by omega)
  unfold closN at hk
  rw [Int.toNat_natCast] at hk
  rw [hp1]
  refine ⟨by omega, fits64 (by omega) (by omega), trivial, ?_⟩
  have cls : ∀ i : Int, clsI W rs i = (decide (fromI W rs i = i) && !banI W rs i) := fun i => rfl
  refine Loop.upto (fun i => (((2 ^ W : Nat) : Int) - 1, (i : Int), ((2 ^ W : Nat) : Int) - 1, (W : Int), rs, (((List.range i).filter (fun i : Nat => clsI W rs (i : Int))).length : Int), ())) (fun i => True) (2 ^ W - 1) rfl trivial ?_ ?_
  · intro i K hi _ hK
    have hK := hK trivial
    dsimp only
    have hB : isB (i : Int) := ⟨by omega, by omega⟩
    have hl := filter_len (p := fun i : Nat => clsI W rs (i : Int)) i
    rw [range_filter, ← next_full (show W ≤ 10 by omega) (show i + 1 < 2 ^ W by omega)] at hK
    have hne : ¬ (i : Int) = ((2 ^ W : Nat) : Int) - 1 := by omega
    refine ⟨⟨hg, hB⟩, ?_⟩
    rw [br_bt]
    refine ⟨fun h => ⟨⟨hg, hB⟩, br_intro (fun h2 => ⟨fits64 (by omega) (by omega), ?_⟩) (fun h2 => ?_)⟩, fun h => ?_⟩
    · have e : clsI W rs (i : Int) = true := by rw [cls, h2]; simpa using h
      rw [if_pos e, List.length_append] at hK
      rw [br_beq]
      exact ⟨fun e => absurd e hne, fun _ => ⟨fits64 (by omega) (by omega), hK⟩⟩
    · have e : clsI W rs (i : Int) = false := by rw [cls, h2, Bool.and_false]
      rw [if_neg (by simp [e]), List.append_nil] at hK
      rw [br_beq]
      exact ⟨fun e => absurd e hne, fun _ => ⟨fits64 (by omega) (by omega), hK⟩⟩
    · have e : clsI W rs (i : Int) = false := by
        have : decide (fromI W rs i = i) = false := by simpa using h
        rw [cls, this, Bool.false_and]
      rw [if_neg (by simp [e]), List.append_nil] at hK
      rw [br_beq]
      exact ⟨fun e => absurd e hne, fun _ => ⟨fits64 (by omega) (by omega), hK⟩⟩
  · intro K _
    dsimp only
    have hc : ((2 ^ W - 1 : Nat) : Int) = ((2 ^ W : Nat) : Int) - 1 := by omega
    have hB : isB ((2 ^ W - 1 : Nat) : Int) := ⟨by omega, by omega⟩
    have hr := range_filter (p := fun i : Nat => clsI W rs (i : Int)) (2 ^ W - 1)
    rw [Nat.sub_add_cancel hp0] at hr
    have hl := filter_len (p := fun i : Nat => clsI W rs (i : Int)) (2 ^ W - 1)
    rw [hr] at hk
    refine ⟨⟨hg, hB⟩, ?_⟩
    rw [br_bt]
    refine ⟨fun h => ⟨⟨hg, hB⟩, br_intro (fun h2 => ⟨fits64 (by omega) (by omega), ?_⟩) (fun h2 => ?_)⟩, fun h => ?_⟩
    · have e : clsI W rs ((2 ^ W - 1 : Nat) : Int) = true := by rw [cls, h2]; simpa using h
      rw [if_pos e, List.length_append] at hk
      rw [br_beq]
      exact ⟨fun _ => hk, fun e => absurd hc e⟩
    · have e : clsI W rs ((2 ^ W - 1 : Nat) : Int) = false := by rw [cls, h2, Bool.and_false]
      rw [if_neg (by simp [e]), List.append_nil] at hk
      rw [br_beq]
      exact ⟨fun _ => hk, fun e => absurd hc e⟩
    · have e : clsI W rs ((2 ^ W - 1 : Nat) : Int) = false := by
        have : decide (fromI W rs ((2 ^ W - 1 : Nat) : Int) = ((2 ^ W - 1 : Nat) : Int)) = false := by simpa using h
        rw [cls, this, Bool.false_and]
      rw [if_neg (by simp [e]), List.append_nil] at hk
      rw [br_beq]
      exact ⟨fun _ => hk, fun e => absurd hc e⟩
end Go.Abs.Label
end

section
/- The label's functions keep their contracts: what is taken; reasons and keys by the reference. -/
open Go.Proofs
set_option maxRecDepth 100000
set_option linter.unusedVariables false
namespace Go.Abs.Label

theorem takeErr_spec {w : Int} {rs : List (List Int × Int)} {l : List Int} (h : labelErr w rs l = 0) : takeErr w rs l = if banned w rs 0 then 25 else 0 := by
  unfold takeErr
  rw [if_neg (by omega)]
theorem notI_int {a b : Nat} (ha : a < 1024) (hb : b < 1024) : isB (bitsA .andNot .i64 (a : Int) (b : Int)) ∧ bitsA .andNot .i64 (a : Int) (b : Int) = ((andNot a b : Nat) : Int) := by
  have h1 := notI_nat ha hb
  have h2 := notI_lt (b := b) ha
  rw [h1]
  exact ⟨⟨by omega, by omega⟩, rfl⟩

end Go.Abs.Label
end

section
/- The label's functions keep their contracts: reasons by the reference; what is taken; idle rules by the reference. -/
open Go.Proofs
set_option maxRecDepth 100000
set_option linter.unusedVariables false
namespace Go.Abs.Label

theorem bit_none (a i : Nat) (ha : a < 9223372036854775808) : (bitsA .and .i64 (shrA .i64 a i) 1 == 0) = !a.testBit i := by
  rw [shr_nat a i ha]
  have h1 : a >>> i < 9223372036854775808 := Nat.lt_of_le_of_lt (Nat.shiftRight_le a i) ha
  have := land_nat (a >>> i) 1 h1 (by omega)
  rw [show ((1 : Int)) = ((1 : Nat) : Int) from rfl, this]
  rw [Nat.testBit]
  simp only [Nat.and_one_is_mod, Nat.one_and_eq_mod_two]
  generalize a >>> i = q
  have hq : q % 2 = 0 ∨ q % 2 = 1 := by omega
  rcases hq with h | h <;> simp [h]
theorem banI_nat (w : Int) (rs : List (List Int × Int)) (i : Nat) : banI w rs (i : Int) = banned w rs i := by unfold banI; rw [Int.toNat_natCast]
theorem gd_of {w : Int} {rs : List (List Int × Int)} (h1 : 1 ≤ w) (h2 : w ≤ 10) (h3 : rs.length ≤ 12) (h4 : ∀ r ∈ rs, ifLong r = false ∧ ifBad w r = false ∧ thenBad w r = false) : Gd w rs := by
  show guildErr w rs = 0
  unfold guildErr
  rw [if_neg (by omega), if_neg (by unfold anyLong; rw [any_no (fun r hr => (h4 r hr).1)]; simp), if_neg (by unfold anyIf; rw [any_no (fun r hr => (h4 r hr).2.1)]; simp), if_neg (by unfold anyThen; rw [any_no (fun r hr => (h4 r hr).2.2)]; simp)]
theorem gd_sub {w : Int} {rs rs2 : List (List Int × Int)} (hg : Gd w rs) (hl : rs2.length ≤ rs.length) (h : ∀ r ∈ rs2, r ∈ rs) : Gd w rs2 := by
  obtain ⟨h1, h2, h3, h4⟩ := guild_spec hg
  refine gd_of h1 h2 (by omega) fun r hr => ?_
  obtain ⟨a, b, c, d⟩ := h4 r (h r hr)
  refine ⟨?_, ?_, ?_⟩
  · unfold ifLong; rw [decide_eq_false_iff_not]; omega
  · unfold ifBad; rw [b]; rfl
  · unfold thenBad outOf; rw [decide_eq_false_iff_not]; omega
theorem without_sub (rs : List (List Int × Int)) (r : Int) : (without rs r).Sublist rs := by
  unfold without
  have h := List.take_append_drop r.toNat rs
  have h2 : (rs.drop (r.toNat + 1)).Sublist (rs.drop r.toNat) := by
    rw [← List.drop_drop]
    exact List.drop_sublist 1 _
  exact ((List.Sublist.refl _).append h2).trans (by rw [h]; exact List.Sublist.refl _)
theorem gd_without {w : Int} {rs : List (List Int × Int)} (hg : Gd w rs) (r : Int) : Gd w (without rs r) := gd_sub hg (without_sub rs r).length_le (fun x hx => (without_sub rs r).subset hx)
end Go.Abs.Label
end

section
/- The label's functions keep their contracts: what is taken; idle rules. -/
open Go.Proofs
set_option maxRecDepth 100000
set_option linter.unusedVariables false
namespace Go.Abs.Label

theorem notI_self {b : Nat} (hb : b < 1024) : andNot b b = 0 := by
  apply Nat.eq_of_testBit_eq
  intro i
  rw [Nat.zero_testBit]
  rcases Nat.lt_or_ge i 10 with h | h
  · rw [notI_test h]; simp
  · have : b.testBit i = false := Nat.testBit_lt_two_pow (Nat.lt_of_lt_of_le hb (by
      have : 2 ^ 10 ≤ 2 ^ i := Nat.pow_le_pow_right (by omega) h
      omega))
    unfold andNot
    rw [Nat.testBit_and, this, Bool.false_and]
def tri (w : Int) (rs : List (List Int × Int)) (b i : Nat) : List (List Int) := (((partsN b).take i).filter (takeG w rs b)).map (fun p => listed p 10)
theorem tri_succ {w : Int} {rs : List (List Int × Int)} {b i : Nat} (hi : i < (partsN b).length) : tri w rs b (i + 1) = tri w rs b i ++ (if takeG w rs b (partsN b)[i] then [listed (partsN b)[i] 10] else []) := by
  unfold tri
  rw [List.take_succ_eq_append_getElem hi, List.filter_append, List.map_append]
  congr 1
  by_cases h : takeG w rs b (partsN b)[i] = true <;> simp [h]
theorem parts_count {b : Nat} (hb : b < 1024) : (partsN b).length ≤ 1024 := by
  unfold partsN
  refine Nat.le_trans (List.length_filter_le _ _) ?_
  rw [List.length_range]
  omega
theorem tri_len {w : Int} {rs : List (List Int × Int)} {b i : Nat} (hb : b < 1024) : (tri w rs b i).length ≤ 1024 := by
  unfold tri
  rw [List.length_map]
  refine Nat.le_trans (List.length_filter_le _ _) ?_
  rw [List.length_take]
  have := parts_count hb
  omega
theorem tri_short {w : Int} {rs : List (List Int × Int)} {b i : Nat} : ∀ y ∈ tri w rs b i, y.length ≤ 10 := by
  intro y hy
  obtain ⟨p, _, rfl⟩ := List.mem_map.1 hy
  exact listed_len p 10

theorem k23 (hG : Good Try.prog (envOf [(42, mkC [v42]), (54, mkC [v48]), (52, mkC [v67]), (62, mkC [v44]), (63, mkC [v68])])) : v23.Kept Try.prog 30 := by
  rintro ⟨w, rs, l, ⟨⟩⟩ hpre k hk
  change Int at w
  change List (List Int × Int) at rs
  change List Int at l
  refine aspec hmix hG Try.func30 tx23 (Eq.mpr (eq23 w rs l k) ?_)
  replace hk : k (.tup [.imm (.int .i64) (takeL w rs l) false, rI (takeErr w rs l)]) [] := hk
  unfold vc23
  obtain ⟨hs, hl⟩ := hpre
  have hl : l.length ≤ 1000 := hl
  refine ⟨⟨hs, hl⟩, ?_⟩
  unfold takeL at hk
  have bad : ∀ e : Int, e ≠ 0 → labelErr w rs l = e → k (.tup [.imm (.int .i64) [] false, rI e]) [] := fun e h0 he => by
    have h1 : takeErr w rs l = e := by unfold takeErr; rw [he, if_pos h0]
    rw [h1, if_neg h0] at hk
    exact hk
  refine br_intro (fun h => bad 6 (by omega) (by simpa [leIs] using h)) (fun h6 => br_intro (fun h => bad 2 (by omega) (by simpa [leIs] using h)) (fun h2 => br_intro (fun h => bad 3 (by omega) (by simpa [leIs] using h)) (fun h3 => ?_)))
  have e := labelErr_cases w rs l h6 h2 h3
  obtain ⟨hg, hin, hb⟩ := label_isB e
  have ez : banI w rs 0 = banned w rs 0 := rfl
  refine ⟨⟨hg, zero_isB⟩, ?_⟩
  rw [ez]
  refine br_intro (fun h => ?_) (fun hz => ?_)
  · have e25 : takeErr w rs l = 25 := by rw [takeErr_spec e, if_pos h]
    rw [e25, if_neg (by omega)] at hk; exact hk
  have e0 : takeErr w rs l = 0 := by rw [takeErr_spec e, if_neg (by simp [hz])]
  rw [e0, if_pos rfl] at hk
  have hbl := bitsL_lt hin
  have ebI : bitsI l = ((bitsL l : Nat) : Int) := rfl
  unfold triesI at hk
  rw [ebI, Int.toNat_natCast] at hk
  rw [ebI]
  generalize bitsL l = b at hk hbl
  have hke : ((partsN b).filter (takeG w rs b)).map (fun i => listed i 10) = tri w rs b (partsN b).length := by unfold tri; rw [List.take_length]
  rw [hke] at hk
  obtain ⟨tl, htl⟩ := parts_head b
  have hpos : 0 < (partsN b).length := by rw [htl]; simp
  refine ⟨trivial, ?_⟩
  have eli : ∀ p : Nat, listI (p : Int) = listed p 10 := fun p => by unfold listI; rw [Int.toNat_natCast]
  refine Loop.upto (fun i => ((b : Int), (((partsN b).getD i 0 : Nat) : Int), (b : Int), w, rs, (b : Int), tri w rs b i, ())) (fun i => True) ((partsN b).length - 1) ?_ trivial ?_ ?_
  · rw [htl]; rfl
  · intro i K hi _ hK
    have hK := hK trivial
    dsimp only
    have hi0 : i < (partsN b).length := by omega
    rw [getD_at hi0]
    obtain ⟨c1, c2⟩ := chain_at hbl i (by omega)
    have hpB : isB ((partsN b)[i] : Int) := ⟨by omega, by omega⟩
    have hne : (((partsN b)[i] : Nat) : Int) ≠ (b : Int) := by omega
    rw [getD_at (show i + 1 < (partsN b).length by omega), tri_succ hi0, ← c1, ← next_eq hbl (by omega)] at hK
    obtain ⟨n1, n2⟩ := notI_int hbl (show (partsN b)[i] < 1024 by omega)
    have htl2 := tri_len (w := w) (rs := rs) (i := i) hbl
    refine ⟨⟨hg, n1⟩, ?_⟩
    rw [n2, banI_nat]
    have et : (!banned w rs (andNot b (partsN b)[i])) = takeG w rs b (partsN b)[i] := rfl
    rw [et]
    refine br_intro (fun h => ⟨hpB, by simp [big]; omega, ?_⟩) (fun h => ?_)
    · rw [if_pos h, ← eli] at hK
      rw [br_beq]
      exact ⟨fun e => absurd e hne, fun _ => ⟨fits64 (by omega) (by omega), hK⟩⟩
    · rw [if_neg (by simp [h]), List.append_nil] at hK
      rw [br_beq]
      exact ⟨fun e => absurd e hne, fun _ => ⟨fits64 (by omega) (by omega), hK⟩⟩
  · intro K _
    dsimp only
    have hi0 : (partsN b).length - 1 < (partsN b).length := by omega
    have hlast := chain_last hi0
    rw [getD_at hi0]
    have ht := tri_succ (w := w) (rs := rs) hi0
    rw [show (partsN b).length - 1 + 1 = (partsN b).length by omega, hlast] at ht
    rw [hlast]
    obtain ⟨n1, n2⟩ := notI_int hbl hbl
    have htl2 := tri_len (w := w) (rs := rs) (i := (partsN b).length - 1) hbl
    refine ⟨⟨hg, n1⟩, ?_⟩
    rw [n2, banI_nat]
    have et : (!banned w rs (andNot b b)) = true := by rw [notI_self hbl, hz]; rfl
    have et2 : takeG w rs b b = true := et
    rw [if_pos et2, ← eli] at ht
    rw [et]
    have hbB : isB ((b : Nat) : Int) := ⟨by omega, by omega⟩
    refine br_intro (fun _ => ⟨hbB, by simp [big]; omega, ?_⟩) (fun h => by cases h)
    rw [br_beq]
    refine ⟨fun _ => ?_, fun e => absurd rfl e⟩
    rw [← ht]
    refine ⟨⟨?_, ?_, fun y hy => ?_⟩, hk⟩
    · show 0 < (tri w rs b (partsN b).length).length
      rw [ht, List.length_append, List.length_singleton]; omega
    · show (tri w rs b (partsN b).length).length ≤ 2000
      have := tri_len (w := w) (rs := rs) (i := (partsN b).length) hbl
      omega
    · have := tri_short y hy
      omega

theorem flat_without (rs : List (List Int × Int)) {r : Int} (h : 0 ≤ r) : List.flatten [rs.take r.toNat, rs.drop (r + 1).toNat] = without rs r := by
  unfold without
  rw [show (r + 1).toNat = r.toNat + 1 by omega]
  simp

theorem k27 (hG : Good Try.prog (envOf [(42, mkC [v42]), (43, mkC [v50]), (66, mkC [v72]), (49, mkC [v73]), (54, mkC [v48]), (53, mkC [v43]), (50, mkC [v57]), (48, mkC [v59])])) : v27.Kept Try.prog 32 := by
  rintro ⟨w, rs, r, ⟨⟩⟩ hpre k hk
  change Int at w
  change List (List Int × Int) at rs
  change Int at r
  refine aspec hmix hG Try.func32 tx27 (Eq.mpr (eq27 w rs r k) ?_)
  replace hk : k (.tup [.bool (idleB w rs r), rI (idleErr w rs r)]) [] := hk
  unfold vc27
  have hs : smallG rs := hpre
  unfold idleB at hk
  refine ⟨⟨hs, by show (0 : Nat) ≤ 1000; omega⟩, ?_⟩
  have bad : ∀ e : Int, e ≠ 0 → labelErr w rs [] = e → k (.tup [.bool false, rI e]) [] := fun e h0 he => by
    rw [nil_ok] at he
    have h1 : idleErr w rs r = e := by unfold idleErr; rw [he, if_pos h0]
    have h2 : decide (e = 0) = false := by simpa using h0
    rw [h1, h2, Bool.false_and] at hk
    exact hk
  refine br_intro (fun h => bad 6 (by omega) (by simpa [leIs] using h)) (fun h6 => br_intro (fun h => bad 2 (by omega) (by simpa [leIs] using h)) (fun h2 => br_intro (fun h => bad 3 (by omega) (by simpa [leIs] using h)) (fun h3 => ?_)))
  have h := labelErr_cases w rs [] h6 h2 h3
  rw [nil_ok] at h
  have hg : Gd w rs := h
  obtain ⟨hw1, hw2, hrl, _⟩ := guild_spec hg
  have ew : idleErr w rs r = if 0 ≤ r ∧ r < rs.length then 0 else 2 := by unfold idleErr; rw [if_neg (by omega)]
  rw [ew] at hk
  refine ⟨fits64 (by omega) (by omega), by show (1 : Nat) ≤ big60; decide, ?_⟩
  rw [Bool.not_not, anyOut_one]
  refine br_intro (fun g => ?_) (fun g => ?_)
  · simp only [outOf, decide_eq_true_eq] at g
    rw [if_neg (by omega)] at hk
    exact hk
  simp only [outOf, decide_eq_false_iff_not] at g
  have hr0 : 0 ≤ r := by omega
  have hr1 : r.toNat < rs.length := by omega
  rw [if_pos (by omega), show decide ((0 : Int) = 0) = true from rfl, Bool.true_and] at hk
  have hgw := gd_without hg r
  have hif := gd_if hg (List.getElem_mem hr1)
  have hth := gd_then hg _ (List.getElem_mem hr1)
  unfold idleOf at hk
  rw [getD_at hr1] at hk
  have hbB := isB_bits hif.2
  refine ⟨⟨hr0, hr1⟩, ⟨hr0, by omega⟩, fits64 (by omega) (by omega), ⟨by omega, by omega⟩, ⟨by show (2 : Nat) ≤ 100; omega, fun y hy => ?_⟩, ?_⟩
  · rcases List.mem_cons.1 hy with h | h
    · have h5 : (rs.take r.toNat).length ≤ 1000 := by rw [List.length_take]; omega
      rw [h]; exact h5
    · have h := List.mem_singleton.1 h
      have h5 : (rs.drop (r + 1).toNat).length ≤ 1000 := by rw [List.length_drop]; omega
      rw [h]; exact h5
  have hgf : Gd w (List.flatten [rs.take r.toNat, rs.drop (r + 1).toNat]) := by rw [flat_without rs hr0]; exact hgw
  have hfB : isB (fromI w (List.flatten [rs.take r.toNat, rs.drop (r + 1).toNat]) (bitsI rs[r.toNat].1)) := by rw [flat_without rs hr0]; exact gd_isB hgw hbB
  rw [br_decide]
  have g3 : ¬ rs[r.toNat].2 < 0 → 0 ≤ rs[r.toNat].2 := fun h => by omega
  refine ⟨fun g2 => ⟨⟨by show rs[r.toNat].1.length ≤ 1000; omega, hif.2⟩, ⟨hgf, hbB⟩, ?_⟩, fun g2 => ⟨⟨by show rs[r.toNat].1.length ≤ 1000; omega, hif.2⟩, ⟨hgf, hbB⟩, ⟨zero_isB, g3 g2, hth⟩, ⟨hfB, andI_isB zero_isB (g3 g2) hth⟩, ?_⟩⟩
  · rw [if_pos g2] at hk
    rw [flat_without rs hr0]
    exact hk
  · rw [if_neg g2] at hk
    rw [flat_without rs hr0]
    have eh : hasI (fromI w (without rs r) (bitsI rs[r.toNat].1)) (andI 0 rs[r.toNat].2) = (clo w (without rs r) (bitsL rs[r.toNat].1)).testBit rs[r.toNat].2.toNat := by
      unfold hasI andI fromI bitsI
      rw [Int.toNat_natCast, Int.toNat_natCast, Int.toNat_natCast]
      exact has_one
    rw [eh]
    exact hk
end Go.Abs.Label
end

section
/- Conditions and their equations, printed by a program. -/
open Go.Proofs
set_option maxRecDepth 100000
set_option linter.unusedVariables false
namespace Go.Abs.Label
def vc33 (w : Int) (rs : List (List Int × Int)) (l : List Int) (x : Int) (s : List Int) (k : AVal → List Cont → Prop) : Prop :=
  (Go.Abs.Label.v42.p (w, (rs, (l, ())))) ∧
  br ((Go.Abs.Label.leIs w rs l (6 : Int)))
   ((k (Go.Abs.AVal.int Go.IntKind.i64 (6 : Int)) []))
   (br ((Go.Abs.Label.leIs w rs l (2 : Int)))
    ((k (Go.Abs.AVal.int Go.IntKind.i64 (2 : Int)) []))
    (br ((Go.Abs.Label.leIs w rs l (3 : Int)))
     ((k (Go.Abs.AVal.int Go.IntKind.i64 (3 : Int)) []))
     ((Go.Abs.fitsK Go.IntKind.i64 (w - (1 : Int))) ∧
     (Go.Abs.Label.v50.p ((-(1 : Int) : Int), ((w - (1 : Int)), ((x :: ([] : List Int)), ())))) ∧
     br ((Bool.not (Bool.not (Go.Abs.Label.anyOut (-(1 : Int) : Int) (w - (1 : Int)) (x :: ([] : List Int))))))
      ((k (Go.Abs.AVal.int Go.IntKind.i64 (3 : Int)) []))
      ((Go.Abs.fitsK Go.IntKind.i64 ((((List.length rs) : Nat) : Int) - (1 : Int))) ∧
      (Go.Abs.Label.v50.p ((0 : Int), (((((List.length rs) : Nat) : Int) - (1 : Int)), (s, ())))) ∧
      br ((Bool.not (Bool.not (Go.Abs.Label.anyOut (0 : Int) ((((List.length rs) : Nat) : Int) - (1 : Int)) s))))
       ((k (Go.Abs.AVal.int Go.IntKind.i64 (2 : Int)) []))
       (Go.Abs.Loop (σ := (Int × ((List Int) × (Int × ((List ((List Int) × Int)) × ((List Int) × (Int × (Int × (Int × Unit))))))))) (fun K6 x6 =>
         br ((decide (x6.2.2.2.2.2.2.1 < x6.2.2.2.2.2.1)))
          (∃ h8 : (((0 : Int) ≤ x6.2.2.2.2.2.2.1) ∧ ((Int.toNat x6.2.2.2.2.2.2.1) < (List.length x6.2.2.2.2.1))),
          ∃ h9 : (((0 : Int) ≤ (x6.2.2.2.2.1[(Int.toNat x6.2.2.2.2.2.2.1)]'h8.2)) ∧ ((Int.toNat (x6.2.2.2.2.1[(Int.toNat x6.2.2.2.2.2.2.1)]'h8.2)) < (List.length x6.2.2.2.1))),
          br (((decide ((x6.2.2.2.1[(Int.toNat (x6.2.2.2.2.1[(Int.toNat x6.2.2.2.2.2.2.1)]'h8.2))]'h9.2).2 < (0 : Int))) == Bool.true))
           (br (((decide (x6.1 ≥ (0 : Int))) == Bool.false))
            ((Go.Abs.fitsK Go.IntKind.i64 ((((List.length x6.2.1) : Nat) : Int) - (1 : Int))) ∧
            br ((decide (x6.2.2.2.2.2.2.1 < ((((List.length x6.2.1) : Nat) : Int) - (1 : Int)))))
             (br ((decide (x6.2.2.2.2.2.2.1 < ((((List.length x6.2.1) : Nat) : Int) - (1 : Int)))))
              ((k (Go.Abs.AVal.int Go.IntKind.i64 (16 : Int)) []))
              (br ((decide ((x6.2.2.2.1[(Int.toNat (x6.2.2.2.2.1[(Int.toNat x6.2.2.2.2.2.2.1)]'h8.2))]'h9.2).2 < (0 : Int))))
               ((k (Go.Abs.AVal.int Go.IntKind.i64 (0 : Int)) []))
               ((Go.Abs.Label.v57.p (x6.2.2.2.2.2.2.2.1, ((x6.2.2.2.1[(Int.toNat (x6.2.2.2.2.1[(Int.toNat x6.2.2.2.2.2.2.1)]'h8.2))]'h9.2).2, ()))) ∧
               (Go.Abs.fitsK Go.IntKind.i64 (x6.2.2.2.2.2.2.1 + (1 : Int))) ∧
               (K6 (x6.1, (x6.2.1, (x6.2.2.1, (x6.2.2.2.1, (x6.2.2.2.2.1, (x6.2.2.2.2.2.1, ((x6.2.2.2.2.2.2.1 + (1 : Int)), ((Go.Abs.Label.andI x6.2.2.2.2.2.2.2.1 (x6.2.2.2.1[(Int.toNat (x6.2.2.2.2.1[(Int.toNat x6.2.2.2.2.2.2.1)]'h8.2))]'h9.2).2), ()))))))))))))
             ((Go.Abs.Label.v73.p ((x6.2.2.2.1[(Int.toNat (x6.2.2.2.2.1[(Int.toNat x6.2.2.2.2.2.2.1)]'h8.2))]'h9.2).1, ())) ∧
             (Go.Abs.Label.v59.p (x6.2.2.2.2.2.2.2.1, ((Go.Abs.Label.bitsI (x6.2.2.2.1[(Int.toNat (x6.2.2.2.2.1[(Int.toNat x6.2.2.2.2.2.2.1)]'h8.2))]'h9.2).1), ()))) ∧
             br ((Bool.not (Go.Abs.Label.hasI x6.2.2.2.2.2.2.2.1 (Go.Abs.Label.bitsI (x6.2.2.2.1[(Int.toNat (x6.2.2.2.2.1[(Int.toNat x6.2.2.2.2.2.2.1)]'h8.2))]'h9.2).1))))
              ((k (Go.Abs.AVal.int Go.IntKind.i64 (16 : Int)) []))
              (br ((decide ((x6.2.2.2.1[(Int.toNat (x6.2.2.2.2.1[(Int.toNat x6.2.2.2.2.2.2.1)]'h8.2))]'h9.2).2 < (0 : Int))))
               ((k (Go.Abs.AVal.int Go.IntKind.i64 (0 : Int)) []))
               ((Go.Abs.Label.v57.p (x6.2.2.2.2.2.2.2.1, ((x6.2.2.2.1[(Int.toNat (x6.2.2.2.2.1[(Int.toNat x6.2.2.2.2.2.2.1)]'h8.2))]'h9.2).2, ()))) ∧
               (Go.Abs.fitsK Go.IntKind.i64 (x6.2.2.2.2.2.2.1 + (1 : Int))) ∧
               (K6 (x6.1, (x6.2.1, (x6.2.2.1, (x6.2.2.2.1, (x6.2.2.2.2.1, (x6.2.2.2.2.2.1, ((x6.2.2.2.2.2.2.1 + (1 : Int)), ((Go.Abs.Label.andI x6.2.2.2.2.2.2.2.1 (x6.2.2.2.1[(Int.toNat (x6.2.2.2.2.1[(Int.toNat x6.2.2.2.2.2.2.1)]'h8.2))]'h9.2).2), ())))))))))))))
            ((k (Go.Abs.AVal.int Go.IntKind.i64 (16 : Int)) [])))
           ((Go.Abs.Label.v73.p ((x6.2.2.2.1[(Int.toNat (x6.2.2.2.2.1[(Int.toNat x6.2.2.2.2.2.2.1)]'h8.2))]'h9.2).1, ())) ∧
           (Go.Abs.Label.v59.p (x6.2.2.2.2.2.2.2.1, ((Go.Abs.Label.bitsI (x6.2.2.2.1[(Int.toNat (x6.2.2.2.2.1[(Int.toNat x6.2.2.2.2.2.2.1)]'h8.2))]'h9.2).1), ()))) ∧
           br ((Bool.not (Go.Abs.Label.hasI x6.2.2.2.2.2.2.2.1 (Go.Abs.Label.bitsI (x6.2.2.2.1[(Int.toNat (x6.2.2.2.2.1[(Int.toNat x6.2.2.2.2.2.2.1)]'h8.2))]'h9.2).1))))
            ((k (Go.Abs.AVal.int Go.IntKind.i64 (16 : Int)) []))
            (br ((decide ((x6.2.2.2.1[(Int.toNat (x6.2.2.2.2.1[(Int.toNat x6.2.2.2.2.2.2.1)]'h8.2))]'h9.2).2 < (0 : Int))))
             ((k (Go.Abs.AVal.int Go.IntKind.i64 (0 : Int)) []))
             ((Go.Abs.Label.v57.p (x6.2.2.2.2.2.2.2.1, ((x6.2.2.2.1[(Int.toNat (x6.2.2.2.2.1[(Int.toNat x6.2.2.2.2.2.2.1)]'h8.2))]'h9.2).2, ()))) ∧
             (Go.Abs.fitsK Go.IntKind.i64 (x6.2.2.2.2.2.2.1 + (1 : Int))) ∧
             (K6 (x6.1, (x6.2.1, (x6.2.2.1, (x6.2.2.2.1, (x6.2.2.2.2.1, (x6.2.2.2.2.2.1, ((x6.2.2.2.2.2.2.1 + (1 : Int)), ((Go.Abs.Label.andI x6.2.2.2.2.2.2.2.1 (x6.2.2.2.1[(Int.toNat (x6.2.2.2.2.1[(Int.toNat x6.2.2.2.2.2.2.1)]'h8.2))]'h9.2).2), ())))))))))))))
          (br (((decide (x6.1 < (0 : Int))) == Bool.false))
           ((Go.Abs.Label.v57.p ((0 : Int), (x6.1, ()))) ∧
           (Go.Abs.Label.v59.p (x6.2.2.2.2.2.2.2.1, ((Go.Abs.Label.andI (0 : Int) x6.1), ()))) ∧
           br ((Bool.not (Go.Abs.Label.hasI x6.2.2.2.2.2.2.2.1 (Go.Abs.Label.andI (0 : Int) x6.1))))
            ((k (Go.Abs.AVal.int Go.IntKind.i64 (14 : Int)) []))
            ((k (Go.Abs.AVal.int Go.IntKind.i64 (0 : Int)) [])))
           ((k (Go.Abs.AVal.int Go.IntKind.i64 (14 : Int)) [])))) ((x, (s, (w, (rs, (s, ((((List.length s) : Nat) : Int), ((0 : Int), ((Go.Abs.Label.bitsI l), ()))))))))))))))
theorem eq33 (w : Int) (rs : List (List Int × Int)) (l : List Int) (x : Int) (s : List Int) (k : AVal → List Cont → Prop) : awpF (envOf [(42, mkC [v42]), (43, mkC [v50]), (49, mkC [v73]), (48, mkC [v59]), (50, mkC [v57])]) Try.prog kt 16 false Try.f16 (v33.args (w, rs, l, x, s, ())) (v33.conts (w, rs, l, x, s, ())) k = vc33 w rs l x s k := by kernel_rfl
theorem tx33 : (Try.f16.body.map Code.textsOk).getD true = true := by kernel_rfl

def vc40 (w : Int) (rs : List (List Int × Int)) (l : List Int) (x : Int) (s : List Int) (k : AVal → List Cont → Prop) : Prop :=
  (Go.Abs.Label.v45.p (w, (rs, (l, ())))) ∧
  br (((Go.Abs.Label.labelErr w rs l) != (0 : Int)))
   ((Go.Abs.Label.v45.p (w, (rs, (l, ())))) ∧
   (k (Go.Abs.AVal.int Go.IntKind.i64 (Go.Abs.Label.labelErr w rs l)) []))
   (br (((decide (x < (-(1 : Int) : Int))) == Bool.false))
    (br ((decide (x ≥ w)))
     ((k (Go.Abs.AVal.int Go.IntKind.i64 (3 : Int)) []))
     (Go.Abs.Loop (σ := ((List Int) × (Int × ((List Int) × (Int × (Int × ((List ((List Int) × Int)) × Unit))))))) (fun K6 x6 =>
       br ((decide (x6.2.2.2.1 < (((List.length x6.2.2.1) : Nat) : Int))))
        (∃ h8 : (((0 : Int) ≤ x6.2.2.2.1) ∧ ((Int.toNat x6.2.2.2.1) < (List.length x6.2.2.1))),
        br (((decide ((x6.2.2.1[(Int.toNat x6.2.2.2.1)]'h8.2) < (0 : Int))) == Bool.false))
         (∃ h9 : (((0 : Int) ≤ x6.2.2.2.1) ∧ ((Int.toNat x6.2.2.2.1) < (List.length x6.2.2.1))),
         br ((decide ((x6.2.2.1[(Int.toNat x6.2.2.2.1)]'h9.2) ≥ (((List.length x6.2.2.2.2.2.1) : Nat) : Int))))
          ((k (Go.Abs.AVal.int Go.IntKind.i64 (2 : Int)) []))
          ((Go.Abs.fitsK Go.IntKind.i64 (x6.2.2.2.1 + (1 : Int))) ∧
          (K6 (x6.1, (x6.2.1, (x6.2.2.1, ((x6.2.2.2.1 + (1 : Int)), (x6.2.2.2.2.1, (x6.2.2.2.2.2.1, ())))))))))
         ((k (Go.Abs.AVal.int Go.IntKind.i64 (2 : Int)) [])))
        ((Go.Abs.Label.v47.p (x6.1, ())) ∧
        Go.Abs.Loop (σ := (Int × ((List Int) × (Int × (Bool × (Int × (Int × ((List ((List Int) × Int)) × Unit)))))))) (fun K8 x8 =>
          br ((decide (x8.2.2.2.2.1 < (((List.length x8.2.1) : Nat) : Int))))
           (∃ h10 : (((0 : Int) ≤ x8.2.2.2.2.1) ∧ ((Int.toNat x8.2.2.2.2.1) < (List.length x8.2.1))),
           ∃ h11 : (((0 : Int) ≤ (x8.2.1[(Int.toNat x8.2.2.2.2.1)]'h10.2)) ∧ ((Int.toNat (x8.2.1[(Int.toNat x8.2.2.2.2.1)]'h10.2)) < (List.length x8.2.2.2.2.2.2.1))),
           (Go.Abs.Label.v47.p ((x8.2.2.2.2.2.2.1[(Int.toNat (x8.2.1[(Int.toNat x8.2.2.2.2.1)]'h10.2))]'h11.2).1, ())) ∧
           br (((decide ((x8.2.2.2.2.2.2.1[(Int.toNat (x8.2.1[(Int.toNat x8.2.2.2.2.1)]'h10.2))]'h11.2).2 < (0 : Int))) == Bool.true))
            (br (((decide (x8.1 ≥ (0 : Int))) == Bool.false))
             ((Go.Abs.fitsK Go.IntKind.i64 ((((List.length x8.2.1) : Nat) : Int) - (1 : Int))) ∧
             br (((decide (x8.2.2.2.2.1 < ((((List.length x8.2.1) : Nat) : Int) - (1 : Int)))) == Bool.false))
              (br (((Go.Abs.bitsA Go.BinOp.and Go.IntKind.i64 (Go.Abs.Label.bitsI (x8.2.2.2.2.2.2.1[(Int.toNat (x8.2.1[(Int.toNat x8.2.2.2.2.1)]'h10.2))]'h11.2).1) x8.2.2.1) != (Go.Abs.Label.bitsI (x8.2.2.2.2.2.2.1[(Int.toNat (x8.2.1[(Int.toNat x8.2.2.2.2.1)]'h10.2))]'h11.2).1)))
               ((k (Go.Abs.AVal.int Go.IntKind.i64 (16 : Int)) []))
               (br ((decide ((x8.2.2.2.2.2.2.1[(Int.toNat (x8.2.1[(Int.toNat x8.2.2.2.2.1)]'h10.2))]'h11.2).2 < (0 : Int))))
                ((Go.Abs.fitsK Go.IntKind.i64 (x8.2.2.2.2.1 + (1 : Int))) ∧
                (K8 (x8.1, (x8.2.1, (x8.2.2.1, (Bool.true, ((x8.2.2.2.2.1 + (1 : Int)), (x8.2.2.2.2.2.1, (x8.2.2.2.2.2.2.1, ())))))))))
                (((0 : Int) ≤ (x8.2.2.2.2.2.2.1[(Int.toNat (x8.2.1[(Int.toNat x8.2.2.2.2.1)]'h10.2))]'h11.2).2) ∧
                (Go.Abs.fitsK Go.IntKind.i64 (x8.2.2.2.2.1 + (1 : Int))) ∧
                (K8 (x8.1, (x8.2.1, ((Go.Abs.bitsA Go.BinOp.or Go.IntKind.i64 x8.2.2.1 (Go.Abs.shlA Go.IntKind.i64 (1 : Int) (x8.2.2.2.2.2.2.1[(Int.toNat (x8.2.1[(Int.toNat x8.2.2.2.2.1)]'h10.2))]'h11.2).2)), (x8.2.2.2.1, ((x8.2.2.2.2.1 + (1 : Int)), (x8.2.2.2.2.2.1, (x8.2.2.2.2.2.2.1, ())))))))))))
              ((k (Go.Abs.AVal.int Go.IntKind.i64 (16 : Int)) [])))
             ((k (Go.Abs.AVal.int Go.IntKind.i64 (16 : Int)) [])))
            (br (((Go.Abs.bitsA Go.BinOp.and Go.IntKind.i64 (Go.Abs.Label.bitsI (x8.2.2.2.2.2.2.1[(Int.toNat (x8.2.1[(Int.toNat x8.2.2.2.2.1)]'h10.2))]'h11.2).1) x8.2.2.1) != (Go.Abs.Label.bitsI (x8.2.2.2.2.2.2.1[(Int.toNat (x8.2.1[(Int.toNat x8.2.2.2.2.1)]'h10.2))]'h11.2).1)))
             ((k (Go.Abs.AVal.int Go.IntKind.i64 (16 : Int)) []))
             (br ((decide ((x8.2.2.2.2.2.2.1[(Int.toNat (x8.2.1[(Int.toNat x8.2.2.2.2.1)]'h10.2))]'h11.2).2 < (0 : Int))))
              ((Go.Abs.fitsK Go.IntKind.i64 (x8.2.2.2.2.1 + (1 : Int))) ∧
              (K8 (x8.1, (x8.2.1, (x8.2.2.1, (Bool.true, ((x8.2.2.2.2.1 + (1 : Int)), (x8.2.2.2.2.2.1, (x8.2.2.2.2.2.2.1, ())))))))))
              (((0 : Int) ≤ (x8.2.2.2.2.2.2.1[(Int.toNat (x8.2.1[(Int.toNat x8.2.2.2.2.1)]'h10.2))]'h11.2).2) ∧
              (Go.Abs.fitsK Go.IntKind.i64 (x8.2.2.2.2.1 + (1 : Int))) ∧
              (K8 (x8.1, (x8.2.1, ((Go.Abs.bitsA Go.BinOp.or Go.IntKind.i64 x8.2.2.1 (Go.Abs.shlA Go.IntKind.i64 (1 : Int) (x8.2.2.2.2.2.2.1[(Int.toNat (x8.2.1[(Int.toNat x8.2.2.2.2.1)]'h10.2))]'h11.2).2)), (x8.2.2.2.1, ((x8.2.2.2.2.1 + (1 : Int)), (x8.2.2.2.2.2.1, (x8.2.2.2.2.2.2.1, ()))))))))))))
           (br (((decide (x8.1 < (0 : Int))) == Bool.true))
            (br (((Bool.not x8.2.2.2.1) == Bool.false))
             (br (((decide (x8.1 ≥ (0 : Int))) == Bool.true))
              (((0 : Int) ≤ x8.1) ∧
              br (((Go.Abs.bitsA Go.BinOp.and Go.IntKind.i64 (Go.Abs.shrA Go.IntKind.i64 x8.2.2.1 x8.1) (1 : Int)) == (0 : Int)))
               ((k (Go.Abs.AVal.int Go.IntKind.i64 (14 : Int)) []))
               ((k (Go.Abs.AVal.int Go.IntKind.i64 (0 : Int)) [])))
              ((k (Go.Abs.AVal.int Go.IntKind.i64 (0 : Int)) [])))
             ((k (Go.Abs.AVal.int Go.IntKind.i64 (14 : Int)) [])))
            (br (((decide (x8.1 ≥ (0 : Int))) == Bool.true))
             (((0 : Int) ≤ x8.1) ∧
             br (((Go.Abs.bitsA Go.BinOp.and Go.IntKind.i64 (Go.Abs.shrA Go.IntKind.i64 x8.2.2.1 x8.1) (1 : Int)) == (0 : Int)))
              ((k (Go.Abs.AVal.int Go.IntKind.i64 (14 : Int)) []))
              ((k (Go.Abs.AVal.int Go.IntKind.i64 (0 : Int)) [])))
             ((k (Go.Abs.AVal.int Go.IntKind.i64 (0 : Int)) []))))) ((x6.2.1, (x6.2.2.1, ((Go.Abs.Label.bitsI x6.1), (Bool.false, ((0 : Int), (x6.2.2.2.2.1, (x6.2.2.2.2.2.1, ())))))))))) ((l, (x, (s, ((0 : Int), (w, (rs, ())))))))))
    ((k (Go.Abs.AVal.int Go.IntKind.i64 (3 : Int)) [])))
theorem eq40 (w : Int) (rs : List (List Int × Int)) (l : List Int) (x : Int) (s : List Int) (k : AVal → List Cont → Prop) : awpF (envOf [(45, mkC [v45]), (25, mkC [v47])]) Try.prog kt 17 false Try.f17 (v40.args (w, rs, l, x, s, ())) (v40.conts (w, rs, l, x, s, ())) k = vc40 w rs l x s k := by kernel_rfl
theorem tx40 : (Try.f17.body.map Code.textsOk).getD true = true := by kernel_rfl

end Go.Abs.Label
end

section
/- The label's functions keep their contracts: given steps. -/
open Go.Proofs
set_option maxRecDepth 100000
set_option linter.unusedVariables false
namespace Go.Abs.Label

theorem hasI_sub (c : Nat) (l : List Int) : hasI (c : Int) (bitsI l) = subB (bitsL l) c := by
  unfold hasI bitsI
  rw [Int.toNat_natCast, Int.toNat_natCast]
theorem hasI_one (c : Nat) (t : Int) : hasI (c : Int) (andI 0 t) = c.testBit t.toNat := by
  unfold hasI andI
  rw [Int.toNat_natCast, Int.toNat_natCast]
  exact has_one
theorem andI_nat (c : Nat) (t : Int) : andI (c : Int) t = ((c ||| 2 ^ t.toNat : Nat) : Int) := by
  unfold andI
  rw [Int.toNat_natCast]

theorem goS_cons {rs : List (List Int × Int)} {x t : Int} {r : List Int} {c : Nat} {R : List Int × Int} (hR : ruleAt rs t = R) {n : Prop} [Decidable n] (hn : r ≠ [] ↔ n) :
    goS rs x (t :: r) c = if (R.2 < 0 ∧ (0 ≤ x ∨ n)) ∨ subB (bitsL R.1) c = false then 16 else if R.2 < 0 then 0 else goS rs x r (c ||| 2 ^ R.2.toNat) := by
  subst hR
  simp only [goS, hn]

theorem k33 (hG : Good Try.prog (envOf [(42, mkC [v42]), (43, mkC [v50]), (49, mkC [v73]), (48, mkC [v59]), (50, mkC [v57])])) : v33.Kept Try.prog 16 := by
  rintro ⟨w, rs, l, x, s, ⟨⟩⟩ hpre k hk
  change Int at w
  change List (List Int × Int) at rs
  change List Int at l
  change Int at x
  change List Int at s
  refine aspec hmix hG Try.func16 tx33 (Eq.mpr (eq33 w rs l x s k) ?_)
  replace hk : k (rI (chkS w rs l x s)) [] := hk
  unfold vc33
  obtain ⟨hs, hl, hsl⟩ := hpre
  have hl : l.length ≤ 1000 := hl
  have hsl : s.length ≤ 1000 := hsl
  refine ⟨⟨hs, hl⟩, ?_⟩
  unfold chkS at hk
  have bad : ∀ e : Int, e ≠ 0 → labelErr w rs l = e → k (rI e) [] := fun e h0 he => by
    rw [he, if_pos h0] at hk
    exact hk
  refine br_intro (fun h => bad 6 (by omega) (by simpa [leIs] using h)) (fun h6 => br_intro (fun h => bad 2 (by omega) (by simpa [leIs] using h)) (fun h2 => br_intro (fun h => bad 3 (by omega) (by simpa [leIs] using h)) (fun h3 => ?_)))
  have e := labelErr_cases w rs l h6 h2 h3
  obtain ⟨hg, hin, hb⟩ := label_isB e
  obtain ⟨hw1, hw2, hrl, _⟩ := guild_spec hg
  rw [if_neg (by omega)] at hk
  refine ⟨fits64 (by omega) (by omega), by show (1 : Nat) ≤ big60; decide, ?_⟩
  rw [Bool.not_not, anyOut_one]
  refine br_intro (fun h => by rw [if_pos h] at hk; exact hk) (fun hx => ?_)
  rw [if_neg (by simp [hx])] at hk
  simp only [outOf, decide_eq_false_iff_not] at hx
  refine ⟨fits64 (by omega) (by omega), by show s.length ≤ big60; simp only [big60]; omega, ?_⟩
  have ea : anyOut 0 ((rs.length : Int) - 1) s = s.any (stepBad rs) := rfl
  rw [Bool.not_not, ea]
  refine br_intro (fun h => by rw [if_pos h] at hk; exact hk) (fun hst => ?_)
  rw [if_neg (by simp [hst])] at hk
  have hst : ∀ t ∈ s, 0 ≤ t ∧ t < (rs.length : Int) := fun t ht => by
    have := List.any_eq_false.1 hst t ht
    unfold stepBad outOf at this
    simp only [decide_eq_true_eq] at this
    omega
  have hbl := bitsL_lt hin
  have hok := gd_then hg
  refine Loop.intro (fun y => ∃ (i c : Nat), y = (x, s, w, rs, s, ((s.length : Nat) : Int), (i : Int), (c : Int), ()) ∧ i ≤ s.length ∧ c < 1024 ∧ goS rs x (s.drop i) c = goS rs x s (bitsL l)) (fun y => s.length - y.2.2.2.2.2.2.1.toNat) ?_ ⟨0, bitsL l, rfl, by omega, hbl, rfl⟩
  rintro y K ⟨i, c, rfl, hi, hc, he⟩ hK
  dsimp only
  have hcB : isB (c : Int) := ⟨by omega, by omega⟩
  rw [br_decide]
  refine ⟨fun g => ?_, fun g => ?_⟩
  · have hi2 : i < s.length := by omega
    obtain ⟨ht0, ht1⟩ := hst _ (List.getElem_mem hi2)
    have htn : s[i].toNat < rs.length := by omega
    have hif := gd_if hg (List.getElem_mem htn)
    have hth := hok _ (List.getElem_mem htn)
    have hne : s.drop (i + 1) ≠ [] ↔ i + 1 < s.length := by
      rw [← List.length_pos_iff, List.length_drop]; omega
    have hR : ruleAt rs s[i] = rs[s[i].toNat] := getD_at htn
    rw [List.drop_eq_getElem_cons hi2, goS_cons hR hne] at he
    simp only [Int.toNat_natCast]
    refine ⟨⟨by omega, hi2⟩, ⟨ht0, htn⟩, ?_⟩
    have k16 : ((rs[s[i].toNat].2 < 0 ∧ (0 ≤ x ∨ i + 1 < s.length)) ∨ subB (bitsL rs[s[i].toNat].1) c = false) → k (rI 16) [] := fun h => by
      rw [if_pos h] at he
      rw [← he] at hk
      exact hk
    have k0 : ¬ ((rs[s[i].toNat].2 < 0 ∧ (0 ≤ x ∨ i + 1 < s.length)) ∨ subB (bitsL rs[s[i].toNat].1) c = false) → rs[s[i].toNat].2 < 0 → k (rI 0) [] := fun h h2 => by
      rw [if_neg h, if_pos h2] at he
      rw [← he] at hk
      exact hk
    have kK : ¬ ((rs[s[i].toNat].2 < 0 ∧ (0 ≤ x ∨ i + 1 < s.length)) ∨ subB (bitsL rs[s[i].toNat].1) c = false) → ¬ rs[s[i].toNat].2 < 0 → K (x, s, w, rs, s, ((s.length : Nat) : Int), (i : Int) + 1, andI (c : Int) rs[s[i].toNat].2, ()) := fun h h2 => by
      rw [if_neg h, if_neg h2] at he
      refine hK _ ⟨i + 1, c ||| 2 ^ rs[s[i].toNat].2.toNat, by rw [andI_nat]; rfl, by omega, or_lt hc (by omega), he⟩ ?_
      dsimp only
      omega
    have sub : ∀ (P : Prop), (subB (bitsL rs[s[i].toNat].1) c = true → P) → (v73.p (rs[s[i].toNat].1, ())) ∧ (v59.p ((c : Int), ((bitsI rs[s[i].toNat].1), ()))) ∧ br (Bool.not (hasI (c : Int) (bitsI rs[s[i].toNat].1))) (k (rI 16) []) P := fun P hP => by
      refine ⟨⟨by show rs[s[i].toNat].1.length ≤ 1000; omega, hif.2⟩, ⟨hcB, isB_bits hif.2⟩, ?_⟩
      rw [hasI_sub, br_not]
      exact ⟨fun h => k16 (.inr h), hP⟩
    rw [br_true]
    refine ⟨fun g1 => ?_, fun g1 => ?_⟩
    · rw [br_false]
      refine ⟨fun g2 => ⟨fits64 (by omega) (by omega), ?_⟩, fun g2 => k16 (.inl ⟨g1, .inl (by omega)⟩)⟩
      rw [br_decide]
      refine ⟨fun g3 => ?_, fun g3 => ?_⟩
      · rw [br_decide]
        exact ⟨fun _ => k16 (.inl ⟨g1, .inr (by omega)⟩), fun h => absurd g3 h⟩
      · refine sub _ (fun h => ?_)
        rw [br_decide]
        have hn : ¬ ((rs[s[i].toNat].2 < 0 ∧ (0 ≤ x ∨ i + 1 < s.length)) ∨ subB (bitsL rs[s[i].toNat].1) c = false) := by
          rw [h]; simp; omega
        exact ⟨fun h2 => k0 hn h2, fun h2 => absurd g1 h2⟩
    · refine sub _ (fun h => ?_)
      rw [br_decide]
      have hn : ¬ ((rs[s[i].toNat].2 < 0 ∧ (0 ≤ x ∨ i + 1 < s.length)) ∨ subB (bitsL rs[s[i].toNat].1) c = false) := by
        rw [h]; simp; omega
      have g2 : 0 ≤ rs[s[i].toNat].2 := by omega
      exact ⟨fun h2 => absurd h2 g1, fun h2 => ⟨⟨hcB, g2, hth⟩, fits64 (by omega) (by omega), kK hn h2⟩⟩
  · have e0 : s.drop i = [] := List.drop_eq_nil_of_le (by omega)
    rw [e0] at he
    simp only [goS] at he
    rw [← he] at hk
    rw [br_false]
    refine ⟨fun g2 => ?_, fun g2 => by rw [if_pos (.inl g2)] at hk; exact hk⟩
    have g3 : 0 ≤ x := by omega
    have g4 : x ≤ 9 := by omega
    refine ⟨⟨zero_isB, g3, g4⟩, ⟨hcB, andI_isB zero_isB g3 g4⟩, ?_⟩
    rw [hasI_one, br_not]
    refine ⟨fun h => by rw [if_pos (.inr h)] at hk; exact hk, fun h => ?_⟩
    rw [if_neg (by rw [h]; simp; omega)] at hk
    exact hk
end Go.Abs.Label
end

section
/- The label's functions keep their contracts: given steps by the reference. -/
open Go.Proofs
set_option maxRecDepth 100000
set_option linter.unusedVariables false
namespace Go.Abs.Label

theorem and_ne_nat {a : List Int} {c : Nat} (hc : c < 1024) (ha : inL 0 9 a) : (bitsA .and .i64 (bitsI a) (c : Int) != bitsI a) = Bool.not (subB (bitsL a) c) := by
  have h := and_sub hc ha
  show Bool.not (bitsA .and .i64 (bitsI a) (c : Int) == bitsI a) = _
  rw [h]

theorem k40 (hG : Good Try.prog (envOf [(45, mkC [v45]), (25, mkC [v47])])) : v40.Kept Try.prog 17 := by
  rintro ⟨w, rs, l, x, s, ⟨⟩⟩ hpre k hk
  change Int at w
  change List (List Int × Int) at rs
  change List Int at l
  change Int at x
  change List Int at s
  refine aspec hmix hG Try.func17 tx40 (Eq.mpr (eq40 w rs l x s k) ?_)
  replace hk : k (rI (chkS w rs l x s)) [] := hk
  unfold vc40
  obtain ⟨hs, hl, hsl⟩ := hpre
  have hl : l.length ≤ 1000 := hl
  have hsl : s.length ≤ 1000 := hsl
  refine ⟨⟨hs, hl⟩, ?_⟩
  unfold chkS at hk
  rw [br_bne]
  refine ⟨fun h => ⟨⟨hs, hl⟩, ?_⟩, fun e => ?_⟩
  · rw [if_pos h] at hk; exact hk
  obtain ⟨hg, hin, hb⟩ := label_isB e
  obtain ⟨hw1, hw2, hrl, _⟩ := guild_spec hg
  rw [if_neg (by omega)] at hk
  have out : (x < -1 ∨ w - 1 < x) → k (rI 3) [] := fun h => by
    have : outOf (-1) (w - 1) x = true := by unfold outOf; simpa using h
    rw [if_pos this] at hk; exact hk
  rw [br_false]
  refine ⟨fun x1 => ?_, fun x1 => out (.inl x1)⟩
  rw [br_decide]
  refine ⟨fun x2 => out (.inr (by omega)), fun x2 => ?_⟩
  have hx : outOf (-1) (w - 1) x = false := by unfold outOf; rw [decide_eq_false_iff_not]; omega
  rw [if_neg (by simp [hx])] at hk
  have no : ∀ (i : Nat) (hi : i < s.length), (s[i] < 0 ∨ (rs.length : Int) ≤ s[i]) → k (rI 2) [] := fun i hi h => by
    have : s.any (stepBad rs) = true := any_at hi (by unfold stepBad outOf; rw [decide_eq_true_eq]; omega)
    rw [if_pos this] at hk; exact hk
  refine Loop.upto (fun i => (l, x, s, (i : Int), w, rs, ())) (fun i => ∀ y ∈ s.take i, stepBad rs y = false) s.length rfl (by simp) ?_ ?_
  · intro i K hi hp hK
    dsimp only
    rw [br_decide]
    refine ⟨fun _ => ?_, fun h => absurd hi (by omega)⟩
    try simp only [Int.toNat_natCast]
    refine ⟨⟨by omega, by omega⟩, ?_⟩
    rw [br_false]
    refine ⟨fun g1 => ⟨⟨by omega, by omega⟩, ?_⟩, fun g1 => no i hi (.inl g1)⟩
    rw [br_decide]
    refine ⟨fun g2 => no i hi (.inr (by omega)), fun g2 => ⟨fits64 (by omega) (by omega), hK (take_all_succ _ _ _ hi hp ?_)⟩⟩
    unfold stepBad outOf; rw [decide_eq_false_iff_not]; omega
  · intro K hp
    dsimp only
    rw [br_decide]
    refine ⟨fun h => absurd h (by omega), fun _ => ?_⟩
    rw [List.take_length] at hp
    have hst0 : s.any (stepBad rs) = false := any_no hp
    rw [if_neg (by simp [hst0])] at hk
    have hst : ∀ t ∈ s, 0 ≤ t ∧ t < (rs.length : Int) := fun t ht => by
      have := hp t ht
      unfold stepBad outOf at this
      simp only [decide_eq_false_iff_not] at this
      omega
    have hbl := bitsL_lt hin
    have hok := gd_then hg
    refine ⟨⟨hl, hin⟩, ?_⟩
    refine Loop.intro (fun y => ∃ (i c : Nat) (f : Bool), y = (x, s, (c : Int), f, (i : Int), w, rs, ()) ∧ i ≤ s.length ∧ c < 1024 ∧ ((f = false ∧ goS rs x (s.drop i) c = goS rs x s (bitsL l)) ∨ (f = true ∧ x < 0 ∧ i = s.length ∧ goS rs x s (bitsL l) = 0))) (fun y => s.length - y.2.2.2.2.1.toNat) ?_ ⟨0, bitsL l, false, rfl, by omega, hbl, .inl ⟨rfl, rfl⟩⟩
    rintro y K2 ⟨i, c, f, rfl, hi, hc, he⟩ hK2
    dsimp only
    rw [br_decide]
    refine ⟨fun g => ?_, fun g => ?_⟩
    · have hi2 : i < s.length := by omega
      rcases he with ⟨rfl, he⟩ | ⟨_, _, h, _⟩
      rotate_left
      · omega
      obtain ⟨ht0, ht1⟩ := hst _ (List.getElem_mem hi2)
      have htn : s[i].toNat < rs.length := by omega
      have hif := gd_if hg (List.getElem_mem htn)
      have hth := hok _ (List.getElem_mem htn)
      have hne : s.drop (i + 1) ≠ [] ↔ i + 1 < s.length := by
        rw [← List.length_pos_iff, List.length_drop]; omega
      have hR : ruleAt rs s[i] = rs[s[i].toNat] := getD_at htn
      rw [List.drop_eq_getElem_cons hi2, goS_cons hR hne] at he
      simp only [Int.toNat_natCast]
      refine ⟨⟨by omega, hi2⟩, ⟨ht0, htn⟩, ⟨by show rs[s[i].toNat].1.length ≤ 1000; omega, hif.2⟩, ?_⟩
      have k16 : ((rs[s[i].toNat].2 < 0 ∧ (0 ≤ x ∨ i + 1 < s.length)) ∨ subB (bitsL rs[s[i].toNat].1) c = false) → k (rI 16) [] := fun h => by
        rw [if_pos h] at he
        rw [← he] at hk
        exact hk
      have k0 : ¬ ((rs[s[i].toNat].2 < 0 ∧ (0 ≤ x ∨ i + 1 < s.length)) ∨ subB (bitsL rs[s[i].toNat].1) c = false) → rs[s[i].toNat].2 < 0 → K2 (x, s, (c : Int), true, (i : Int) + 1, w, rs, ()) := fun h h2 => by
        rw [if_neg h, if_pos h2] at he
        refine hK2 _ ⟨i + 1, c, true, rfl, by omega, hc, .inr ⟨rfl, by omega, by omega, he.symm⟩⟩ ?_
        dsimp only
        omega
      have kK : ¬ ((rs[s[i].toNat].2 < 0 ∧ (0 ≤ x ∨ i + 1 < s.length)) ∨ subB (bitsL rs[s[i].toNat].1) c = false) → ¬ rs[s[i].toNat].2 < 0 → K2 (x, s, bitsA .or .i64 (c : Int) (shlA .i64 1 rs[s[i].toNat].2), false, (i : Int) + 1, w, rs, ()) := fun h h2 => by
        rw [if_neg h, if_neg h2] at he
        rw [shl_or ⟨by omega, by omega⟩ (by omega) hth, andI_nat]
        refine hK2 _ ⟨i + 1, c ||| 2 ^ rs[s[i].toNat].2.toNat, false, rfl, by omega, or_lt hc (by omega), .inl ⟨rfl, he⟩⟩ ?_
        dsimp only
        omega
      rw [and_ne_nat hc hif.2]
      have rest : (rs[s[i].toNat].2 < 0 → ¬ (0 ≤ x ∨ i + 1 < s.length)) → br (Bool.not (subB (bitsL rs[s[i].toNat].1) c)) (k (rI 16) []) (br (decide (rs[s[i].toNat].2 < 0)) (fitsK .i64 ((i : Int) + 1) ∧ K2 (x, s, (c : Int), true, (i : Int) + 1, w, rs, ())) (0 ≤ rs[s[i].toNat].2 ∧ fitsK .i64 ((i : Int) + 1) ∧ K2 (x, s, bitsA .or .i64 (c : Int) (shlA .i64 1 rs[s[i].toNat].2), false, (i : Int) + 1, w, rs, ()))) := fun hq => by
        rw [br_not]
        refine ⟨fun h => k16 (.inr h), fun h => ?_⟩
        have hn : ¬ ((rs[s[i].toNat].2 < 0 ∧ (0 ≤ x ∨ i + 1 < s.length)) ∨ subB (bitsL rs[s[i].toNat].1) c = false) := by
          rw [h]
          rintro (⟨h1, h2⟩ | h1)
          · exact hq h1 h2
          · cases h1
        rw [br_decide]
        exact ⟨fun h2 => ⟨fits64 (by omega) (by omega), k0 hn h2⟩, fun h2 => ⟨by omega, fits64 (by omega) (by omega), kK hn h2⟩⟩
      rw [br_true]
      refine ⟨fun g1 => ?_, fun g1 => rest (fun h => absurd h g1)⟩
      rw [br_false]
      refine ⟨fun g2 => ⟨fits64 (by omega) (by omega), ?_⟩, fun g2 => k16 (.inl ⟨g1, .inl (by omega)⟩)⟩
      rw [br_false]
      exact ⟨fun g3 => rest (fun _ => by omega), fun g3 => k16 (.inl ⟨g1, .inr (by omega)⟩)⟩
    · have e0 : s.drop i = [] := List.drop_eq_nil_of_le (by omega)
      rw [e0] at he
      simp only [goS] at he
      have last : 0 ≤ x → (0 ≤ x ∧ br (bitsA .and .i64 (shrA .i64 (c : Int) x) 1 == 0) (k (rI 14) []) (k (rI 0) [])) := fun h0 => by
        rcases he with ⟨_, he⟩ | ⟨_, h, _⟩
        · obtain ⟨X, rfl⟩ := Int.eq_ofNat_of_zero_le h0
          rw [Int.toNat_natCast] at he
          refine ⟨h0, ?_⟩
          rw [bit_none c X (by omega), br_not]
          refine ⟨fun h => ?_, fun h => ?_⟩
          · rw [if_pos (.inr h)] at he; rw [← he] at hk; exact hk
          · rw [if_neg (by rw [h]; simp <;> omega)] at he; rw [← he] at hk; exact hk
        · omega
      rw [br_true]
      refine ⟨fun g1 => ?_, fun g1 => ?_⟩
      · rw [br_bf]
        refine ⟨fun h => ?_, fun h => ?_⟩
        · rw [br_true]
          refine ⟨fun g2 => last g2, fun _ => ?_⟩
          rcases he with ⟨rfl, he⟩ | ⟨_, _, _, he⟩
          · cases h
          · rw [he] at hk; exact hk
        · rcases he with ⟨_, he⟩ | ⟨rfl, _⟩
          · rw [if_pos (.inl g1)] at he; rw [← he] at hk; exact hk
          · cases h
      · rw [br_true]
        exact ⟨fun g2 => last g2, fun g2 => by omega⟩

end Go.Abs.Label
end

section
/- Conditions and their equations, printed by a program. -/
open Go.Proofs
set_option maxRecDepth 100000
set_option linter.unusedVariables false
namespace Go.Abs.Label
def vc91 (l : List Int) (t s : Int) (k : AVal → List Cont → Prop) : Prop :=
  br (((decide (t < (0 : Int))) == Bool.true))
   ((Go.Abs.Label.v73.p (l, ())) ∧
   (Go.Abs.Label.v59.p (s, ((Go.Abs.Label.bitsI l), ()))) ∧
   (k (Go.Abs.AVal.bool (Go.Abs.Label.hasI s (Go.Abs.Label.bitsI l))) []))
   ((k (Go.Abs.AVal.bool Bool.false) []))
theorem eq91 (l : List Int) (t s : Int) (k : AVal → List Cont → Prop) : awpF (envOf [(49, mkC [v73]), (48, mkC [v59])]) Try.prog kt 78 false Try.f78 (v91.args (l, t, s, ())) (v91.conts (l, t, s, ())) k = vc91 l t s k := by kernel_rfl
theorem tx91 : (Try.f78.body.map Code.textsOk).getD true = true := by kernel_rfl

def vc83e (rs : List (List Int × Int)) (s : Int) (k : AVal → List Cont → Prop) : Prop :=
  Go.Abs.Loop (σ := ((List ((List Int) × Int)) × (Int × (Int × (Int × Unit))))) (fun K3 x3 =>
    br ((decide (x3.2.2.2.1 < x3.2.2.1)))
     (∃ h5 : (((0 : Int) ≤ x3.2.2.2.1) ∧ ((Int.toNat x3.2.2.2.1) < (List.length x3.1))),
     (Go.Abs.Label.v91.p ((x3.1[(Int.toNat x3.2.2.2.1)]'h5.2).1, ((x3.1[(Int.toNat x3.2.2.2.1)]'h5.2).2, (x3.2.1, ())))) ∧
     br ((Go.Abs.Label.ban3 x3.2.1 ((x3.1[(Int.toNat x3.2.2.2.1)]'h5.2).1, (x3.1[(Int.toNat x3.2.2.2.1)]'h5.2).2)))
      ((k (Go.Abs.AVal.int Go.IntKind.i64 x3.2.2.2.1) []))
      ((Go.Abs.fitsK Go.IntKind.i64 (x3.2.2.2.1 + (1 : Int))) ∧
      (K3 (x3.1, (x3.2.1, (x3.2.2.1, ((x3.2.2.2.1 + (1 : Int)), ())))))))
     ((k (Go.Abs.AVal.int Go.IntKind.i64 (-(1 : Int) : Int)) []))) ((rs, (s, ((((List.length rs) : Nat) : Int), ((0 : Int), ())))))
theorem eq83e (rs : List (List Int × Int)) (s : Int) (k : AVal → List Cont → Prop) : awpF (envOf [(78, mkC [v91])]) Try.prog kt 77 false Try.f77 (v83e.args (rs, s, ())) (v83e.conts (rs, s, ())) k = vc83e rs s k := by kernel_rfl

def vc92 (l : List Int) (k : AVal → List Cont → Prop) : Prop :=
  (k (Go.Abs.AVal.fn (Go.Fn.func (93 : Nat)) [] ((Go.Abs.AVal.iptr ((Go.Abs.AVal.imm (Go.Abs.Ty.int Go.IntKind.i64) l Bool.false) :: [])) :: [])) [])
theorem eq92 (l : List Int) (k : AVal → List Cont → Prop) : awpF (envOf []) Try.prog kt 79 false Try.f79 (v92.args (l, ())) (v92.conts (l, ())) k = vc92 l k := by kernel_rfl
theorem tx92 : (Try.f79.body.map Code.textsOk).getD true = true := by kernel_rfl

def vc105 (l : List Int) (k : AVal → List Cont → Prop) : Prop :=
  ∀ b2 : Bool,
  ∀ b3 : ((b2 = Bool.true) → (l = ([] : List Int))),
  br (b2)
   ((k (Go.Abs.AVal.reg 0 Bool.false) ((Go.Abs.Cont.sl (Go.Abs.Ty.int Go.IntKind.i64) ([] : List Int)) :: [])))
   ((((List.length ([] : List Int)) + (List.length l)) ≤ Go.Abs.big) ∧
   (k (Go.Abs.AVal.reg 0 Bool.false) ((Go.Abs.Cont.sl (Go.Abs.Ty.int Go.IntKind.i64) (([] : List Int) ++ l)) :: [])))
theorem eq105 (l : List Int) (k : AVal → List Cont → Prop) : awpF (envOf []) Try.prog kt 95 false Try.f95 (v105.args (l, ())) (v105.conts (l, ())) k = vc105 l k := by kernel_rfl
theorem tx105 : (Try.f95.body.map Code.textsOk).getD true = true := by kernel_rfl

def vc94 (w : Int) (rs : List (List Int × Int)) (b : Int) (x : Int) (s : List Int) (k : AVal → List Cont → Prop) : Prop :=
  Go.Abs.Loop (σ := (Int × ((List ((List Int) × Int)) × (Int × ((List Int) × (Int × (Int × Unit))))))) (fun K6 x6 =>
    br ((decide (x6.2.2.2.2.1 < (((List.length x6.2.2.2.1) : Nat) : Int))))
     ((Go.Abs.Label.v105.p (x6.2.2.2.1, ())) ∧
     (Go.Abs.fitsK Go.IntKind.i64 (x6.2.2.2.2.1 + (1 : Int))) ∧
     (Go.Abs.Label.v104.p (x6.2.2.2.2.1, ((x6.2.2.2.2.1 + (1 : Int)), (x6.2.2.2.1, ())))) ∧
     (Go.Abs.Label.v44.p (x6.2.2.2.2.2.1, ())) ∧
     (Go.Abs.Label.v33.p (x6.1, (x6.2.1, ((Go.Abs.Label.listI x6.2.2.2.2.2.1), (x6.2.2.1, ((List.take ((List.length x6.2.2.2.1) - (1 : Nat)) (List.drop (0 : Nat) ((List.eraseIdx x6.2.2.2.1 (Int.toNat x6.2.2.2.2.1)) ++ ((0 : Int) :: ([] : List Int))))), ())))))) ∧
     br (((Go.Abs.Label.chkS x6.1 x6.2.1 (Go.Abs.Label.listI x6.2.2.2.2.2.1) x6.2.2.1 (List.take ((List.length x6.2.2.2.1) - (1 : Nat)) (List.drop (0 : Nat) ((List.eraseIdx x6.2.2.2.1 (Int.toNat x6.2.2.2.2.1)) ++ ((0 : Int) :: ([] : List Int)))))) == (0 : Int)))
      ((K6 (x6.1, (x6.2.1, (x6.2.2.1, ((List.take ((List.length x6.2.2.2.1) - (1 : Nat)) (List.drop (0 : Nat) ((List.eraseIdx x6.2.2.2.1 (Int.toNat x6.2.2.2.2.1)) ++ ((0 : Int) :: ([] : List Int))))), ((0 : Int), (x6.2.2.2.2.2.1, ()))))))))
      ((Go.Abs.fitsK Go.IntKind.i64 (x6.2.2.2.2.1 + (1 : Int))) ∧
      (K6 (x6.1, (x6.2.1, (x6.2.2.1, (x6.2.2.2.1, ((x6.2.2.2.2.1 + (1 : Int)), (x6.2.2.2.2.2.1, ())))))))))
     ((k (Go.Abs.AVal.imm (Go.Abs.Ty.int Go.IntKind.i64) x6.2.2.2.1 Bool.false) []))) ((w, (rs, (x, (s, ((0 : Int), (b, ())))))))
theorem eq94 (w : Int) (rs : List (List Int × Int)) (b : Int) (x : Int) (s : List Int) (k : AVal → List Cont → Prop) : awpF (envOf [(95, mkC [v105]), (94, mkC [v104]), (62, mkC [v44]), (16, mkC [v33])]) Try.prog kt 81 true Try.f81 (v94.args (w, rs, b, x, s, ())) (v94.conts (w, rs, b, x, s, ())) k = vc94 w rs b x s k := by kernel_rfl
theorem tx94 : (Try.f81.body.map Code.textsOk).getD true = true := by kernel_rfl

def vc32 (w : Int) (rs : List (List Int × Int)) (l : List Int) (x : Int) (k : AVal → List Cont → Prop) : Prop :=
  (Go.Abs.Label.v42.p (w, (rs, (l, ())))) ∧
  br ((Go.Abs.Label.leIs w rs l (6 : Int)))
   ((k (Go.Abs.AVal.tup ((Go.Abs.AVal.reg 0 Bool.false) :: ((Go.Abs.AVal.int Go.IntKind.i64 (6 : Int)) :: []))) ((Go.Abs.Cont.sl (Go.Abs.Ty.int Go.IntKind.i64) ([] : List Int)) :: [])))
   (br ((Go.Abs.Label.leIs w rs l (2 : Int)))
    ((k (Go.Abs.AVal.tup ((Go.Abs.AVal.reg 0 Bool.false) :: ((Go.Abs.AVal.int Go.IntKind.i64 (2 : Int)) :: []))) ((Go.Abs.Cont.sl (Go.Abs.Ty.int Go.IntKind.i64) ([] : List Int)) :: [])))
    (br ((Go.Abs.Label.leIs w rs l (3 : Int)))
     ((k (Go.Abs.AVal.tup ((Go.Abs.AVal.reg 0 Bool.false) :: ((Go.Abs.AVal.int Go.IntKind.i64 (3 : Int)) :: []))) ((Go.Abs.Cont.sl (Go.Abs.Ty.int Go.IntKind.i64) ([] : List Int)) :: [])))
     ((Go.Abs.fitsK Go.IntKind.i64 (w - (1 : Int))) ∧
     (Go.Abs.Label.v50.p ((-(1 : Int) : Int), ((w - (1 : Int)), ((x :: ([] : List Int)), ())))) ∧
     br ((Bool.not (Bool.not (Go.Abs.Label.anyOut (-(1 : Int) : Int) (w - (1 : Int)) (x :: ([] : List Int))))))
      ((k (Go.Abs.AVal.tup ((Go.Abs.AVal.reg 0 Bool.false) :: ((Go.Abs.AVal.int Go.IntKind.i64 (3 : Int)) :: []))) ((Go.Abs.Cont.sl (Go.Abs.Ty.int Go.IntKind.i64) ([] : List Int)) :: [])))
      ((Go.Abs.Label.v75.p (w, (rs, ((Go.Abs.Label.bitsI l), (x, ()))))) ∧
      br ((Bool.not (Go.Abs.Label.hasSteps rs (Go.Abs.Label.bitsI l) x)))
       ((k (Go.Abs.AVal.tup ((Go.Abs.AVal.reg 0 Bool.false) :: ((Go.Abs.AVal.int Go.IntKind.i64 (5 : Int)) :: []))) ((Go.Abs.Cont.sl (Go.Abs.Ty.int Go.IntKind.i64) ([] : List Int)) :: [])))
       ((((0 : Int) ≤ (((List.length (Go.Abs.Label.stepL w rs (Go.Abs.Label.bitsI l) x)) : Nat) : Int)) ∧ (((((List.length (Go.Abs.Label.stepL w rs (Go.Abs.Label.bitsI l) x)) : Nat) : Int) = (((List.length (Go.Abs.Label.stepL w rs (Go.Abs.Label.bitsI l) x)) : Nat) : Int)) ∧ ((((List.length (Go.Abs.Label.stepL w rs (Go.Abs.Label.bitsI l) x)) : Nat) : Int) ≤ ((Go.Abs.big : Nat) : Int)))) ∧
       (k (Go.Abs.AVal.tup ((Go.Abs.AVal.reg 0 Bool.false) :: ((Go.Abs.AVal.int Go.IntKind.i64 (0 : Int)) :: []))) ((Go.Abs.Cont.sl (Go.Abs.Ty.int Go.IntKind.i64) ((List.take (List.length (List.replicate (Int.toNat (((List.length (Go.Abs.Label.stepL w rs (Go.Abs.Label.bitsI l) x)) : Nat) : Int)) (Int.ofNat 0))) (Go.Abs.Label.stepL w rs (Go.Abs.Label.bitsI l) x)) ++ (List.drop (List.length (Go.Abs.Label.stepL w rs (Go.Abs.Label.bitsI l) x)) (List.replicate (Int.toNat (((List.length (Go.Abs.Label.stepL w rs (Go.Abs.Label.bitsI l) x)) : Nat) : Int)) (Int.ofNat 0))))) :: [])))))))
theorem eq32 (w : Int) (rs : List (List Int × Int)) (l : List Int) (x : Int) (k : AVal → List Cont → Prop) : awpF (envOf [(42, mkC [v42]), (43, mkC [v50]), (44, mkC [v75])]) Try.prog kt 14 false Try.f14 (v32.args (w, rs, l, x, ())) (v32.conts (w, rs, l, x, ())) k = vc32 w rs l x k := by kernel_rfl
theorem tx32 : (Try.f14.body.map Code.textsOk).getD true = true := by kernel_rfl

end Go.Abs.Label
end

section
/- The label's functions keep their contracts: parts of steps. -/
open Go.Proofs
set_option maxRecDepth 100000
set_option linter.unusedVariables false
namespace Go.Abs.Label

theorem k91 (hG : Good Try.prog (envOf [(49, mkC [v73]), (48, mkC [v59])])) : v91.Kept Try.prog 78 := by
  rintro ⟨l, t, s, ⟨⟩⟩ hpre k hk
  change List Int at l
  change Int at t s
  refine aspec hmix hG Try.func78 tx91 (Eq.mpr (eq91 l t s k) ?_)
  replace hk : k (.bool (ban3 s (l, t))) [] := hk
  unfold vc91
  obtain ⟨hl, hin, hs⟩ := hpre
  have hl : l.length ≤ 1000 := hl
  have hin : inL 0 9 l := hin
  have hs : isB s := hs
  have eh : hasR s (l, t) = hasI s (bitsI l) := by
    unfold hasR hasI bitsI
    rw [Int.toNat_natCast]
  unfold ban3 at hk
  rw [eh] at hk
  rw [br_true]
  refine ⟨fun h => ⟨⟨hl, hin⟩, ⟨hs, isB_bits hin⟩, ?_⟩, fun h => ?_⟩
  · have e : decide ((l, t).2 < 0) = true := by simpa using h
    rw [e, Bool.true_and] at hk
    exact hk
  · have e : decide ((l, t).2 < 0) = false := by simpa using h
    rw [e, Bool.false_and] at hk
    exact hk

theorem k83e (hG : Good Try.prog (envOf [(78, mkC [v91])])) : v83e.Kept Try.prog 77 := by
  rintro ⟨rs, s, ⟨⟩⟩ hpre k hk
  change List (List Int × Int) at rs
  change Int at s
  refine aspec hmix hG Try.func77 tx83 (Eq.mpr (eq83e rs s k) ?_)
  replace hk : k (rI (indexOf (ban3 s) rs)) [] := hk
  unfold vc83e
  obtain ⟨h1, h2, h3⟩ := hpre
  have h1 : rs.length ≤ 1000 := h1
  have h2 : goodIfs rs := h2
  refine Loop.upto (fun i => (rs, s, ((rs.length : Nat) : Int), (i : Int), ())) (fun i => ∀ y ∈ rs.take i, (ban3 s) y = false) rs.length rfl (by simp) ?_ ?_
  · intro j K_j hj hp_j hK_j
    dsimp only
    rw [br_decide]
    refine ⟨fun _ => ?_, fun h => absurd hj (by omega)⟩
    try simp only [Int.toNat_natCast]
    have hif := h2 _ (List.getElem_mem hj)
    refine ⟨⟨by omega, by omega⟩, ⟨hif.1, hif.2, h3⟩, ?_⟩
    refine br_intro (fun h => ?_) (fun h => ⟨fits64 (by omega) (by omega), hK_j (take_all_succ _ _ _ hj hp_j h)⟩)
    have : indexOf (ban3 s) rs = (j : Int) := indexOf_some _ rs j hj hp_j h
    rwa [this] at hk
  · intro K hp
    dsimp only
    rw [br_decide]
    refine ⟨fun h => absurd h (by omega), fun _ => ?_⟩
    rw [List.take_length] at hp
    have : indexOf (ban3 s) rs = -1 := indexOf_none _ rs hp
    rwa [this] at hk

theorem k92 (hG : Good Try.prog (envOf [])) : v92.Kept Try.prog 79 := by
  rintro ⟨l, ⟨⟩⟩ hpre k hk
  change List Int at l
  refine aspec hmix hG Try.func79 tx92 (Eq.mpr (eq92 l k) ?_)
  replace hk : k (.fn (.func 93) [] [.iptr [.imm (.int .i64) l false]]) [] := hk
  unfold vc92
  exact hk

theorem k105 (hG : Good Try.prog (envOf [])) : v105.Kept Try.prog 95 := by
  rintro ⟨l, ⟨⟩⟩ hpre k hk
  change List Int at l
  refine aspec hmix hG Try.func95 tx105 (Eq.mpr (eq105 l k) ?_)
  replace hk : k (.reg 0 false) [.sl (.int .i64) l] := hk
  unfold vc105
  have h1 : l.length ≤ 1000 := hpre
  intro b hb
  refine br_intro (fun h => ?_) (fun h => ⟨by simp [big]; omega, hk⟩)
  have e := hb h
  subst e
  exact hk
end Go.Abs.Label
end

section
/- The library's Delete, Reverse and Grow at this program: the numbers of their parts (printed by the kit's tool). -/
namespace Go.Proofs
open Go.Shelf
def Try.layDel_ren : Go.Shelf.Ren := ⟨fun | 45 => 94 | n => n, fun | 22 => 25 | 23 => 3 | 3 => 3 | 4 => 4 | 0 => 0 | n => n, fun | n => n⟩
theorem Try.layDel : Go.Proofs.SlLaysE.n45 Try.prog Try.layDel_ren := {
  mixed := by kernel_rfl
  f45 := ⟨Try.f94.name, by decide, Try.func94.trans (congrArg some (by kernel_rfl))⟩
  t0 := Try.underlying0
  a0 := Try.isAgg0
  z0 := Try.sizeOf0
  v0 := Try.zeroValue0
  t3 := Try.underlying3
  a3 := Try.isAgg3
  z3 := Try.sizeOf3
  v3 := Try.zeroValue3
  t4 := Try.underlying4
  a4 := Try.isAgg4
  z4 := Try.sizeOf4
  v4 := Try.zeroValue4
  t22 := Try.underlying25
  a22 := Try.isAgg25
  z22 := Try.sizeOf25
  v22 := Try.zeroValue25
  a23 := Try.isAgg3
  z23 := Try.sizeOf3 }
def Try.layRev_ren : Go.Shelf.Ren := ⟨fun | 35 => 80 | n => n, fun | 22 => 25 | 23 => 3 | 3 => 3 | 4 => 4 | 0 => 0 | n => n, fun | n => n⟩
theorem Try.layRev : Go.Proofs.SlLaysE.n35 Try.prog Try.layRev_ren := {
  mixed := by kernel_rfl
  f35 := ⟨Try.f80.name, by decide, Try.func80.trans (congrArg some (by kernel_rfl))⟩
  t0 := Try.underlying0
  a0 := Try.isAgg0
  z0 := Try.sizeOf0
  v0 := Try.zeroValue0
  t3 := Try.underlying3
  a3 := Try.isAgg3
  z3 := Try.sizeOf3
  v3 := Try.zeroValue3
  t4 := Try.underlying4
  a4 := Try.isAgg4
  z4 := Try.sizeOf4
  v4 := Try.zeroValue4
  t22 := Try.underlying25
  a22 := Try.isAgg25
  z22 := Try.sizeOf25
  v22 := Try.zeroValue25
  a23 := Try.isAgg3
  z23 := Try.sizeOf3 }
def Try.layGrow_ren : Go.Shelf.Ren := ⟨fun | 4 => 90 | n => n, fun | 22 => 22 | 25 => 37 | 3 => 3 | 4 => 4 | 9 => 9 | 20 => 20 | 0 => 0 | n => n, fun | n => n⟩
theorem Try.layGrow : Go.Proofs.Lays8.n4 Try.prog Try.layGrow_ren := {
  mixed := by kernel_rfl
  f4 := ⟨Try.f90.name, by decide, Try.func90.trans (congrArg some (by kernel_rfl))⟩
  t0 := Try.underlying0
  a0 := Try.isAgg0
  z0 := Try.sizeOf0
  v0 := Try.zeroValue0
  t3 := Try.underlying3
  a3 := Try.isAgg3
  z3 := Try.sizeOf3
  v3 := Try.zeroValue3
  t4 := Try.underlying4
  a4 := Try.isAgg4
  z4 := Try.sizeOf4
  v4 := Try.zeroValue4
  t9 := Try.underlying9
  a9 := Try.isAgg9
  z9 := Try.sizeOf9
  v9 := Try.zeroValue9
  t20 := Try.underlying20
  a20 := Try.isAgg20
  z20 := Try.sizeOf20
  v20 := Try.zeroValue20
  t22 := Try.underlying22
  a22 := Try.isAgg22
  z22 := Try.sizeOf22
  v22 := Try.zeroValue22 }
end Go.Proofs
end

section
/- The library's Delete and Reverse, at slices of numbers: contracts over regions handed to them. -/
namespace Go.Abs
open Go.Proofs Go.Shelf Go.Sort

theorem row_world (w : World) (blk off q : Nat) (d : Array Int) : putRow (Value.int .i64) (Sort.ahead w q) blk off d = sortWorld (Value.int .i64) w blk off q d #[] := by
  unfold sortWorld grow putRow mapBlock
  simp

theorem ints_one : OneCell (Value.int .i64) := fun _ => rfl

/-- What a slice of numbers of one's own is in memory. -/
theorem ints_holds {F : Nat → Prop} {K : Know} {H : Nat → Option Hd} {w : World} {l : List Int} {hd : Hd} (hm : MRel F K H w (newM (fun _ => none) 0 [.sl (.int .i64) l])) (hH : H 0 = some hd) (hpos : 0 < l.length) :
    ∃ b cs e, hd.base = some b ∧ hd.len = l.length ∧ hd.len ≤ hd.cap ∧ hd.cap ≤ 9223372036854775807 ∧ hd.sz = 1 ∧ w.heap[b]? = some (.cells cs e (0, 0)) ∧ hd.cap ≤ cs.size ∧ ¬ F b ∧ K.cells b = none ∧ K.inv b = none ∧ Holds (Value.int .i64) w b 0 l.toArray := by
  obtain ⟨c1, c2, ⟨c3, c3'⟩, c4⟩ := hm.cont 0 (.sl (.int .i64) l) .own hd rfl (by simp) hH
  have c2 : hd.len = @List.length Int l := c2
  rcases c4 with ⟨c4, c5⟩ | ⟨b, cs, e, fz, g1, g2, g3, g4⟩
  · omega
  obtain ⟨o1, o2, o3, o4⟩ := hm.own 0 (.sl (.int .i64) l) hd b rfl hH g1
  obtain ⟨cs', e', o5⟩ := o4 rfl
  rw [g2] at o5
  cases o5
  have hs1 : Ty.size (.int .i64) = 1 := rfl
  rw [hs1, Nat.mul_one] at g3
  refine ⟨b, cs, e, g1, c2, c3, c3', c1, g2, g3, o1, o2, o3, ?_⟩
  intro j hj
  have hj' : j < l.length := by simpa using hj
  refine ⟨?_, ?_⟩
  · unfold World.cell?
    rw [g2]
    simp only [Option.isSome_none, Bool.false_eq_true, if_false, Nat.zero_add]
    have := g4 j hj'
    rw [hs1, Nat.mul_one, Nat.zero_add] at this
    have h2 : slab cs j 1 = [Value.int .i64 (@GetElem.getElem (List Int) Nat Int _ _ l j hj')] := this
    rw [slab_one h2, getElem!_pos l.toArray j hj]
    simp
  · unfold World.frozen?
    rw [g2]
    simp

/-- What is left after the slice was written over. -/
theorem ints_after {F : Nat → Prop} {K : Know} {H : Nat → Option Hd} {w : World} {l l' : List Int} {hd : Hd} (hok : WOk F K w) (hm : MRel F K H w (newM (fun _ => none) 0 [.sl (.int .i64) l])) (hH : H 0 = some hd) (hpos : 0 < l.length)
    {b q : Nat} (hb : hd.base = some b) (hl' : l'.length = l.length) :
    MRel F K H (sortWorld (Value.int .i64) w b 0 q l'.toArray #[]) (newM (fun _ => none) 0 [.sl (.int .i64) l']) ∧ WOk F K (sortWorld (Value.int .i64) w b 0 q l'.toArray #[]) ∧ Kept F w (sortWorld (Value.int .i64) w b 0 q l'.toArray #[]) := by
  obtain ⟨b', cs, e, g1, c2, c3, c3', c1, g2, g3, o1, o2, o3, hh⟩ := ints_holds hm hH hpos
  rw [hb] at g1
  cases g1
  have hcont : ContRel K H (sortWorld (Value.int .i64) w b 0 q l'.toArray #[]) hd (.sl (.int .i64) l') := by
    refine ⟨c1, (show hd.len = @List.length Int l' by omega), ⟨c3, c3'⟩, .inr ⟨b, _, _, (0, 0), hb, sort_heap_at (Value.int .i64) w b 0 q l'.toArray #[] g2, ?_, ?_⟩⟩
    · show hd.cap * 1 ≤ _
      rw [Nat.mul_one]; simpa [putCells] using g3
    · intro i hi
      have hi : i < @List.length Int l' := hi
      have hi2 : i < l'.toArray.size := by simpa using hi
      have : (putCells (Value.int .i64) 0 l'.toArray cs)[i]? = some (Value.int .i64 (@GetElem.getElem (List Int) Nat Int _ _ l' i hi)) := by
        simp only [putCells, Array.getElem?_mapIdx, Nat.zero_add, Nat.zero_le, true_and, Nat.sub_zero]
        rw [Array.getElem?_eq_getElem (by omega), Option.map_some, if_pos hi2, getElem!_pos _ i hi2]
        simp
      show DenRep K (.int .i64) _ (slab _ (0 + i * 1) 1)
      rw [Nat.mul_one, Nat.zero_add, slab_of this]
      rfl
  refine ⟨?_, sort_ok hok (Value.int .i64) b 0 q l'.toArray #[] o2 o3, sort_kept hok (Value.int .i64) b 0 q l'.toArray #[] o1⟩
  have only : ∀ {r : Nat} {c : Cont} {f : Flag}, newM (fun _ => none) 0 [Cont.sl (.int .i64) l'] r = some (c, f) → r = 0 ∧ c = .sl (.int .i64) l' ∧ f = .own := by
    intro r c f h
    have h' : upd (fun _ => none) 0 (Cont.sl (.int .i64) l', Flag.own) r = some (c, f) := h
    by_cases hr : r = 0
    · subst hr; rw [upd_same] at h'; cases h'; exact ⟨rfl, rfl, rfl⟩
    · rw [upd_ne _ _ _ _ hr] at h'; cases h'
  refine ⟨?_, ?_, ?_, ?_⟩
  · intro r c f hd' h2 _ h3
    obtain ⟨rfl, rfl, rfl⟩ := only h2
    rw [hH] at h3; cases h3
    exact hcont
  · intro r c hd' b' h2 h3 h4
    obtain ⟨rfl, rfl, _⟩ := only h2
    rw [hH] at h3; cases h3
    rw [hb] at h4; cases h4
    exact ⟨o1, o2, o3, fun _ => ⟨_, _, sort_heap_at (Value.int .i64) w b 0 q l'.toArray #[] g2⟩⟩
  · intro r c hd' b' h2
    obtain ⟨_, _, h3⟩ := only h2
    cases h3
  · intro r r' c c' hd1 hd2 b' h2 h3
    rw [(only h2).1, (only h3).1]; intros; rfl

theorem reverse_spec {P : Program} {ρ : Ren} (L : SlLaysE.n35 P ρ) {l : List Int} (hlen : l.length < 4611686018427387904) {full : Bool} {k : AVal → List Cont → Prop} (hk : k (.tup []) [.sl (.int .i64) l.reverse]) :
    ASpec P (ρ.f 35) [.reg 0 full] [.sl (.int .i64) l] k := by
  intro F K H w vs hok hargs hm hfr
  obtain ⟨v0, vs', rfl, hr0, hargs'⟩ := hargs.inv
  obtain rfl : vs' = [] := RepL.nil_iff.1 hargs'
  clear hargs hargs'
  simp only [Rep] at hr0
  obtain ⟨hd, hH, rfl, hfull⟩ := hr0
  obtain ⟨c1, c2, c3, c4⟩ := hm.cont 0 (.sl (.int .i64) l) .own hd rfl (by simp) hH
  have c2 : hd.len = @List.length Int l := c2
  rcases Nat.eq_zero_or_pos l.length with h0 | hpos
  · have e0 : hd.len = 0 := by omega
    have el : l = [] := List.eq_nil_of_length_eq_zero h0
    subst el
    rw [e0]
    refine (AnyE.slices_Reverse_empty L _ hd.cap w).mono ?_
    rintro e w' ⟨rfl, rfl⟩
    refine ⟨_, .tup [], [.sl (.int .i64) []], K, H, rfl, hk, .refl K, ?_, hm, hfr, hok, .refl _ _, .refl _ _, Nat.le_refl _, fun _ _ => rfl⟩
    simp only [Rep]
    exact ⟨#[], rfl, .nil⟩
  obtain ⟨b, cs, e, g1, -, -, -, -, -, -, -, -, -, hh⟩ := ints_holds hm hH hpos
  rw [g1, c2]
  refine (AnyE.slices_Reverse L (Value.int .i64) ints_one b 0 hd.cap l w hh (by omega)).mono ?_
  rintro e2 w' ⟨rfl, q, rfl⟩
  rw [row_world]
  obtain ⟨a1, a2, a3⟩ := ints_after (q := q) (l' := l.reverse) hok hm hH hpos g1 (by simp)
  refine ⟨_, .tup [], [.sl (.int .i64) l.reverse], K, H, rfl, hk, .refl K, ?_, a1, hfr, a2, a3, .refl _ _, Nat.le_refl _, fun _ _ => rfl⟩
  simp only [Rep]
  exact ⟨#[], rfl, .nil⟩

theorem delete_spec {P : Program} {ρ : Ren} (L : SlLaysE.n45 P ρ) (v23 : ∀ w, (zeroValue (ρ.t 23)).run P w = .ok (Value.int .i64 0) w) {i0 : TypeInfo} (hi0 : P.info? (ρ.t 23) = some i0) (hz1 : i0.size = 1)
    {l : List Int} {i : Nat} (hi : i < l.length) {full : Bool} {k : AVal → List Cont → Prop} (hk : k (.sub 0 0 (l.length - 1) false) [.sl (.int .i64) (l.eraseIdx i ++ [0])]) :
    ASpec P (ρ.f 45) [.reg 0 full, .int .i64 (i : Int), .int .i64 ((i + 1 : Nat) : Int)] [.sl (.int .i64) l] k := by
  intro F K H w vs hok hargs hm hfr
  obtain ⟨v0, vs', rfl, hr0, hargs'⟩ := hargs.inv
  obtain ⟨v1, vs'', rfl, hr1, hargs''⟩ := hargs'.inv
  obtain ⟨v2, vs3, rfl, hr2, hargs3⟩ := hargs''.inv
  obtain rfl : vs3 = [] := RepL.nil_iff.1 hargs3
  clear hargs hargs' hargs'' hargs3
  simp only [Rep] at hr0 hr1 hr2
  subst hr1; subst hr2
  obtain ⟨hd, hH, rfl, hfull⟩ := hr0
  have hpos : 0 < l.length := by omega
  obtain ⟨b, cs, e, g1, c2, c3, hcap, c1, g2, g3, o1, o2, o3, hh⟩ := ints_holds hm hH hpos
  have hl' : (l.eraseIdx i ++ [0]).length = l.length := by simp [List.length_eraseIdx, hi]; omega
  rw [g1, c2]
  refine (AnyE.slices_Delete L (Value.int .i64) ints_one 0 v23 i0 hi0 hz1 b 0 hd.cap i (i + 1) l.toArray w hh (by simp; omega) hcap (by omega) (by simp; omega)).mono ?_
  rintro e2 w' ⟨rfl, q, rfl⟩
  have e3 : (l.toArray.toList.take i ++ l.toArray.toList.drop (i + 1) ++ List.replicate (i + 1 - i) (0 : Int)) = l.eraseIdx i ++ [0] := by
    rw [show i + 1 - i = 1 by omega, List.eraseIdx_eq_take_drop_succ]; simp
  rw [e3, row_world]
  obtain ⟨a1, a2, a3⟩ := ints_after (q := q) (l' := l.eraseIdx i ++ [0]) hok hm hH hpos g1 hl'
  refine ⟨_, .sub 0 0 (l.length - 1) false, [.sl (.int .i64) (l.eraseIdx i ++ [0])], K, H, rfl, hk, .refl K, ?_, a1, hfr, a2, a3, .refl _ _, Nat.le_refl _, fun _ _ => rfl⟩
  simp only [Rep]
  refine ⟨hd, hd.cap, some ⟨b, 0, none⟩, hH, ?_, by omega, by omega, by omega, by simp, .inr ⟨b, g1, by simp⟩⟩
  simp only [List.size_toArray, show l.length - (i + 1 - i) = l.length - 1 by omega]
end Go.Abs
end

section
/- The label's functions keep their contracts: steps without those that can be left out. -/
open Go.Proofs
set_option maxRecDepth 100000
set_option linter.unusedVariables false
namespace Go.Abs.Label

theorem k93 (hG : Good Try.prog (envOf [])) : v93.Kept Try.prog 80 := by
  rintro ⟨l, ⟨⟩⟩ h1 k hk
  have h1 : @List.length Int l ≤ 1000 := h1
  have hk : k (.tup []) [.sl (.int .i64) (@List.reverse Int l)] := hk
  exact reverse_spec Try.layRev (l := l) (by omega) (full := false) hk

theorem k104 (hG : Good Try.prog (envOf [])) : v104.Kept Try.prog 94 := by
  rintro ⟨i, j, l, ⟨⟩⟩ ⟨h1, h2, h3, h4⟩ k hk
  have h1 : @List.length Int l ≤ 1000 := h1
  have h2 : (0 : Int) ≤ i := h2
  have h3 : i < ((@List.length Int l : Nat) : Int) := h3
  have h4 : j = i + 1 := h4
  have hk : k (.sub 0 0 (@List.length Int l - 1) false) [.sl (.int .i64) (@List.eraseIdx Int l i.toNat ++ [(0 : Int)])] := hk
  have ei : i = ((i.toNat : Nat) : Int) := by omega
  have ej : j = ((i.toNat + 1 : Nat) : Int) := by omega
  obtain ⟨i0, hi0, hz1⟩ : ∃ i0, Try.prog.info? (Try.layDel_ren.t 23) = some i0 ∧ i0.size = 1 := ⟨Try.t3, by kernel_rfl, by kernel_rfl⟩
  have := delete_spec Try.layDel (fun w => Try.zeroValue3 w) hi0 hz1 (l := l) (i := i.toNat) (by omega) (full := false) hk
  rw [← ei, ← ej] at this
  exact this

theorem fold_max {n : Nat} : ∀ (rs : List (List Int × Int)) (a : Nat), a ≤ n → (∀ r ∈ rs, r.1.length ≤ n) → rs.foldl (fun n r => max n r.1.length) a ≤ n
  | [], a, h, _ => h
  | r :: rs, a, h, h2 => fold_max rs _ (Nat.max_le.2 ⟨h, h2 r (List.mem_cons_self ..)⟩) (fun x hx => h2 x (List.mem_cons_of_mem _ hx))
theorem gd_small {w : Int} {rs : List (List Int × Int)} (h : Gd w rs) : smallG rs := by
  have h1 := (guild_spec h).2.2.1
  have h2 : maxIf rs ≤ 4 := fold_max rs 0 (by omega) (fun r hr => (gd_if h hr).1)
  show greatG rs = false
  unfold greatG
  exact decide_eq_false (by omega)

theorem take_erase (l : List Int) {i : Nat} (hi : i < l.length) : List.take (l.length - 1) (List.drop 0 (l.eraseIdx i ++ [(0 : Int)])) = l.eraseIdx i := by
  have : (l.eraseIdx i).length = l.length - 1 := by rw [List.length_eraseIdx, if_pos hi]
  rw [List.drop_zero, ← this]
  simp

theorem less_none {w : Int} {rs : List (List Int × Int)} {b x : Int} {s : List Int} (h : ∀ j < s.length, chkS w rs (listI b) x (s.eraseIdx j) ≠ 0) : lessL w rs b x s = s := by
  have e : lessAt w rs b x s = -1 := by
    unfold lessAt
    refine indexOf_none _ _ (fun j hj => ?_)
    exact decide_eq_false (h j (List.mem_range.1 hj))
  unfold lessL lessS
  rw [e]
  rfl
theorem less_some {w : Int} {rs : List (List Int × Int)} {b x : Int} {s : List Int} {i : Nat} (hi : i < s.length) (h : ∀ j < i, chkS w rs (listI b) x (s.eraseIdx j) ≠ 0) (h0 : chkS w rs (listI b) x (s.eraseIdx i) = 0) :
    lessL w rs b x s = lessL w rs b x (s.eraseIdx i) := by
  have e : lessAt w rs b x s = (i : Int) := by
    unfold lessAt
    refine indexOf_some _ _ i (by simpa using hi) (fun j hj => ?_) ?_
    · rw [List.take_range] at hj
      have := List.mem_range.1 hj
      exact decide_eq_false (h j (by omega))
    · rw [List.getElem_range]; exact decide_eq_true h0
  have hl : (s.eraseIdx i).length + 1 = s.length := by rw [List.length_eraseIdx, if_pos hi]; omega
  conv => lhs; unfold lessL lessS
  rw [e, if_neg (by omega), Int.toNat_natCast]
  unfold lessL
  rw [hl]

theorem k94 (hG : Good Try.prog (envOf [(95, mkC [v105]), (94, mkC [v104]), (62, mkC [v44]), (16, mkC [v33])])) : v94.Kept Try.prog 81 := by
  rintro ⟨w, rs, b, x, s, ⟨⟩⟩ hpre k hk
  change Int at w
  change List (List Int × Int) at rs
  change Int at b
  change Int at x
  change List Int at s
  refine aspec hmix hG Try.func81 tx94 (Eq.mpr (eq94 w rs b x s k) ?_)
  replace hk : k (.imm (.int .i64) (lessL w rs b x s) false) [] := hk
  unfold vc94
  obtain ⟨hg, hb, h3⟩ := hpre
  have hg : Gd w rs := hg
  have hb : isB b := hb
  have h3 : s.length ≤ 1000 := h3
  refine Loop.intro (fun y => ∃ (t : List Int) (i : Nat), y = (w, rs, x, t, (i : Int), b, ()) ∧ t.length ≤ s.length ∧ i ≤ t.length ∧ (∀ j < i, chkS w rs (listI b) x (t.eraseIdx j) ≠ 0) ∧ lessL w rs b x t = lessL w rs b x s)
    (fun y => (@List.length Int y.2.2.2.1) * 1002 + (1001 - y.2.2.2.2.1.toNat)) ?_ ⟨s, 0, rfl, Nat.le_refl _, Nat.zero_le _, fun j hj => absurd hj (by omega), rfl⟩
  rintro _ K ⟨t, i, rfl, h4, h5, h6, h7⟩ hK
  dsimp only
  rw [br_decide]
  refine ⟨fun hlt => ?_, fun hlt => ?_⟩
  · have hi : i < t.length := by omega
    refine ⟨(show t.length ≤ 1000 by omega), fits64 (by omega) (by omega), ⟨(show t.length ≤ 1000 by omega), (show (0 : Int) ≤ (i : Int) by omega), (show (i : Int) < ((t.length : Nat) : Int) by omega), rfl⟩, hb, ?_⟩
    rw [Int.toNat_natCast, take_erase t hi]
    have hl : (t.eraseIdx i).length + 1 = t.length := by rw [List.length_eraseIdx, if_pos hi]; omega
    have hll : (listI b).length ≤ 10 := listI_len b
    refine ⟨⟨gd_small hg, (show (listI b).length ≤ 1000 by omega), (show (List.take (t.length - 1) (List.drop 0 (t.eraseIdx i ++ [(0 : Int)]))).length ≤ 1000 by rw [take_erase t hi]; omega)⟩, ?_⟩
    refine br_intro (fun h => ?_) (fun h => ⟨fits64 (by omega) (by omega), ?_⟩)
    · have h0 : chkS w rs (listI b) x (t.eraseIdx i) = 0 := eq_of_beq h
      refine hK _ ⟨t.eraseIdx i, 0, rfl, by omega, Nat.zero_le _, fun j hj => absurd hj (by omega), ?_⟩ ?_
      · rw [← less_some hi h6 h0]; exact h7
      · show (t.eraseIdx i).length * 1002 + (1001 - (0 : Int).toNat) < t.length * 1002 + (1001 - ((i : Int)).toNat)
        rw [Int.toNat_natCast]; simp; omega
    · refine hK _ ⟨t, i + 1, rfl, h4, hi, fun j hj => ?_, h7⟩ ?_
      · rcases Nat.lt_or_ge j i with g | g
        · exact h6 j g
        · have : j = i := by omega
          subst this
          intro h0
          rw [h0] at h
          exact absurd h (by decide)
      · show t.length * 1002 + (1001 - ((i : Int) + 1).toNat) < t.length * 1002 + (1001 - ((i : Int)).toNat)
        omega
  · have e := less_none (w := w) (rs := rs) (b := b) (x := x) (s := t) (fun j hj => h6 j (by omega))
    rw [e] at h7
    rw [h7]
    exact hk
end Go.Abs.Label
end

section
/- Conditions and their equations, printed by a program. -/
open Go.Proofs
set_option maxRecDepth 100000
set_option linter.unusedVariables false
namespace Go.Abs.Label
def vc75 (w : Int) (rs : List (List Int × Int)) (b : Int) (x : Int) (k : AVal → List Cont → Prop) : Prop :=
  Go.Abs.Loop (σ := (Int × (Int × ((List ((List Int) × Int)) × (Int × (Int × ((List Int) × Unit))))))) (fun K5 x5 =>
    (Go.Abs.Label.v78.p (x5.2.1, (x5.2.2.1, (x5.2.2.2.2.1, ())))) ∧
    (Go.Abs.Label.v79.p (x5.2.1, (x5.2.2.1, (x5.2.2.2.2.1, ())))) ∧
    Go.Abs.Loop (σ := (Int × ((List ((List Int) × Int)) × (Int × ((List Int) × (Int × (Int × (Int × ((List ((List Int) × Int)) × (Int × (Int × ((List ((List Int) × Int)) × (Int × (Int × ((List Int) × Unit))))))))))))))) (fun K7 x7 =>
      br ((decide (x7.2.2.2.2.1 < (12 : Int))))
       (∃ h9 : (((0 : Int) ≤ x7.2.2.2.2.1) ∧ ((Int.toNat x7.2.2.2.2.1) < (List.length x7.2.2.2.1))),
       ((Int.toNat x7.2.2.2.2.1) < (12 : Nat)) ∧
       ((List.length x7.2.2.2.1) = (12 : Nat)) ∧
       br (((decide (x7.2.2.2.2.1 < (((List.length x7.2.1) : Nat) : Int))) == Bool.true))
        (br ((((x7.2.2.2.1[(Int.toNat x7.2.2.2.2.1)]'h9.2) == (0 : Int)) == Bool.true))
         (∃ h10 : (((0 : Int) ≤ x7.2.2.2.2.1) ∧ ((Int.toNat x7.2.2.2.2.1) < (List.length x7.2.1))),
         br (((decide ((x7.2.1[(Int.toNat x7.2.2.2.2.1)]'h10.2).2 ≥ (0 : Int))) == Bool.true))
          (∃ h11 : (((0 : Int) ≤ x7.2.2.2.2.1) ∧ ((Int.toNat x7.2.2.2.2.1) < (List.length x7.2.1))),
          (Go.Abs.Label.v57.p ((0 : Int), ((x7.2.1[(Int.toNat x7.2.2.2.2.1)]'h11.2).2, ()))) ∧
          (Go.Abs.Label.v59.p (x7.2.2.1, ((Go.Abs.Label.andI (0 : Int) (x7.2.1[(Int.toNat x7.2.2.2.2.1)]'h11.2).2), ()))) ∧
          br (((Bool.not (Go.Abs.Label.hasI x7.2.2.1 (Go.Abs.Label.andI (0 : Int) (x7.2.1[(Int.toNat x7.2.2.2.2.1)]'h11.2).2))) == Bool.true))
           (∃ h12 : (((0 : Int) ≤ x7.2.2.2.2.1) ∧ ((Int.toNat x7.2.2.2.2.1) < (List.length x7.2.2.2.2.2.2.2.2.2.2.1))),
           (Go.Abs.Label.v57.p (x7.2.2.2.2.2.2.2.2.2.2.2.2.1, ((x7.2.2.2.2.2.2.2.2.2.2.1[(Int.toNat x7.2.2.2.2.1)]'h12.2).2, ()))) ∧
           (((0 : Int) ≤ (((List.length x7.2.2.2.2.2.2.2.2.2.2.2.2.2.1) : Nat) : Int)) ∧ (((((List.length x7.2.2.2.2.2.2.2.2.2.2.2.2.2.1) : Nat) : Int) ≤ (((List.length x7.2.2.2.2.2.2.2.2.2.2.2.2.2.1) : Nat) : Int)) ∧ ((((List.length x7.2.2.2.2.2.2.2.2.2.2.2.2.2.1) : Nat) : Int) = (((List.length x7.2.2.2.2.2.2.2.2.2.2.2.2.2.1) : Nat) : Int)))) ∧
           (((Int.toNat (((List.length x7.2.2.2.2.2.2.2.2.2.2.2.2.2.1) : Nat) : Int)) + (List.length (x7.2.2.2.2.1 :: ([] : List Int)))) ≤ Go.Abs.big) ∧
           ((0 : Nat) < (List.length (x7.2.2.2.2.1 :: ([] : List Int)))) ∧
           (K5 (x7.2.2.2.2.2.1, (x7.2.2.2.2.2.2.2.2.2.1, (x7.2.2.2.2.2.2.2.2.2.2.1, (x7.2.2.2.2.2.2.2.2.2.2.2.1, ((Go.Abs.Label.andI x7.2.2.2.2.2.2.2.2.2.2.2.2.1 (x7.2.2.2.2.2.2.2.2.2.2.1[(Int.toNat x7.2.2.2.2.1)]'h12.2).2), (((List.take (Int.toNat (((List.length x7.2.2.2.2.2.2.2.2.2.2.2.2.2.1) : Nat) : Int)) (List.drop (0 : Nat) x7.2.2.2.2.2.2.2.2.2.2.2.2.2.1)) ++ (x7.2.2.2.2.1 :: ([] : List Int))), ()))))))))
           ((Go.Abs.fitsK Go.IntKind.i64 (x7.2.2.2.2.1 + (1 : Int))) ∧
           (K7 (x7.1, (x7.2.1, (x7.2.2.1, (x7.2.2.2.1, ((x7.2.2.2.2.1 + (1 : Int)), (x7.2.2.2.2.2.1, (x7.2.2.2.2.2.2.1, (x7.2.2.2.2.2.2.2.1, (x7.2.2.2.2.2.2.2.2.1, (x7.2.2.2.2.2.2.2.2.2.1, (x7.2.2.2.2.2.2.2.2.2.2.1, (x7.2.2.2.2.2.2.2.2.2.2.2.1, (x7.2.2.2.2.2.2.2.2.2.2.2.2.1, (x7.2.2.2.2.2.2.2.2.2.2.2.2.2.1, ())))))))))))))))))
          ((Go.Abs.fitsK Go.IntKind.i64 (x7.2.2.2.2.1 + (1 : Int))) ∧
          (K7 (x7.1, (x7.2.1, (x7.2.2.1, (x7.2.2.2.1, ((x7.2.2.2.2.1 + (1 : Int)), (x7.2.2.2.2.2.1, (x7.2.2.2.2.2.2.1, (x7.2.2.2.2.2.2.2.1, (x7.2.2.2.2.2.2.2.2.1, (x7.2.2.2.2.2.2.2.2.2.1, (x7.2.2.2.2.2.2.2.2.2.2.1, (x7.2.2.2.2.2.2.2.2.2.2.2.1, (x7.2.2.2.2.2.2.2.2.2.2.2.2.1, (x7.2.2.2.2.2.2.2.2.2.2.2.2.2.1, ())))))))))))))))))
         ((Go.Abs.fitsK Go.IntKind.i64 (x7.2.2.2.2.1 + (1 : Int))) ∧
         (K7 (x7.1, (x7.2.1, (x7.2.2.1, (x7.2.2.2.1, ((x7.2.2.2.2.1 + (1 : Int)), (x7.2.2.2.2.2.1, (x7.2.2.2.2.2.2.1, (x7.2.2.2.2.2.2.2.1, (x7.2.2.2.2.2.2.2.2.1, (x7.2.2.2.2.2.2.2.2.2.1, (x7.2.2.2.2.2.2.2.2.2.2.1, (x7.2.2.2.2.2.2.2.2.2.2.2.1, (x7.2.2.2.2.2.2.2.2.2.2.2.2.1, (x7.2.2.2.2.2.2.2.2.2.2.2.2.2.1, ())))))))))))))))))
        ((Go.Abs.fitsK Go.IntKind.i64 (x7.2.2.2.2.1 + (1 : Int))) ∧
        (K7 (x7.1, (x7.2.1, (x7.2.2.1, (x7.2.2.2.1, ((x7.2.2.2.2.1 + (1 : Int)), (x7.2.2.2.2.2.1, (x7.2.2.2.2.2.2.1, (x7.2.2.2.2.2.2.2.1, (x7.2.2.2.2.2.2.2.2.1, (x7.2.2.2.2.2.2.2.2.2.1, (x7.2.2.2.2.2.2.2.2.2.2.1, (x7.2.2.2.2.2.2.2.2.2.2.2.1, (x7.2.2.2.2.2.2.2.2.2.2.2.2.1, (x7.2.2.2.2.2.2.2.2.2.2.2.2.2.1, ())))))))))))))))))
       (br ((decide (x7.2.2.2.2.2.1 ≥ (0 : Int))))
        ((Go.Abs.Label.v57.p ((0 : Int), (x7.2.2.2.2.2.1, ()))) ∧
        (Go.Abs.Label.v59.p (x7.2.2.2.2.2.2.2.2.2.2.2.2.1, ((Go.Abs.Label.andI (0 : Int) x7.2.2.2.2.2.1), ()))) ∧
        br ((Bool.not (Go.Abs.Label.hasI x7.2.2.2.2.2.2.2.2.2.2.2.2.1 (Go.Abs.Label.andI (0 : Int) x7.2.2.2.2.2.1))))
         ((k (Go.Abs.AVal.tup ((Go.Abs.AVal.imm (Go.Abs.Ty.int Go.IntKind.i64) ([] : List Int) Bool.false) :: ((Go.Abs.AVal.bool Bool.false) :: []))) []))
         ((Go.Abs.Label.v92.p (x7.2.2.2.2.2.2.2.2.2.2.2.2.2.1, ())) ∧
         (Go.Abs.fitsK Go.IntKind.i64 ((((List.length x7.2.2.2.2.2.2.2.2.2.2.2.2.2.1) : Nat) : Int) - (1 : Int))) ∧
         Go.Abs.Loop (σ := ((List Int) × (Int × (Int × ((List Int) × (Int × ((List ((List Int) × Int)) × (Int × (Int × ((List Int) × Unit)))))))))) (fun K9 x9 =>
           br ((decide (x9.2.1 ≥ (0 : Int))))
            (∃ h11 : (((0 : Int) ≤ x9.2.1) ∧ ((Int.toNat x9.2.1) < (List.length x9.1))),
            ∃ h12 : (((0 : Int) ≤ (x9.1[(Int.toNat x9.2.1)]'h11.2)) ∧ ((Int.toNat (x9.1[(Int.toNat x9.2.1)]'h11.2)) < (List.length x9.2.2.2.2.2.1))),
            br (((decide ((x9.2.2.2.2.2.1[(Int.toNat (x9.1[(Int.toNat x9.2.1)]'h11.2))]'h12.2).2 < (0 : Int))) == Bool.false))
             ((Go.Abs.Label.v57.p ((0 : Int), ((x9.2.2.2.2.2.1[(Int.toNat (x9.1[(Int.toNat x9.2.1)]'h11.2))]'h12.2).2, ()))) ∧
             (Go.Abs.Label.v59.p (x9.2.2.2.2.2.2.2.1, ((Go.Abs.Label.andI (0 : Int) (x9.2.2.2.2.2.1[(Int.toNat (x9.1[(Int.toNat x9.2.1)]'h11.2))]'h12.2).2), ()))) ∧
             br ((Go.Abs.Label.hasI x9.2.2.2.2.2.2.2.1 (Go.Abs.Label.andI (0 : Int) (x9.2.2.2.2.2.1[(Int.toNat (x9.1[(Int.toNat x9.2.1)]'h11.2))]'h12.2).2)))
              ((((List.length x9.2.2.2.2.2.2.2.2.1) + (List.length ((x9.1[(Int.toNat x9.2.1)]'h11.2) :: ([] : List Int)))) ≤ Go.Abs.big) ∧
              (Go.Abs.Label.v73.p ((x9.2.2.2.2.2.1[(Int.toNat (x9.1[(Int.toNat x9.2.1)]'h11.2))]'h12.2).1, ())) ∧
              (Go.Abs.fitsK Go.IntKind.i64 (x9.2.1 - (1 : Int))) ∧
              (K9 (x9.1, ((x9.2.1 - (1 : Int)), (x9.2.2.1, (x9.2.2.2.1, (x9.2.2.2.2.1, (x9.2.2.2.2.2.1, (x9.2.2.2.2.2.2.1, ((Go.Abs.bitsA Go.BinOp.andNot Go.IntKind.i64 (Go.Abs.bitsA Go.BinOp.or Go.IntKind.i64 x9.2.2.2.2.2.2.2.1 (Go.Abs.Label.bitsI (x9.2.2.2.2.2.1[(Int.toNat (x9.1[(Int.toNat x9.2.1)]'h11.2))]'h12.2).1)) x9.2.2.2.2.2.2.1), ((x9.2.2.2.2.2.2.2.2.1 ++ ((x9.1[(Int.toNat x9.2.1)]'h11.2) :: ([] : List Int))), ())))))))))))
              ((Go.Abs.fitsK Go.IntKind.i64 (x9.2.1 - (1 : Int))) ∧
              (K9 (x9.1, ((x9.2.1 - (1 : Int)), (x9.2.2.1, (x9.2.2.2.1, (x9.2.2.2.2.1, (x9.2.2.2.2.2.1, (x9.2.2.2.2.2.2.1, (x9.2.2.2.2.2.2.2.1, (x9.2.2.2.2.2.2.2.2.1, ()))))))))))))
             ((((List.length x9.2.2.2.2.2.2.2.2.1) + (List.length ((x9.1[(Int.toNat x9.2.1)]'h11.2) :: ([] : List Int)))) ≤ Go.Abs.big) ∧
             (Go.Abs.Label.v73.p ((x9.2.2.2.2.2.1[(Int.toNat (x9.1[(Int.toNat x9.2.1)]'h11.2))]'h12.2).1, ())) ∧
             (Go.Abs.fitsK Go.IntKind.i64 (x9.2.1 - (1 : Int))) ∧
             (K9 (x9.1, ((x9.2.1 - (1 : Int)), (x9.2.2.1, (x9.2.2.2.1, (x9.2.2.2.2.1, (x9.2.2.2.2.2.1, (x9.2.2.2.2.2.2.1, ((Go.Abs.bitsA Go.BinOp.andNot Go.IntKind.i64 (Go.Abs.bitsA Go.BinOp.or Go.IntKind.i64 x9.2.2.2.2.2.2.2.1 (Go.Abs.Label.bitsI (x9.2.2.2.2.2.1[(Int.toNat (x9.1[(Int.toNat x9.2.1)]'h11.2))]'h12.2).1)) x9.2.2.2.2.2.2.1), ((x9.2.2.2.2.2.2.2.2.1 ++ ((x9.1[(Int.toNat x9.2.1)]'h11.2) :: ([] : List Int))), ()))))))))))))
            ((Go.Abs.Label.v93.p (x9.2.2.2.2.2.2.2.2.1, ())) ∧
            (Go.Abs.Label.v94.p (x9.2.2.2.2.1, (x9.2.2.2.2.2.1, (x9.2.2.2.2.2.2.1, (x9.2.2.1, ((List.reverse x9.2.2.2.2.2.2.2.2.1), ())))))) ∧
            (k (Go.Abs.AVal.tup ((Go.Abs.AVal.imm (Go.Abs.Ty.int Go.IntKind.i64) (Go.Abs.Label.lessL x9.2.2.2.2.1 x9.2.2.2.2.2.1 x9.2.2.2.2.2.2.1 x9.2.2.1 (List.reverse x9.2.2.2.2.2.2.2.2.1)) Bool.false) :: ((Go.Abs.AVal.bool Bool.true) :: []))) []))) ((x7.2.2.2.2.2.2.2.2.2.2.2.2.2.1, (((((List.length x7.2.2.2.2.2.2.2.2.2.2.2.2.2.1) : Nat) : Int) - (1 : Int)), (x7.2.2.2.2.2.1, (x7.2.2.2.2.2.2.2.2.2.2.2.2.2.1, (x7.2.2.2.2.2.2.2.2.2.1, (x7.2.2.2.2.2.2.2.2.2.2.1, (x7.2.2.2.2.2.2.2.2.2.2.2.1, ((Go.Abs.Label.andI (0 : Int) x7.2.2.2.2.2.1), (([] : List Int), ()))))))))))))
        ((Go.Abs.Label.v83e.p (x7.2.2.2.2.2.2.2.2.2.2.1, (x7.2.2.2.2.2.2.2.2.2.2.2.2.1, ()))) ∧
        br ((decide ((Go.Abs.Label.indexOf (Go.Abs.Label.ban3 x7.2.2.2.2.2.2.2.2.2.2.2.2.1) x7.2.2.2.2.2.2.2.2.2.2.1) < (0 : Int))))
         ((k (Go.Abs.AVal.tup ((Go.Abs.AVal.imm (Go.Abs.Ty.int Go.IntKind.i64) ([] : List Int) Bool.false) :: ((Go.Abs.AVal.bool Bool.false) :: []))) []))
         (∃ h9 : (((0 : Int) ≤ (Go.Abs.Label.indexOf (Go.Abs.Label.ban3 x7.2.2.2.2.2.2.2.2.2.2.2.2.1) x7.2.2.2.2.2.2.2.2.2.2.1)) ∧ ((Int.toNat (Go.Abs.Label.indexOf (Go.Abs.Label.ban3 x7.2.2.2.2.2.2.2.2.2.2.2.2.1) x7.2.2.2.2.2.2.2.2.2.2.1)) < (List.length x7.2.2.2.2.2.2.2.2.2.2.1))),
         (Go.Abs.Label.v73.p ((x7.2.2.2.2.2.2.2.2.2.2.1[(Int.toNat (Go.Abs.Label.indexOf (Go.Abs.Label.ban3 x7.2.2.2.2.2.2.2.2.2.2.2.2.1) x7.2.2.2.2.2.2.2.2.2.2.1))]'h9.2).1, ())) ∧
         (((List.length x7.2.2.2.2.2.2.2.2.2.2.2.2.2.1) + (List.length ((Go.Abs.Label.indexOf (Go.Abs.Label.ban3 x7.2.2.2.2.2.2.2.2.2.2.2.2.1) x7.2.2.2.2.2.2.2.2.2.2.1) :: ([] : List Int)))) ≤ Go.Abs.big) ∧
         (Go.Abs.Label.v92.p ((x7.2.2.2.2.2.2.2.2.2.2.2.2.2.1 ++ ((Go.Abs.Label.indexOf (Go.Abs.Label.ban3 x7.2.2.2.2.2.2.2.2.2.2.2.2.1) x7.2.2.2.2.2.2.2.2.2.2.1) :: ([] : List Int))), ())) ∧
         (Go.Abs.fitsK Go.IntKind.i64 ((((List.length (x7.2.2.2.2.2.2.2.2.2.2.2.2.2.1 ++ ((Go.Abs.Label.indexOf (Go.Abs.Label.ban3 x7.2.2.2.2.2.2.2.2.2.2.2.2.1) x7.2.2.2.2.2.2.2.2.2.2.1) :: ([] : List Int)))) : Nat) : Int) - (1 : Int))) ∧
         Go.Abs.Loop (σ := ((List Int) × (Int × (Int × ((List Int) × (Int × ((List ((List Int) × Int)) × (Int × (Int × ((List Int) × Unit)))))))))) (fun K10 x10 =>
           br ((decide (x10.2.1 ≥ (0 : Int))))
            (∃ h12 : (((0 : Int) ≤ x10.2.1) ∧ ((Int.toNat x10.2.1) < (List.length x10.1))),
            ∃ h13 : (((0 : Int) ≤ (x10.1[(Int.toNat x10.2.1)]'h12.2)) ∧ ((Int.toNat (x10.1[(Int.toNat x10.2.1)]'h12.2)) < (List.length x10.2.2.2.2.2.1))),
            br (((decide ((x10.2.2.2.2.2.1[(Int.toNat (x10.1[(Int.toNat x10.2.1)]'h12.2))]'h13.2).2 < (0 : Int))) == Bool.false))
             ((Go.Abs.Label.v57.p ((0 : Int), ((x10.2.2.2.2.2.1[(Int.toNat (x10.1[(Int.toNat x10.2.1)]'h12.2))]'h13.2).2, ()))) ∧
             (Go.Abs.Label.v59.p (x10.2.2.2.2.2.2.2.1, ((Go.Abs.Label.andI (0 : Int) (x10.2.2.2.2.2.1[(Int.toNat (x10.1[(Int.toNat x10.2.1)]'h12.2))]'h13.2).2), ()))) ∧
             br ((Go.Abs.Label.hasI x10.2.2.2.2.2.2.2.1 (Go.Abs.Label.andI (0 : Int) (x10.2.2.2.2.2.1[(Int.toNat (x10.1[(Int.toNat x10.2.1)]'h12.2))]'h13.2).2)))
              ((((List.length x10.2.2.2.2.2.2.2.2.1) + (List.length ((x10.1[(Int.toNat x10.2.1)]'h12.2) :: ([] : List Int)))) ≤ Go.Abs.big) ∧
              (Go.Abs.Label.v73.p ((x10.2.2.2.2.2.1[(Int.toNat (x10.1[(Int.toNat x10.2.1)]'h12.2))]'h13.2).1, ())) ∧
              (Go.Abs.fitsK Go.IntKind.i64 (x10.2.1 - (1 : Int))) ∧
              (K10 (x10.1, ((x10.2.1 - (1 : Int)), (x10.2.2.1, (x10.2.2.2.1, (x10.2.2.2.2.1, (x10.2.2.2.2.2.1, (x10.2.2.2.2.2.2.1, ((Go.Abs.bitsA Go.BinOp.andNot Go.IntKind.i64 (Go.Abs.bitsA Go.BinOp.or Go.IntKind.i64 x10.2.2.2.2.2.2.2.1 (Go.Abs.Label.bitsI (x10.2.2.2.2.2.1[(Int.toNat (x10.1[(Int.toNat x10.2.1)]'h12.2))]'h13.2).1)) x10.2.2.2.2.2.2.1), ((x10.2.2.2.2.2.2.2.2.1 ++ ((x10.1[(Int.toNat x10.2.1)]'h12.2) :: ([] : List Int))), ())))))))))))
              ((Go.Abs.fitsK Go.IntKind.i64 (x10.2.1 - (1 : Int))) ∧
              (K10 (x10.1, ((x10.2.1 - (1 : Int)), (x10.2.2.1, (x10.2.2.2.1, (x10.2.2.2.2.1, (x10.2.2.2.2.2.1, (x10.2.2.2.2.2.2.1, (x10.2.2.2.2.2.2.2.1, (x10.2.2.2.2.2.2.2.2.1, ()))))))))))))
             ((((List.length x10.2.2.2.2.2.2.2.2.1) + (List.length ((x10.1[(Int.toNat x10.2.1)]'h12.2) :: ([] : List Int)))) ≤ Go.Abs.big) ∧
             (Go.Abs.Label.v73.p ((x10.2.2.2.2.2.1[(Int.toNat (x10.1[(Int.toNat x10.2.1)]'h12.2))]'h13.2).1, ())) ∧
             (Go.Abs.fitsK Go.IntKind.i64 (x10.2.1 - (1 : Int))) ∧
             (K10 (x10.1, ((x10.2.1 - (1 : Int)), (x10.2.2.1, (x10.2.2.2.1, (x10.2.2.2.2.1, (x10.2.2.2.2.2.1, (x10.2.2.2.2.2.2.1, ((Go.Abs.bitsA Go.BinOp.andNot Go.IntKind.i64 (Go.Abs.bitsA Go.BinOp.or Go.IntKind.i64 x10.2.2.2.2.2.2.2.1 (Go.Abs.Label.bitsI (x10.2.2.2.2.2.1[(Int.toNat (x10.1[(Int.toNat x10.2.1)]'h12.2))]'h13.2).1)) x10.2.2.2.2.2.2.1), ((x10.2.2.2.2.2.2.2.2.1 ++ ((x10.1[(Int.toNat x10.2.1)]'h12.2) :: ([] : List Int))), ()))))))))))))
            ((Go.Abs.Label.v93.p (x10.2.2.2.2.2.2.2.2.1, ())) ∧
            (Go.Abs.Label.v94.p (x10.2.2.2.2.1, (x10.2.2.2.2.2.1, (x10.2.2.2.2.2.2.1, (x10.2.2.1, ((List.reverse x10.2.2.2.2.2.2.2.2.1), ())))))) ∧
            (k (Go.Abs.AVal.tup ((Go.Abs.AVal.imm (Go.Abs.Ty.int Go.IntKind.i64) (Go.Abs.Label.lessL x10.2.2.2.2.1 x10.2.2.2.2.2.1 x10.2.2.2.2.2.2.1 x10.2.2.1 (List.reverse x10.2.2.2.2.2.2.2.2.1)) Bool.false) :: ((Go.Abs.AVal.bool Bool.true) :: []))) []))) (((x7.2.2.2.2.2.2.2.2.2.2.2.2.2.1 ++ ((Go.Abs.Label.indexOf (Go.Abs.Label.ban3 x7.2.2.2.2.2.2.2.2.2.2.2.2.1) x7.2.2.2.2.2.2.2.2.2.2.1) :: ([] : List Int))), (((((List.length (x7.2.2.2.2.2.2.2.2.2.2.2.2.2.1 ++ ((Go.Abs.Label.indexOf (Go.Abs.Label.ban3 x7.2.2.2.2.2.2.2.2.2.2.2.2.1) x7.2.2.2.2.2.2.2.2.2.2.1) :: ([] : List Int)))) : Nat) : Int) - (1 : Int)), (x7.2.2.2.2.2.1, ((x7.2.2.2.2.2.2.2.2.2.2.2.2.2.1 ++ ((Go.Abs.Label.indexOf (Go.Abs.Label.ban3 x7.2.2.2.2.2.2.2.2.2.2.2.2.1) x7.2.2.2.2.2.2.2.2.2.2.1) :: ([] : List Int))), (x7.2.2.2.2.2.2.2.2.2.1, (x7.2.2.2.2.2.2.2.2.2.2.1, (x7.2.2.2.2.2.2.2.2.2.2.2.1, ((Go.Abs.Label.bitsI (x7.2.2.2.2.2.2.2.2.2.2.1[(Int.toNat (Go.Abs.Label.indexOf (Go.Abs.Label.ban3 x7.2.2.2.2.2.2.2.2.2.2.2.2.1) x7.2.2.2.2.2.2.2.2.2.2.1))]'h9.2).1), (([] : List Int), ())))))))))))))) ((x5.2.1, (x5.2.2.1, (x5.2.2.2.2.1, ((Go.Abs.Label.wants x5.2.2.1 x5.2.2.2.2.1), ((0 : Int), (x5.1, (x5.2.1, (x5.2.2.1, (x5.2.2.2.2.1, (x5.2.1, (x5.2.2.1, (x5.2.2.2.1, (x5.2.2.2.2.1, (x5.2.2.2.2.2.1, ())))))))))))))))) ((x, (w, (rs, (b, (b, (([] : List Int), ())))))))
theorem eq75 (w : Int) (rs : List (List Int × Int)) (b : Int) (x : Int) (k : AVal → List Cont → Prop) : awpF (envOf [(76, mkC [v78]), (50, mkC [v57]), (48, mkC [v59]), (83, mkC [v79]), (77, mkC [v83e]), (49, mkC [v73]), (79, mkC [v92]), (80, mkC [v93]), (81, mkC [v94])]) Try.prog kt 44 true Try.f44 (v75.args (w, rs, b, x, ())) (v75.conts (w, rs, b, x, ())) k = vc75 w rs b x k := by kernel_rfl
theorem tx75 : (Try.f44.body.map Code.textsOk).getD true = true := by kernel_rfl

end Go.Abs.Label
end

section
/- The label's functions keep their contracts: steps. -/
open Go.Proofs
set_option maxRecDepth 100000
set_option linter.unusedVariables false
namespace Go.Abs.Label

theorem rule_at {rs : List (List Int × Int)} {i : Int} (h0 : 0 ≤ i) (h : i.toNat < rs.length) : ruleAt rs i = rs[i.toNat] := by
  unfold ruleAt
  rw [List.getD_eq_getElem?_getD, List.getElem?_eq_getElem h]; rfl
theorem or_lt2 {a b : Nat} (ha : a < 1024) (hb : b < 1024) : a ||| b < 1024 := Nat.or_lt_two_pow (n := 10) ha hb
def backN (rs : List (List Int × Int)) (b need : Nat) (out : List Int) (j : Nat) : Nat × List Int := (out.reverse.take j).foldl (backS rs b) (need, [])
theorem backN_succ {rs : List (List Int × Int)} {b need : Nat} {out : List Int} {j : Nat} (hj : j < out.length) : backN rs b need out (j + 1) = backS rs b (backN rs b need out j) (out[out.length - 1 - j]'(by omega)) := by
  unfold backN
  rw [List.take_succ_eq_append_getElem (by simpa using hj), List.foldl_append, List.getElem_reverse]; rfl
theorem has_one' {c : Nat} {t : Int} (c0 : Int) (hc : c0 = (c : Int)) : hasI c0 (andI 0 t) = c.testBit t.toNat := by
  subst hc
  unfold hasI andI
  rw [Int.toNat_natCast, Int.toNat_natCast]
  exact has_one
theorem bits_zero : isB 0 := ⟨by omega, by omega⟩

theorem back_loop {k : AVal → List Cont → Prop} {w : Int} {rs : List (List Int × Int)} {b : Nat} {x : Int} {out : List Int} {need : Nat} (hg : Gd w rs) (hb : b < 1024) (hout : ∀ i ∈ out, 0 ≤ i ∧ i.toNat < rs.length) (hol : out.length ≤ 11) (hneed : need < 1024)
    (hk : k (.tup [.imm (.int .i64) (lessL w rs (b : Int) x (backOf rs b need out)) false, .bool true]) []) :
    Go.Abs.Loop (σ := ((List Int) × (Int × (Int × ((List Int) × (Int × ((List ((List Int) × Int)) × (Int × (Int × ((List Int) × Unit)))))))))) (fun K9 x9 =>
           br ((decide (x9.2.1 ≥ (0 : Int))))
            (∃ h11 : (((0 : Int) ≤ x9.2.1) ∧ ((Int.toNat x9.2.1) < (List.length x9.1))),
            ∃ h12 : (((0 : Int) ≤ (x9.1[(Int.toNat x9.2.1)]'h11.2)) ∧ ((Int.toNat (x9.1[(Int.toNat x9.2.1)]'h11.2)) < (List.length x9.2.2.2.2.2.1))),
            br (((decide ((x9.2.2.2.2.2.1[(Int.toNat (x9.1[(Int.toNat x9.2.1)]'h11.2))]'h12.2).2 < (0 : Int))) == Bool.false))
             ((Go.Abs.Label.v57.p ((0 : Int), ((x9.2.2.2.2.2.1[(Int.toNat (x9.1[(Int.toNat x9.2.1)]'h11.2))]'h12.2).2, ()))) ∧
             (Go.Abs.Label.v59.p (x9.2.2.2.2.2.2.2.1, ((Go.Abs.Label.andI (0 : Int) (x9.2.2.2.2.2.1[(Int.toNat (x9.1[(Int.toNat x9.2.1)]'h11.2))]'h12.2).2), ()))) ∧
             br ((Go.Abs.Label.hasI x9.2.2.2.2.2.2.2.1 (Go.Abs.Label.andI (0 : Int) (x9.2.2.2.2.2.1[(Int.toNat (x9.1[(Int.toNat x9.2.1)]'h11.2))]'h12.2).2)))
              ((((List.length x9.2.2.2.2.2.2.2.2.1) + (List.length ((x9.1[(Int.toNat x9.2.1)]'h11.2) :: ([] : List Int)))) ≤ Go.Abs.big) ∧
              (Go.Abs.Label.v73.p ((x9.2.2.2.2.2.1[(Int.toNat (x9.1[(Int.toNat x9.2.1)]'h11.2))]'h12.2).1, ())) ∧
              (Go.Abs.fitsK Go.IntKind.i64 (x9.2.1 - (1 : Int))) ∧
              (K9 (x9.1, ((x9.2.1 - (1 : Int)), (x9.2.2.1, (x9.2.2.2.1, (x9.2.2.2.2.1, (x9.2.2.2.2.2.1, (x9.2.2.2.2.2.2.1, ((Go.Abs.bitsA Go.BinOp.andNot Go.IntKind.i64 (Go.Abs.bitsA Go.BinOp.or Go.IntKind.i64 x9.2.2.2.2.2.2.2.1 (Go.Abs.Label.bitsI (x9.2.2.2.2.2.1[(Int.toNat (x9.1[(Int.toNat x9.2.1)]'h11.2))]'h12.2).1)) x9.2.2.2.2.2.2.1), ((x9.2.2.2.2.2.2.2.2.1 ++ ((x9.1[(Int.toNat x9.2.1)]'h11.2) :: ([] : List Int))), ())))))))))))
              ((Go.Abs.fitsK Go.IntKind.i64 (x9.2.1 - (1 : Int))) ∧
              (K9 (x9.1, ((x9.2.1 - (1 : Int)), (x9.2.2.1, (x9.2.2.2.1, (x9.2.2.2.2.1, (x9.2.2.2.2.2.1, (x9.2.2.2.2.2.2.1, (x9.2.2.2.2.2.2.2.1, (x9.2.2.2.2.2.2.2.2.1, ()))))))))))))
             ((((List.length x9.2.2.2.2.2.2.2.2.1) + (List.length ((x9.1[(Int.toNat x9.2.1)]'h11.2) :: ([] : List Int)))) ≤ Go.Abs.big) ∧
             (Go.Abs.Label.v73.p ((x9.2.2.2.2.2.1[(Int.toNat (x9.1[(Int.toNat x9.2.1)]'h11.2))]'h12.2).1, ())) ∧
             (Go.Abs.fitsK Go.IntKind.i64 (x9.2.1 - (1 : Int))) ∧
             (K9 (x9.1, ((x9.2.1 - (1 : Int)), (x9.2.2.1, (x9.2.2.2.1, (x9.2.2.2.2.1, (x9.2.2.2.2.2.1, (x9.2.2.2.2.2.2.1, ((Go.Abs.bitsA Go.BinOp.andNot Go.IntKind.i64 (Go.Abs.bitsA Go.BinOp.or Go.IntKind.i64 x9.2.2.2.2.2.2.2.1 (Go.Abs.Label.bitsI (x9.2.2.2.2.2.1[(Int.toNat (x9.1[(Int.toNat x9.2.1)]'h11.2))]'h12.2).1)) x9.2.2.2.2.2.2.1), ((x9.2.2.2.2.2.2.2.2.1 ++ ((x9.1[(Int.toNat x9.2.1)]'h11.2) :: ([] : List Int))), ()))))))))))))
            ((Go.Abs.Label.v93.p (x9.2.2.2.2.2.2.2.2.1, ())) ∧
            (Go.Abs.Label.v94.p (x9.2.2.2.2.1, (x9.2.2.2.2.2.1, (x9.2.2.2.2.2.2.1, (x9.2.2.1, ((List.reverse x9.2.2.2.2.2.2.2.2.1), ())))))) ∧
            (k (Go.Abs.AVal.tup ((Go.Abs.AVal.imm (Go.Abs.Ty.int Go.IntKind.i64) (Go.Abs.Label.lessL x9.2.2.2.2.1 x9.2.2.2.2.2.1 x9.2.2.2.2.2.2.1 x9.2.2.1 (List.reverse x9.2.2.2.2.2.2.2.2.1)) Bool.false) :: ((Go.Abs.AVal.bool Bool.true) :: []))) []))) (out, (((out.length : Nat) : Int) - (1 : Int)), x, out, w, rs, (b : Int), (need : Int), ([] : List Int), ()) := by
  refine Loop.upto (fun j => (out, ((out.length : Nat) : Int) - 1 - (j : Int), x, out, w, rs, (b : Int), ((backN rs b need out j).1 : Int), (backN rs b need out j).2, ())) (fun j => (backN rs b need out j).1 < 1024 ∧ (backN rs b need out j).2.length ≤ j) out.length (by simp [backN]) ⟨hneed, Nat.zero_le _⟩ ?_ ?_
  · intro j K_j hj hp_j hK_j
    dsimp only
    rw [br_decide]
    refine ⟨fun _ => ?_, fun h => absurd hj (by omega)⟩
    try simp only [Int.toNat_natCast]
    obtain ⟨hp1, hp2⟩ := hp_j
    have et : Int.toNat (((out.length : Nat) : Int) - 1 - (j : Int)) = out.length - 1 - j := by omega
    have hi : out.length - 1 - j < out.length := by omega
    have hoi := hout _ (List.getElem_mem hi)
    have hN := backN_succ (rs := rs) (b := b) (need := need) hj
    simp only [et]
    refine ⟨⟨by omega, hi⟩, ?_⟩
    obtain ⟨e, hei⟩ : ∃ e, out[out.length - 1 - j]'hi = e := ⟨_, rfl⟩
    simp only [hei] at hoi hN ⊢
    refine ⟨hoi, ?_⟩
    have hr := List.getElem_mem hoi.2
    have hth := gd_then hg _ hr
    have hif := gd_if hg hr
    have hra := rule_at hoi.1 hoi.2
    unfold backS at hN
    rw [hra] at hN
    obtain ⟨r, hrr⟩ : ∃ r, rs[e.toNat]'hoi.2 = r := ⟨_, rfl⟩
    simp only [hrr] at hr hth hif hN ⊢
    have hs : (((out.length : Nat) : Int) - 1 - (j : Int)) - 1 = ((out.length : Nat) : Int) - 1 - ((j + 1 : Nat) : Int) := by omega
    obtain ⟨c, hc⟩ : ∃ c, backN rs b need out j = c := ⟨_, rfl⟩
    simp only [hc] at hp1 hp2 hN hK_j ⊢
    have hor : bitsA .andNot .i64 (bitsA .or .i64 ((c.1 : Nat) : Int) (bitsI r.1)) (b : Int) = ((andNot (c.1 ||| bitsL r.1) b : Nat) : Int) := by
      have hl := bitsL_lt hif.2
      unfold bitsI
      rw [lor_nat c.1 (bitsL r.1) (by omega) (by omega), notI_nat (or_lt2 hp1 hl) hb]
    have yes : (r.2 < 0 ∨ c.1.testBit r.2.toNat = true) → backN rs b need out (j + 1) = (andNot (c.1 ||| bitsL r.1) b, c.2 ++ [e]) := fun h => by rw [hN, if_pos h]
    have no : ¬ (r.2 < 0 ∨ c.1.testBit r.2.toNat = true) → backN rs b need out (j + 1) = c := fun h => by rw [hN, if_neg h]
    have hbig : c.2.length + [e].length ≤ big := by
      show c.2.length + 1 ≤ 1099511627776
      omega
    have h73 : v73.p (r.1, ()) := ⟨(show r.1.length ≤ 1000 by have := hif.1; omega), hif.2⟩
    have hf : fitsK .i64 ((((out.length : Nat) : Int) - 1 - (j : Int)) - 1) := fits64 (by omega) (by omega)
    have fin : ∀ h : (r.2 < 0 ∨ c.1.testBit r.2.toNat = true), K_j (out, (((out.length : Nat) : Int) - 1 - (j : Int)) - 1, x, out, w, rs, (b : Int), bitsA .andNot .i64 (bitsA .or .i64 ((c.1 : Nat) : Int) (bitsI r.1)) (b : Int), c.2 ++ [e], ()) := fun h => by
      have := hK_j (by rw [yes h]; exact ⟨notI_lt (or_lt2 hp1 (bitsL_lt hif.2)), by simp; omega⟩)
      rw [yes h] at this
      rw [hs, hor]
      exact this
    rw [br_false]
    refine ⟨fun h => ?_, fun h => ⟨hbig, h73, hf, fin (.inl h)⟩⟩
    have h0 : 0 ≤ r.2 := by omega
    have hcB : isB ((c.1 : Nat) : Int) := ⟨by omega, by omega⟩
    refine ⟨⟨bits_zero, h0, hth⟩, ⟨hcB, andI_isB bits_zero h0 hth⟩, ?_⟩
    rw [has_one' _ rfl]
    refine br_intro (fun h2 => ⟨hbig, h73, hf, fin (.inr h2)⟩) (fun h2 => ⟨hf, ?_⟩)
    have hn : ¬ (r.2 < 0 ∨ c.1.testBit r.2.toNat = true) := fun h => h.elim (fun h => by omega) (fun h => by rw [h2] at h; cases h)
    have := hK_j (by rw [no hn]; exact ⟨hp1, by omega⟩)
    rw [no hn] at this
    rw [hs]
    exact this
  · intro K_j hp_j
    dsimp only
    rw [br_decide]
    refine ⟨fun h => absurd h (by omega), fun _ => ?_⟩
    obtain ⟨hp1, hp2⟩ := hp_j
    have e : (backN rs b need out out.length).2.reverse = backOf rs b need out := by
      unfold backN backOf
      rw [List.take_of_length_le (by simp)]
    rw [e]
    have hl : (backOf rs b need out).length ≤ 11 := by rw [← e, List.length_reverse]; omega
    exact ⟨(show (backN rs b need out out.length).2.length ≤ 1000 by omega), ⟨hg, ⟨(show (0 : Int) ≤ (b : Int) by omega), (show (b : Int) < 1024 by omega)⟩, (show ((backN rs b need out out.length).2.reverse).length ≤ 1000 by rw [e]; omega)⟩, hk⟩

theorem runS_stop {rs : List (List Int × Int)} {n c : Nat} {out : List Int} (h : ∀ r ∈ rs, grantR c r = false) : runS rs n (c, out) = (c, out) := by
  cases n with
  | zero => rfl
  | succ n =>
    unfold runS
    rw [indexOf_none _ _ h, if_pos (by omega)]
theorem runS_go {rs : List (List Int × Int)} {n c i : Nat} {out : List Int} (hi : i < rs.length) (h : ∀ r ∈ rs.take i, grantR c r = false) (h0 : grantR c rs[i] = true) :
    runS rs (n + 1) (c, out) = runS rs n (c ||| 2 ^ (rs[i]).2.toNat, out ++ [(i : Int)]) := by
  conv => lhs; unfold runS
  rw [indexOf_some _ _ i hi h h0, if_neg (by omega), rule_at (by omega) (by simpa using hi)]
  simp only [Int.toNat_natCast]
theorem indexOf_range {α : Type} (p : α → Bool) (l : List α) (h : ¬ indexOf p l < 0) : 0 ≤ indexOf p l ∧ (indexOf p l).toNat < l.length := by
  refine ⟨by omega, ?_⟩
  have : ∀ l : List α, indexOf p l < l.length := by
    intro l
    induction l with
    | nil => simp [indexOf]
    | cons x l ih =>
      unfold indexOf
      simp only [List.length_cons]
      split
      · omega
      · split <;> omega
  have := this l
  omega

theorem k75 (hG : Good Try.prog (envOf [(76, mkC [v78]), (50, mkC [v57]), (48, mkC [v59]), (83, mkC [v79]), (77, mkC [v83e]), (49, mkC [v73]), (79, mkC [v92]), (80, mkC [v93]), (81, mkC [v94])])) : v75.Kept Try.prog 44 := by
  rintro ⟨w, rs, b, x, ⟨⟩⟩ hpre k hk
  change Int at w
  change List (List Int × Int) at rs
  change Int at b
  change Int at x
  refine aspec hmix hG Try.func44 tx75 (Eq.mpr (eq75 w rs b x k) ?_)
  replace hk : k (.tup [.imm (.int .i64) (stepL w rs b x) false, .bool (hasSteps rs b x)]) [] := hk
  unfold vc75
  obtain ⟨hg, hb, hx0, hx1⟩ := hpre
  have hg : Gd w rs := hg
  have hb : isB b := hb
  have hx0 : -1 ≤ x := hx0
  have hx1 : x < w := hx1
  have h1 : 0 ≤ b := hb.1
  have h2 : b < 1024 := hb.2
  obtain ⟨hw1, hw2, hrl, _⟩ := guild_spec hg
  have hok := gd_then hg
  obtain ⟨b, rfl⟩ := Int.eq_ofNat_of_zero_le h1
  refine Loop.intro (fun y => ∃ (c : Nat) (out : List Int), y = (x, w, rs, (b : Int), (c : Int), out, ()) ∧ c < 1024 ∧ runS rs (11 - out.length) (c, out) = runOf rs b ∧ out.length ≤ (listed c 10).length ∧ ∀ i ∈ out, 0 ≤ i ∧ i.toNat < rs.length) (fun y => 10 - (listed y.2.2.2.2.1.toNat 10).length) ?_ ⟨b, [], rfl, by omega, rfl, Nat.zero_le _, fun i hi => absurd hi (by simp)⟩
  rintro _ K ⟨c, out, rfl, hc, hrun, hol, hout⟩ hK
  dsimp only
  have hl10 := listed_len c 10
  have hcB : isB (c : Int) := ⟨by omega, by omega⟩
  refine ⟨trivial, ⟨hg, hcB⟩, ?_⟩
  have hwl : (wants rs (c : Int)).length = 12 := wants_len hrl _
  refine Loop.upto (fun i => (w, rs, (c : Int), wants rs (c : Int), (i : Int), x, w, rs, (c : Int), w, rs, (b : Int), (c : Int), out, ())) (fun i => ∀ r ∈ rs.take i, grantR c r = false) 12 rfl (by simp) ?_ ?_
  · intro i K_i hi hp_i hK_i
    dsimp only
    rw [br_decide]
    refine ⟨fun _ => ?_, fun h => absurd hi (by omega)⟩
    try simp only [Int.toNat_natCast]
    have nx : (∀ (hj : i < rs.length), grantR c rs[i] = false) → ∀ r ∈ rs.take (i + 1), grantR c r = false := by
      intro h r hr
      rcases Nat.lt_or_ge i rs.length with hj | hj
      · rw [List.take_succ_eq_append_getElem hj] at hr
        rcases List.mem_append.1 hr with hr | hr
        · exact hp_i r hr
        · rw [List.mem_singleton.1 hr]; exact h hj
      · rw [List.take_of_length_le (by omega)] at hr
        exact hp_i r (by rw [List.take_of_length_le (by omega)]; exact hr)
    refine ⟨⟨by omega, by omega⟩, by omega, hwl, ?_⟩
    rw [br_true]
    refine ⟨fun g1 => ?_, fun g1 => ⟨fits64 (by omega) (by omega), hK_i (nx fun hj => by omega)⟩⟩
    have hir : i < rs.length := by omega
    have hif := gd_if hg (List.getElem_mem hir)
    have hth := hok _ (List.getElem_mem hir)
    have hlz := lack_zero (b := c) (bitsL_lt hif.2)
    rw [br_bt]
    refine ⟨fun g2 => ?_, fun g2 => ⟨fits64 (by omega) (by omega), hK_i (nx fun hj => ?_)⟩⟩
    · have hs : subB (bitsL rs[i].1) c = true := by
        rw [wants_at hir, beq_iff_eq, Int.toNat_natCast] at g2
        exact hlz.1 (by omega)
      refine ⟨⟨by omega, by omega⟩, ?_⟩
      rw [br_true]
      refine ⟨fun g3 => ?_, fun g3 => ⟨fits64 (by omega) (by omega), hK_i (nx fun hj => ?_)⟩⟩
      · have g3 : 0 ≤ rs[i].2 := g3
        refine ⟨⟨by omega, by omega⟩, ⟨bits_zero, g3, hth⟩, ⟨hcB, andI_isB bits_zero g3 hth⟩, ?_⟩
        rw [has_one' _ rfl, br_bt]
        refine ⟨fun g4 => ?_, fun g4 => ⟨fits64 (by omega) (by omega), hK_i (nx fun hj => ?_)⟩⟩
        · have g4 : c.testBit rs[i].2.toNat = false := by simpa using g4
          have h0 : grantR c rs[i] = true := by
            unfold grantR
            rw [hs, g4, decide_eq_true g3]; rfl
          have h5 := listed_strict (sub_or c (2 ^ rs[i].2.toNat)) g4 (or_test.2 (.inr rfl)) 10 (by omega)
          have h6 := listed_len (c ||| 2 ^ rs[i].2.toNat) 10
          have hT : List.take out.length (List.drop 0 out) ++ [(i : Int)] = out ++ [(i : Int)] := by
            rw [List.drop_zero, List.take_length]
          refine ⟨⟨by omega, by omega⟩, ⟨hcB, g3, hth⟩, ⟨by omega, by omega, trivial⟩, (by show out.length + 1 ≤ 1099511627776; omega), by simp, ?_⟩
          rw [hT]
          have ea : andI (c : Int) rs[i].2 = ((c ||| 2 ^ rs[i].2.toNat : Nat) : Int) := by unfold andI; rw [Int.toNat_natCast]
          rw [ea]
          refine hK _ ⟨c ||| 2 ^ rs[i].2.toNat, out ++ [(i : Int)], rfl, or_lt hc (by omega), ?_, by simp; omega, ?_⟩ ?_
          · rw [← hrun, show 11 - out.length = (11 - (out ++ [(i : Int)]).length) + 1 by simp; omega, runS_go hir hp_i h0]
          · intro j hj
            rcases List.mem_append.1 hj with hj | hj
            · exact hout j hj
            · rw [List.mem_singleton.1 hj]; exact ⟨by omega, by simpa using hir⟩
          · dsimp only
            rw [Int.toNat_natCast, Int.toNat_natCast]
            omega
        · have g4 : c.testBit rs[i].2.toNat = true := by simpa using g4
          unfold grantR
          rw [g4]; simp
      · unfold grantR
        rw [decide_eq_false g3]; rfl
    · rw [wants_at hir, beq_eq_false_iff_ne, Int.toNat_natCast] at g2
      unfold grantR
      have : subB (bitsL rs[i].1) c = false := by
        cases h : subB (bitsL rs[i].1) c with
        | false => rfl
        | true => exact absurd (hlz.2 h) (by omega)
      rw [this]; simp
  · intro K_i hp_i
    dsimp only
    rw [br_decide]
    refine ⟨fun h => absurd h (by omega), fun _ => ?_⟩
    have hall : ∀ r ∈ rs, grantR c r = false := fun r hr => hp_i r (by rw [List.take_of_length_le hrl]; exact hr)
    have hro : runOf rs b = (c, out) := by rw [← hrun]; exact runS_stop hall
    have h11 : out.length ≤ 10 := by omega
    have hgo := gd_goodIfs hg
    rw [br_decide]
    refine ⟨fun hx => ?_, fun hx => ?_⟩
    · have hx9 : x ≤ 9 := by omega
      have e1 : hasSteps rs (b : Int) x = c.testBit x.toNat := by
        unfold hasSteps
        rw [if_pos hx, Int.toNat_natCast, hro]
      refine ⟨⟨bits_zero, hx, hx9⟩, ⟨hcB, andI_isB bits_zero hx hx9⟩, ?_⟩
      rw [has_one' _ rfl, br_not]
      refine ⟨fun h => ?_, fun h => ⟨trivial, fits64 (by omega) (by omega), ?_⟩⟩
      · have e2 : stepL w rs (b : Int) x = [] := by unfold stepL; rw [e1, h]; rfl
        rw [e1, e2, h] at hk
        exact hk
      · have e2 : stepL w rs (b : Int) x = lessL w rs (b : Int) x (backOf rs b (2 ^ x.toNat) out) := by
          unfold stepL rawS
          rw [e1, h, if_pos rfl, if_pos hx, Int.toNat_natCast, hro]
        have ea : andI 0 x = ((2 ^ x.toNat : Nat) : Int) := by unfold andI; simp
        rw [ea]
        refine back_loop hg (by omega) hout (by omega) ?_ ?_
        · exact Nat.pow_lt_pow_right (n := 10) (by omega) (by omega)
        · rw [e1, e2, h] at hk
          exact hk
    · refine ⟨⟨(show rs.length ≤ 1000 by omega), hgo, hcB⟩, ?_⟩
      have e1 : hasSteps rs (b : Int) x = !decide (indexOf (ban3 (c : Int)) rs < 0) := by
        unfold hasSteps
        rw [if_neg (by omega), Int.toNat_natCast, hro]
      rw [br_decide]
      refine ⟨fun h => ?_, fun h => ?_⟩
      · have e3 : hasSteps rs (b : Int) x = false := by rw [e1, decide_eq_true h]; rfl
        have e2 : stepL w rs (b : Int) x = [] := by unfold stepL; rw [e3]; rfl
        rw [e3, e2] at hk
        exact hk
      · have e3 : hasSteps rs (b : Int) x = true := by rw [e1, decide_eq_false h]; rfl
        have hir := indexOf_range _ _ h
        have hif := gd_if hg (List.getElem_mem hir.2)
        have hra := rule_at hir.1 hir.2
        have e2 : stepL w rs (b : Int) x = lessL w rs (b : Int) x (backOf rs b (bitsL (rs[(indexOf (ban3 (c : Int)) rs).toNat]'hir.2).1) (out ++ [indexOf (ban3 (c : Int)) rs])) := by
          unfold stepL rawS
          rw [e3, if_pos rfl, if_neg (by omega), Int.toNat_natCast, hro, hra]
        refine ⟨hir, ⟨(show (rs[(indexOf (ban3 (c : Int)) rs).toNat]'hir.2).1.length ≤ 1000 by have := hif.1; omega), hif.2⟩, ?_, trivial, ?_, ?_⟩
        · show out.length + 1 ≤ 1099511627776
          omega
        · exact fits64 (by simp <;> omega) (by simp <;> omega)
        · refine back_loop hg (by omega) ?_ (by simp; omega) (bitsL_lt hif.2) ?_
          · intro j hj
            rcases List.mem_append.1 hj with hj | hj
            · exact hout j hj
            · rw [List.mem_singleton.1 hj]; exact hir
          · rw [e3, e2] at hk
            exact hk
end Go.Abs.Label
end

section
/- The label's functions keep their contracts: steps that lead to a word. -/
open Go.Proofs
set_option maxRecDepth 100000
set_option linter.unusedVariables false
namespace Go.Abs.Label

theorem runS_len (rs : List (List Int × Int)) : ∀ (n : Nat) (s : Nat × List Int), (runS rs n s).2.length ≤ s.2.length + n
  | 0, s => by unfold runS; omega
  | n + 1, s => by
    unfold runS
    split
    · omega
    · have := runS_len rs n (s.1 ||| 2 ^ (ruleAt rs (indexOf (grantR s.1) rs)).2.toNat, s.2 ++ [indexOf (grantR s.1) rs])
      simp only [List.length_append, List.length_cons, List.length_nil] at this
      omega
theorem backS_len (rs : List (List Int × Int)) (b : Nat) : ∀ (l : List Int) (s : Nat × List Int), (l.foldl (backS rs b) s).2.length ≤ s.2.length + l.length
  | [], s => by simp
  | i :: l, s => by
    have := backS_len rs b l (backS rs b s i)
    have h : (backS rs b s i).2.length ≤ s.2.length + 1 := by
      unfold backS
      split <;> simp
    simp only [List.foldl_cons, List.length_cons]
    omega
theorem backOf_len (rs : List (List Int × Int)) (b need : Nat) (out : List Int) : (backOf rs b need out).length ≤ out.length := by
  have := backS_len rs b out.reverse (need, [])
  unfold backOf
  rw [List.length_reverse]
  simpa using this
theorem lessS_len (w : Int) (rs : List (List Int × Int)) (b word : Int) : ∀ (n : Nat) (s : List Int), (lessS w rs b word n s).length ≤ s.length
  | 0, s => Nat.le_refl _
  | n + 1, s => by
    unfold lessS
    split
    · exact Nat.le_refl _
    · refine Nat.le_trans (lessS_len w rs b word n _) ?_
      exact (List.eraseIdx_sublist _ _).length_le
theorem stepL_len (w : Int) (rs : List (List Int × Int)) (b word : Int) : (stepL w rs b word).length ≤ 12 := by
  have hr : (rawS rs b word).length ≤ 12 := by
    have h1 := runS_len rs 11 (b.toNat, [])
    have h1 : (runOf rs b.toNat).2.length ≤ 11 := by simpa [runOf] using h1
    unfold rawS
    split
    · exact Nat.le_trans (backOf_len _ _ _ _) (by omega)
    · exact Nat.le_trans (backOf_len _ _ _ _) (by simp; omega)
  unfold stepL
  split
  · exact Nat.le_trans (lessS_len _ _ _ _ _ _) hr
  · simp

theorem k32 (hG : Good Try.prog (envOf [(42, mkC [v42]), (43, mkC [v50]), (44, mkC [v75])])) : v32.Kept Try.prog 14 := by
  rintro ⟨w, rs, l, x, ⟨⟩⟩ hpre k hk
  change Int at w
  change List (List Int × Int) at rs
  change List Int at l
  change Int at x
  refine aspec hmix hG Try.func14 tx32 (Eq.mpr (eq32 w rs l x k) ?_)
  replace hk : k (.tup [.reg 0 false, rI (stepErr w rs l x)]) [.sl (.int .i64) (stepsL w rs l x)] := hk
  unfold vc32
  obtain ⟨hs, h2⟩ := hpre
  have hs : smallG rs := hs
  have h2 : l.length ≤ 1000 := h2
  refine ⟨⟨hs, h2⟩, ?_⟩
  have bad : labelErr w rs l ≠ 0 → stepErr w rs l x = labelErr w rs l ∧ stepsL w rs l x = [] := fun h => by
    have e : stepErr w rs l x = labelErr w rs l := by unfold stepErr; rw [if_pos h]
    exact ⟨e, by unfold stepsL; rw [e, if_neg h]⟩
  refine br_intro (fun h => ?_) (fun h6 => br_intro (fun h => ?_) (fun h2' => br_intro (fun h => ?_) (fun h3 => ?_)))
  · have e := of_decide_eq_true h
    have := bad (by omega)
    rw [this.1, this.2, e] at hk
    exact hk
  · have e := of_decide_eq_true h
    have := bad (by omega)
    rw [this.1, this.2, e] at hk
    exact hk
  · have e := of_decide_eq_true h
    have := bad (by omega)
    rw [this.1, this.2, e] at hk
    exact hk
  have h0 := labelErr_cases w rs l h6 h2' h3
  obtain ⟨hg, hl9, hbB⟩ := label_isB h0
  obtain ⟨hw1, hw2, hrl, _⟩ := guild_spec hg
  have eo : anyOut (-1) (w - 1) [x] = outOf (-1) (w - 1) x := by simp [anyOut]
  refine ⟨fits64 (by omega) (by omega), (show 1 ≤ 1152921504606846976 by omega), ?_⟩
  rw [eo, Bool.not_not]
  have e0 : stepErr w rs l x = if outOf (-1) (w - 1) x then 3 else if hasSteps rs (bitsI l) x then 0 else 5 := by
    unfold stepErr
    rw [if_neg (by omega)]
  refine br_intro (fun h => ?_) (fun h => ?_)
  · rw [h, if_pos rfl] at e0
    have e1 : stepsL w rs l x = [] := by unfold stepsL; rw [e0]; rfl
    rw [e0, e1] at hk
    exact hk
  · rw [h, if_neg (by simp)] at e0
    have hx : -1 ≤ x ∧ x < w := by
      unfold outOf at h
      have := of_decide_eq_false h
      omega
    refine ⟨⟨hg, hbB, hx.1, hx.2⟩, ?_⟩
    rw [br_not]
    refine ⟨fun h2 => ?_, fun h2 => ?_⟩
    · rw [h2, if_neg (by simp)] at e0
      have e1 : stepsL w rs l x = [] := by unfold stepsL; rw [e0]; rfl
      rw [e0, e1] at hk
      exact hk
    · rw [h2, if_pos rfl] at e0
      have e1 : stepsL w rs l x = stepL w rs (bitsI l) x := by unfold stepsL; rw [e0, if_pos rfl]
      have hn := stepL_len w rs (bitsI l) x
      rw [e0, e1] at hk
      refine ⟨⟨by omega, rfl, (show (((stepL w rs (bitsI l) x).length : Nat) : Int) ≤ ((1099511627776 : Nat) : Int) by omega)⟩, ?_⟩
      · generalize stepL w rs (bitsI l) x = s at hk ⊢
        have e : (List.take (List.length (List.replicate (Int.toNat ((s.length : Nat) : Int)) (Int.ofNat 0))) s ++ List.drop s.length (List.replicate (Int.toNat ((s.length : Nat) : Int)) (Int.ofNat 0))) = s := by
          rw [Int.toNat_natCast, List.length_replicate, List.take_length, List.drop_of_length_le (by simp), List.append_nil]
        rw [e]
        exact hk
end Go.Abs.Label
end

section
/- Conditions and their equations, printed by a program. -/
open Go.Proofs
set_option maxRecDepth 100000
set_option linter.unusedVariables false
namespace Go.Abs.Label
def vc72 (l : List (List (List Int × Int))) (k : AVal → List Cont → Prop) : Prop :=
  Go.Abs.Loop (σ := ((List (List ((List Int) × Int))) × (Int × ((List (List ((List Int) × Int))) × (Int × (Int × Unit)))))) (fun K2 x2 =>
    br ((decide (x2.2.2.2.2.1 < x2.2.2.2.1)))
     (∃ h4 : (((0 : Int) ≤ x2.2.2.2.2.1) ∧ ((Int.toNat x2.2.2.2.2.1) < (List.length x2.2.2.1))),
     (Go.Abs.fitsK Go.IntKind.i64 (x2.2.1 + (((List.length (x2.2.2.1[(Int.toNat x2.2.2.2.2.1)]'h4.2)) : Nat) : Int))) ∧
     br ((decide ((x2.2.1 + (((List.length (x2.2.2.1[(Int.toNat x2.2.2.2.2.1)]'h4.2)) : Nat) : Int)) < (0 : Int))))
      (False)
      ((Go.Abs.fitsK Go.IntKind.i64 (x2.2.2.2.2.1 + (1 : Int))) ∧
      (K2 (x2.1, ((x2.2.1 + (((List.length (x2.2.2.1[(Int.toNat x2.2.2.2.2.1)]'h4.2)) : Nat) : Int)), (x2.2.2.1, (x2.2.2.2.1, ((x2.2.2.2.2.1 + (1 : Int)), ()))))))))
     ((((0 : Int) ≤ x2.2.1) ∧ (x2.2.1 ≤ (1000000 : Int))) ∧
     Go.Abs.Loop (σ := ((List (List ((List Int) × Int))) × (Int × (Int × ((List ((List Int) × Int)) × Unit))))) (fun K4 x4 =>
       br ((decide (x4.2.2.1 < x4.2.1)))
        (∃ h6 : (((0 : Int) ≤ x4.2.2.1) ∧ ((Int.toNat x4.2.2.1) < (List.length x4.1))),
        (((List.length x4.2.2.2.1) + (List.length (x4.1[(Int.toNat x4.2.2.1)]'h6.2))) ≤ Go.Abs.big) ∧
        (Go.Abs.fitsK Go.IntKind.i64 (x4.2.2.1 + (1 : Int))) ∧
        (K4 (x4.1, (x4.2.1, ((x4.2.2.1 + (1 : Int)), ((x4.2.2.2.1 ++ (x4.1[(Int.toNat x4.2.2.1)]'h6.2)), ()))))))
        ((k (Go.Abs.AVal.imm (Go.Abs.Ty.pair (Go.Abs.Ty.slice (Go.Abs.Ty.int Go.IntKind.i64)) (Go.Abs.Ty.int Go.IntKind.i64)) x4.2.2.2.1 Bool.false) []))) ((x2.1, ((((List.length x2.1) : Nat) : Int), ((0 : Int), (([] : List ((List Int) × Int)), ()))))))) ((l, ((0 : Int), (l, ((((List.length l) : Nat) : Int), ((0 : Int), ()))))))
theorem eq72 (l : List (List (List Int × Int))) (k : AVal → List Cont → Prop) : awpF (envOf [(90, cGrow)]) Try.prog kt 66 true Try.f66 (v72.args (l, ())) (v72.conts (l, ())) k = vc72 l k := by kernel_rfl
theorem tx72 : (Try.f66.body.map Code.textsOk).getD true = true := by kernel_rfl

end Go.Abs.Label
end

section
/- The label's functions keep their contracts: rules of several lists, one after the other (slices.Grow, slices.Concat). -/
open Go.Proofs
set_option maxRecDepth 100000
set_option linter.unusedVariables false
namespace Go.Abs.Label
open Go.Shelf
abbrev tRu : Ty := .pair (.slice (.int .i64)) (.int .i64)

theorem grow_spec {n : Int} (h1 : 0 ≤ n) (h2 : n ≤ 1000000) {k : AVal → List Cont → Prop} (hk : k (.reg 0 false) [.sl tRu []]) : ASpec Try.prog 90 [.nils tRu, .int .i64 n] [] k := by
  intro F K H w vs hok hargs hm hfr
  obtain ⟨v0, vs', rfl, hr0, hargs'⟩ := hargs.inv
  obtain ⟨v1, vs'', rfl, hr1, hargs''⟩ := hargs'.inv
  obtain rfl : vs'' = [] := RepL.nil_iff.1 hargs''
  clear hargs hargs' hargs''
  simp only [Rep] at hr0 hr1
  subst hr1; subst hr0
  have en : n = ((n.toNat : Nat) : Int) := by omega
  rcases Nat.eq_zero_or_pos n.toNat with h0 | hpos
  · have := Any8.slices_Grow_room Try.layGrow none 0 0 0 w (Nat.le_refl _) (by omega) (by omega) (by omega)
    rw [en, h0]
    refine Calls.mono this ?_
    rintro e w' ⟨rfl, rfl⟩
    obtain ⟨H', q1, q2, q3, q4⟩ := nil_region (M := []) (n := 0) (ty := tRu) hm (fun r _ => hfr r (Nat.zero_le _))
    have q5 : MRel F K H' w' (newM (fun _ => none) 0 [Cont.sl tRu []]) := by
      have e : newM (fun _ => none) 0 [Cont.sl tRu []] = mget [(0, Cont.sl tRu [], Flag.own)] := by
        funext r
        show upd (fun _ => none) 0 _ r = _
        unfold upd mget
        split <;> split <;> first | rfl | omega
      rw [e]
      exact q2
    exact ⟨_, .reg 0 false, [.sl tRu []], K, H', rfl, hk, .refl K, q4, q5, fun r hr => q3 r hr, hok, .refl _ _, .refl _ _, Nat.zero_le _, fun r hr => absurd hr (Nat.not_lt_zero _)⟩
  obtain ⟨i0, hi0, hz0, hs0, hb0, hzc⟩ : ∃ i, Try.prog.info? (Try.layGrow_ren.t 25) = some i ∧ i.zero = some (.agg #[.slice none 0 0, .int .i64 0]) ∧ i.size = 2 ∧ i.bytes = 32 ∧ True := ⟨Try.t37, by kernel_rfl, by kernel_rfl, by kernel_rfl, by kernel_rfl, trivial⟩
  have := Any8.slices_Grow_grow Try.layGrow i0 _ hi0 hz0 (by omega) none 0 0 n.toNat [] w (Nat.le_refl _) (by omega) (by rw [hb0]; omega) (by omega) (by simp) (fun _ => rfl) (fun a _ j v hj => by simp at hj)
  rw [← en] at this
  refine Calls.mono this ?_
  rintro e w' ⟨rfl, rfl⟩
  have hG := grownCap_ge w (0 + n.toNat) 0 (Try.layGrow_ren.t 25)
  have hM := grownCap_le_maxLen w (0 + n.toNat) 0 (Try.layGrow_ren.t 25) (by unfold maxLen; omega)
  unfold maxLen at hM
  generalize grownCap w (0 + n.toNat) 0 (Try.layGrow_ren.t 25) = G at hG hM ⊢
  have hokd : WOk F K w.drew := ⟨hok.knows, hok.lt, hok.inv, hok.apart⟩
  have hmd : MRel F K H w.drew (fun _ => none) := mrel_nil
  have hA := after_alloc hokd hmd (nx := 0) (hfr 0 (Nat.le_refl _)) (([] : List Value).toArray ++ Builtin.zeroCells (Value.agg #[.slice none 0 0, .int .i64 0]).cells (0 + n.toNat - 0) ++ Builtin.zeroCells (Value.agg #[.slice none 0 0, .int .i64 0]).cells (G - (0 + n.toNat))) (Try.layGrow_ren.t 25)
    (.sl tRu []) ⟨some w.heap.size, 2, 0, G⟩ rfl (by
      refine ⟨rfl, rfl, ⟨Nat.zero_le _, by show G ≤ _; omega⟩, .inr ⟨w.heap.size, _, _, (0, 0), rfl, alloc_new w.drew _, ?_, fun i hi => by simp at hi⟩⟩
      show G * 2 ≤ _
      simp only [Array.size_append, size_zeroCells, Value.cells]
      simp; omega)
    (.reg 0 false) (.slice (some ⟨w.heap.size, 0, none⟩) 0 G) (by simp only [Rep]; exact ⟨_, upd_same _ _ _, rfl, by simp⟩) []
  obtain ⟨a1, a2, a3, a4, a5, a6, a7, a8⟩ := hA
  refine ⟨_, .reg 0 false, [.sl tRu []], K, _, rfl, hk, .refl K, a4, a5, fun r hr => ?_, a6, ?_, .refl _ _, Nat.zero_le _, fun r hr => absurd hr (Nat.not_lt_zero _)⟩
  · have hr : 1 ≤ r := hr
    rw [upd_ne _ _ _ _ (by omega)]
    exact hfr r (Nat.zero_le _)
  · exact Kept.trans (b := w.drew) ⟨rfl, rfl, rfl, Nat.le_refl _, fun _ _ => rfl, Nat.le_succ _⟩ a7

theorem grow_kept : ∀ us cs k, cGrow.run us cs k → ASpec Try.prog 90 us cs k := by
  rintro us cs k ⟨h1, h2⟩
  have h1 : growPre us cs := h1
  unfold growPre at h1
  split at h1
  · exact grow_spec h1.1 h1.2 h2
  · exact h1.elim
theorem g90 {l : List (FuncId × Contract)} (hG : Good Try.prog (envOf l)) : Good Try.prog (envOf ((90, cGrow) :: l)) := by
  obtain ⟨c, hc⟩ := Option.isSome_iff_exists.1 (show Try.f90.body.isSome = true by kernel_rfl)
  exact good_cons hG Try.func90 hc (by kernel_rfl) grow_kept

def sumLen (l : List (List (List Int × Int))) : Nat := l.foldl (fun n x => n + x.length) 0
theorem sumLen_take {l : List (List (List Int × Int))} {i : Nat} (h : i < l.length) : sumLen (l.take (i + 1)) = sumLen (l.take i) + l[i].length := by
  unfold sumLen
  rw [List.take_succ_eq_append_getElem h, List.foldl_append]; rfl
theorem sumLen_le {l : List (List (List Int × Int))} (h : ∀ y ∈ l, y.length ≤ 1000) : ∀ i, i ≤ l.length → sumLen (l.take i) ≤ i * 1000
  | 0, _ => by simp [sumLen]
  | i + 1, hi => by
    have := sumLen_le h i (by omega)
    have h2 := h _ (List.getElem_mem (show i < l.length by omega))
    rw [sumLen_take (by omega)]; omega
theorem flatten_take {l : List (List (List Int × Int))} {i : Nat} (h : i < l.length) : (l.take (i + 1)).flatten = (l.take i).flatten ++ l[i] := by
  rw [List.take_succ_eq_append_getElem h, List.flatten_append]; simp
theorem flatten_len : ∀ (l : List (List (List Int × Int))) (i : Nat), i ≤ l.length → ((l.take i).flatten).length = sumLen (l.take i)
  | l, 0, _ => by simp [sumLen]
  | l, i + 1, h => by rw [flatten_take (by omega), sumLen_take (by omega), List.length_append, flatten_len l i (by omega)]

theorem k72 (hG : Good Try.prog (envOf [(90, cGrow)])) : v72.Kept Try.prog 66 := by
  rintro ⟨l, ⟨⟩⟩ hpre k hk
  change List (List (List Int × Int)) at l
  refine aspec hmix hG Try.func66 tx72 (Eq.mpr (eq72 l k) ?_)
  replace hk : k (.imm tRu (List.flatten l) false) [] := hk
  unfold vc72
  obtain ⟨h1, h2⟩ := hpre
  have h1 : l.length ≤ 100 := h1
  have h2 : ∀ y ∈ l, y.length ≤ 1000 := h2
  refine Loop.upto (fun i => (l, ((sumLen (l.take i) : Nat) : Int), l, ((l.length : Nat) : Int), (i : Int), ())) (fun i => True) l.length rfl trivial ?_ ?_
  · intro i K hi hp hK
    dsimp only
    rw [br_decide]
    refine ⟨fun _ => ?_, fun h => absurd hi (by omega)⟩
    try simp only [Int.toNat_natCast]
    have hK := hK trivial
    have hs := sumLen_take hi
    have hle := sumLen_le h2 (i + 1) (by omega)
    rw [hs] at hK hle
    refine ⟨⟨by omega, by omega⟩, fits64 (by omega) (by omega), ?_⟩
    rw [br_decide]
    exact ⟨fun h => absurd h (by omega), fun _ => ⟨fits64 (by omega) (by omega), hK⟩⟩
  · intro K hp
    dsimp only
    rw [br_decide]
    refine ⟨fun h => absurd h (by omega), fun _ => ?_⟩
    rw [List.take_length]
    have hle := sumLen_le h2 l.length (Nat.le_refl _)
    rw [List.take_length] at hle
    refine ⟨⟨by omega, by omega⟩, ?_⟩
    refine Loop.upto (fun i => (l, ((l.length : Nat) : Int), (i : Int), (l.take i).flatten, ())) (fun i => True) l.length rfl trivial ?_ ?_
    · intro j K_j hj hp_j hK_j
      dsimp only
      rw [br_decide]
      refine ⟨fun _ => ?_, fun h => absurd hj (by omega)⟩
      try simp only [Int.toNat_natCast]
      have hK := hK_j trivial
      have hfl := flatten_len l j (by omega)
      have hs := sumLen_take hj
      have hle := sumLen_le h2 (j + 1) (by omega)
      rw [hs] at hle
      rw [flatten_take hj] at hK
      exact ⟨⟨by omega, by omega⟩, by rw [hfl]; simp only [big]; omega, fits64 (by omega) (by omega), hK⟩
    · intro K_j hp_j
      dsimp only
      rw [br_decide]
      refine ⟨fun h => absurd h (by omega), fun _ => ?_⟩
      rw [List.take_length]
      exact hk
end Go.Abs.Label
end

section
/- Conditions and their equations, printed by a program. -/
open Go.Proofs
set_option maxRecDepth 100000
set_option linter.unusedVariables false
namespace Go.Abs.Label
def vc76t (w : Int) (rs : List (List Int × Int)) (k : AVal → List Cont → Prop) : Prop :=
  (k (Go.Abs.AVal.agg ((Go.Abs.AVal.int Go.IntKind.i64 w) :: ((Go.Abs.AVal.imm (Go.Abs.Ty.pair (Go.Abs.Ty.slice (Go.Abs.Ty.int Go.IntKind.i64)) (Go.Abs.Ty.int Go.IntKind.i64)) rs Bool.true) :: []))) [])
theorem eq76t (w : Int) (rs : List (List Int × Int)) (k : AVal → List Cont → Prop) : awpF (envOf []) Try.prog kt 67 false Try.f67 (v76t.args (w, rs, ())) (v76t.conts (w, rs, ())) k = vc76t w rs k := by kernel_rfl

def vc37  (k : AVal → List Cont → Prop) : Prop :=
  (Go.Abs.Label.v77.p ((2 : Int), (((0 : Int) :: ((1 : Int) :: ([] : List Int))), ()))) ∧
  (Go.Abs.Label.v77.p ((3 : Int), (((2 : Int) :: ([] : List Int)), ()))) ∧
  (Go.Abs.Label.v77.p ((-(1 : Int) : Int), (((3 : Int) :: ((4 : Int) :: ([] : List Int))), ()))) ∧
  (Go.Abs.Label.v77.p ((4 : Int), (((0 : Int) :: ([] : List Int)), ()))) ∧
  (Go.Abs.Label.v77.p ((1 : Int), (((5 : Int) :: ([] : List Int)), ()))) ∧
  True ∧
  (k (Go.Abs.AVal.agg ((Go.Abs.AVal.int Go.IntKind.i64 (6 : Int)) :: ((Go.Abs.AVal.imm (Go.Abs.Ty.pair (Go.Abs.Ty.slice (Go.Abs.Ty.int Go.IntKind.i64)) (Go.Abs.Ty.int Go.IntKind.i64)) ((((0 : Int) :: ((1 : Int) :: ([] : List Int))), (2 : Int)) :: ((((2 : Int) :: ([] : List Int)), (3 : Int)) :: ((((3 : Int) :: ((4 : Int) :: ([] : List Int))), (-(1 : Int) : Int)) :: ((((0 : Int) :: ([] : List Int)), (4 : Int)) :: ((((5 : Int) :: ([] : List Int)), (1 : Int)) :: ([] : List ((List Int) × Int))))))) Bool.true) :: []))) [])
theorem eq37  (k : AVal → List Cont → Prop) : awpF (envOf [(68, mkC [v77]), (67, cGuild)]) Try.prog kt 34 false Try.f34 (v37.args ()) (v37.conts ()) k = vc37  k := by kernel_rfl
theorem tx37 : (Try.f34.body.map Code.textsOk).getD true = true := by kernel_rfl

def vc38  (k : AVal → List Cont → Prop) : Prop :=
  (Go.Abs.Label.v37.p ()) ∧
  (Go.Abs.Label.v77.p ((3 : Int), (((0 : Int) :: ((5 : Int) :: ([] : List Int))), ()))) ∧
  (((List.length Go.Abs.Label.fiveR) + (List.length ((((0 : Int) :: ((5 : Int) :: ([] : List Int))), (3 : Int)) :: ([] : List ((List Int) × Int))))) ≤ Go.Abs.big) ∧
  ((0 : Nat) < (List.length ((((0 : Int) :: ((5 : Int) :: ([] : List Int))), (3 : Int)) :: ([] : List ((List Int) × Int))))) ∧
  True ∧
  (k (Go.Abs.AVal.agg ((Go.Abs.AVal.int Go.IntKind.i64 (6 : Int)) :: ((Go.Abs.AVal.imm (Go.Abs.Ty.pair (Go.Abs.Ty.slice (Go.Abs.Ty.int Go.IntKind.i64)) (Go.Abs.Ty.int Go.IntKind.i64)) (Go.Abs.Label.fiveR ++ ((((0 : Int) :: ((5 : Int) :: ([] : List Int))), (3 : Int)) :: ([] : List ((List Int) × Int)))) Bool.false) :: []))) [])
theorem eq38  (k : AVal → List Cont → Prop) : awpF (envOf [(34, mkC [v37]), (68, mkC [v77]), (67, cGuild)]) Try.prog kt 41 false Try.f41 (v38.args ()) (v38.conts ()) k = vc38  k := by kernel_rfl
theorem tx38 : (Try.f41.body.map Code.textsOk).getD true = true := by kernel_rfl

def vc10  (k : AVal → List Cont → Prop) : Prop :=
  (Go.Abs.Label.v37.p ()) ∧
  (Go.Abs.Label.v38.p ()) ∧
  (Go.Abs.Label.v39.p (((0 : Int) :: ((5 : Int) :: ([] : List Int))), ())) ∧
  (Go.Abs.Label.v11.p ((6 : Int), (Go.Abs.Label.fiveR, (((0 : Int) :: ((5 : Int) :: ([] : List Int))), ())))) ∧
  (Go.Abs.Label.v39.p (((1 : Int) :: ((0 : Int) :: ([] : List Int))), ())) ∧
  (Go.Abs.Label.v11.p ((6 : Int), (Go.Abs.Label.fiveR, (((1 : Int) :: ((0 : Int) :: ([] : List Int))), ())))) ∧
  (Go.Abs.Label.v39.p (((0 : Int) :: ((1 : Int) :: ([] : List Int))), ())) ∧
  (Go.Abs.Label.v13.p ((6 : Int), (Go.Abs.Label.fiveR, (((0 : Int) :: ((1 : Int) :: ([] : List Int))), ())))) ∧
  (Go.Abs.Label.v39.p (((0 : Int) :: ([] : List Int)), ())) ∧
  (Go.Abs.Label.v13.p ((6 : Int), (Go.Abs.Label.fiveR, (((0 : Int) :: ([] : List Int)), ())))) ∧
  (Go.Abs.Label.v39.p (((0 : Int) :: ((5 : Int) :: ([] : List Int))), ())) ∧
  (Go.Abs.Label.v39.p (((4 : Int) :: ((0 : Int) :: ((1 : Int) :: ([] : List Int)))), ())) ∧
  (Go.Abs.Label.v33.p ((6 : Int), (Go.Abs.Label.fiveR, (((0 : Int) :: ((5 : Int) :: ([] : List Int))), ((3 : Int), (((4 : Int) :: ((0 : Int) :: ((1 : Int) :: ([] : List Int)))), ())))))) ∧
  (Go.Abs.Label.v39.p (((0 : Int) :: ((5 : Int) :: ([] : List Int))), ())) ∧
  (Go.Abs.Label.v39.p (((0 : Int) :: ((1 : Int) :: ([] : List Int))), ())) ∧
  (Go.Abs.Label.v33.p ((6 : Int), (Go.Abs.Label.fiveR, (((0 : Int) :: ((5 : Int) :: ([] : List Int))), ((3 : Int), (((0 : Int) :: ((1 : Int) :: ([] : List Int))), ())))))) ∧
  (Go.Abs.Label.v39.p (((0 : Int) :: ((5 : Int) :: ([] : List Int))), ())) ∧
  (Go.Abs.Label.v39.p (((4 : Int) :: ((0 : Int) :: ([] : List Int))), ())) ∧
  (Go.Abs.Label.v33.p ((6 : Int), (Go.Abs.Label.fiveR, (((0 : Int) :: ((5 : Int) :: ([] : List Int))), ((3 : Int), (((4 : Int) :: ((0 : Int) :: ([] : List Int))), ())))))) ∧
  (Go.Abs.Label.v39.p (((0 : Int) :: ((5 : Int) :: ([] : List Int))), ())) ∧
  (Go.Abs.Label.v39.p (((4 : Int) :: ((0 : Int) :: ((1 : Int) :: ((3 : Int) :: ((2 : Int) :: ([] : List Int)))))), ())) ∧
  (Go.Abs.Label.v33.p ((6 : Int), (Go.Abs.Label.fiveR, (((0 : Int) :: ((5 : Int) :: ([] : List Int))), ((-(1 : Int) : Int), (((4 : Int) :: ((0 : Int) :: ((1 : Int) :: ((3 : Int) :: ((2 : Int) :: ([] : List Int)))))), ())))))) ∧
  (Go.Abs.Label.v39.p (((0 : Int) :: ([] : List Int)), ())) ∧
  (Go.Abs.Label.v33.p ((6 : Int), (Go.Abs.Label.fiveR, (((0 : Int) :: ([] : List Int)), ((6 : Int), (([] : List Int), ())))))) ∧
  (Go.Abs.Label.v39.p (((0 : Int) :: ((5 : Int) :: ([] : List Int))), ())) ∧
  (Go.Abs.Label.v32.p ((6 : Int), (Go.Abs.Label.fiveR, (((0 : Int) :: ((5 : Int) :: ([] : List Int))), ((3 : Int), ()))))) ∧
  (Go.Abs.Label.v39.p (((0 : Int) :: ([] : List Int)), ())) ∧
  (Go.Abs.Label.v32.p ((6 : Int), (Go.Abs.Label.fiveR, (((0 : Int) :: ([] : List Int)), ((-(1 : Int) : Int), ()))))) ∧
  (Go.Abs.Label.v39.p (((0 : Int) :: ((1 : Int) :: ((2 : Int) :: ((3 : Int) :: ((4 : Int) :: ((5 : Int) :: ([] : List Int))))))), ())) ∧
  (Go.Abs.Label.v18.p ((6 : Int), (Go.Abs.Label.fiveR, (((0 : Int) :: ((1 : Int) :: ((2 : Int) :: ((3 : Int) :: ((4 : Int) :: ((5 : Int) :: ([] : List Int))))))), ((3 : Int), ()))))) ∧
  (Go.Abs.Label.v39.p (((0 : Int) :: ((1 : Int) :: ((2 : Int) :: ((3 : Int) :: ((4 : Int) :: ((5 : Int) :: ([] : List Int))))))), ())) ∧
  (Go.Abs.Label.v20.p ((6 : Int), (Go.Abs.Label.fiveR, (((0 : Int) :: ((1 : Int) :: ((2 : Int) :: ((3 : Int) :: ((4 : Int) :: ((5 : Int) :: ([] : List Int))))))), ())))) ∧
  (Go.Abs.Label.v39.p (((2 : Int) :: ((3 : Int) :: ((4 : Int) :: ([] : List Int)))), ())) ∧
  (Go.Abs.Label.v23.p ((6 : Int), (Go.Abs.Label.fiveR, (((2 : Int) :: ((3 : Int) :: ((4 : Int) :: ([] : List Int)))), ())))) ∧
  (Go.Abs.Label.v25.p ((6 : Int), (Go.Abs.Label.fiveR, ()))) ∧
  (Go.Abs.Label.v27.p ((6 : Int), (Go.Abs.Label.sixR, ((5 : Int), ())))) ∧
  (Go.Abs.Label.v27.p ((6 : Int), (Go.Abs.Label.fiveR, ((0 : Int), ())))) ∧
  (Go.Abs.Label.v27.p ((6 : Int), (Go.Abs.Label.fiveR, ((9 : Int), ())))) ∧
  (Go.Abs.Label.v39.p (((0 : Int) :: ((1 : Int) :: ((2 : Int) :: ((3 : Int) :: ((4 : Int) :: ((5 : Int) :: ([] : List Int))))))), ())) ∧
  (Go.Abs.Label.v17.p ((Go.Abs.Label.folL (6 : Int) Go.Abs.Label.fiveR ((0 : Int) :: ((5 : Int) :: ([] : List Int)))), (((0 : Int) :: ((1 : Int) :: ((2 : Int) :: ((3 : Int) :: ((4 : Int) :: ((5 : Int) :: ([] : List Int))))))), ()))) ∧
  (Go.Abs.Label.v39.p (((0 : Int) :: ((5 : Int) :: ([] : List Int))), ())) ∧
  (Go.Abs.Label.v40.p ((6 : Int), (Go.Abs.Label.fiveR, (((0 : Int) :: ((5 : Int) :: ([] : List Int))), ((3 : Int), ((Go.Abs.Label.stepsL (6 : Int) Go.Abs.Label.fiveR ((0 : Int) :: ((5 : Int) :: ([] : List Int))) (3 : Int)), ())))))) ∧
  (Go.Abs.Label.v39.p (((0 : Int) :: ((1 : Int) :: ([] : List Int))), ())) ∧
  (Go.Abs.Label.v39.p (((0 : Int) :: ((5 : Int) :: ([] : List Int))), ())) ∧
  (Go.Abs.Label.v39.p (((2 : Int) :: ([] : List Int)), ())) ∧
  (Go.Abs.Label.v39.p (((3 : Int) :: ([] : List Int)), ())) ∧
  (Go.Abs.Label.v41.p ((((0 : Int) :: ((1 : Int) :: ([] : List Int))) :: (((0 : Int) :: ((5 : Int) :: ([] : List Int))) :: (((2 : Int) :: ([] : List Int)) :: (((3 : Int) :: ([] : List Int)) :: ([] : List (List Int)))))), ())) ∧
  (Go.Abs.Label.v22.p ((Go.Abs.Label.reaL (6 : Int) Go.Abs.Label.fiveR ((0 : Int) :: ((1 : Int) :: ((2 : Int) :: ((3 : Int) :: ((4 : Int) :: ((5 : Int) :: ([] : List Int))))))) (3 : Int)), ((((0 : Int) :: ((1 : Int) :: ([] : List Int))) :: (((0 : Int) :: ((5 : Int) :: ([] : List Int))) :: (((2 : Int) :: ([] : List Int)) :: (((3 : Int) :: ([] : List Int)) :: ([] : List (List Int)))))), ()))) ∧
  br (((Go.Abs.Label.eqLL (Go.Abs.Label.reaL (6 : Int) Go.Abs.Label.fiveR ((0 : Int) :: ((1 : Int) :: ((2 : Int) :: ((3 : Int) :: ((4 : Int) :: ((5 : Int) :: ([] : List Int))))))) (3 : Int)) (((0 : Int) :: ((1 : Int) :: ([] : List Int))) :: (((0 : Int) :: ((5 : Int) :: ([] : List Int))) :: (((2 : Int) :: ([] : List Int)) :: (((3 : Int) :: ([] : List Int)) :: ([] : List (List Int))))))) == Bool.true))
   ((Go.Abs.Label.v39.p (((0 : Int) :: ((5 : Int) :: ([] : List Int))), ())) ∧
   (Go.Abs.Label.v41.p ((((0 : Int) :: ((5 : Int) :: ([] : List Int))) :: ([] : List (List Int))), ())) ∧
   (Go.Abs.Label.v22.p ((Go.Abs.Label.keyL (6 : Int) Go.Abs.Label.fiveR ((0 : Int) :: ((1 : Int) :: ((2 : Int) :: ((3 : Int) :: ((4 : Int) :: ((5 : Int) :: ([] : List Int)))))))), ((((0 : Int) :: ((5 : Int) :: ([] : List Int))) :: ([] : List (List Int))), ()))) ∧
   (Go.Abs.Label.v39.p (((4 : Int) :: ([] : List Int)), ())) ∧
   (Go.Abs.Label.v17.p ((Go.Abs.Label.takeL (6 : Int) Go.Abs.Label.fiveR ((2 : Int) :: ((3 : Int) :: ((4 : Int) :: ([] : List Int))))), (((4 : Int) :: ([] : List Int)), ()))) ∧
   (k (Go.Abs.AVal.bool (Bool.not (Go.Abs.Label.idleB (6 : Int) Go.Abs.Label.fiveR (0 : Int)))) []))
   ((k (Go.Abs.AVal.bool Bool.false) []))
theorem eq10  (k : AVal → List Cont → Prop) : awpF (envOf [(34, mkC [v37]), (41, mkC [v38]), (36, mkC [v39]), (35, mkC [v11]), (37, mkC [v13]), (16, mkC [v33]), (14, mkC [v32]), (24, mkC [v18]), (28, mkC [v20]), (30, mkC [v23]), (23, mkC [v25]), (32, mkC [v27]), (29, mkC [v17]), (17, mkC [v40]), (39, mkC [v41]), (38, mkC [v22])]) Try.prog kt 13 false Try.f13 (v10.args ()) (v10.conts ()) k = vc10  k := by kernel_rfl
theorem tx10 : (Try.f13.body.map Code.textsOk).getD true = true := by kernel_rfl

end Go.Abs.Label
end

section
/- The label's functions keep their contracts: the examples; what follows, as the statements ask it. -/
open Go.Proofs
set_option maxRecDepth 100000
set_option linter.unusedVariables false
namespace Go.Abs.Label

theorem k76t (hG : Good Try.prog (envOf [])) : v76t.Kept Try.prog 67 := by
  rintro ⟨w, rs, ⟨⟩⟩ hpre k hk
  change Int at w
  change List (List Int × Int) at rs
  refine aspec hmix hG Try.func67 tx76 (Eq.mpr (eq76t w rs k) ?_)
  replace hk : k (.agg [rI w, .imm tRu rs true]) [] := hk
  unfold vc76t
  exact hk

theorem guild_kept : ∀ us cs k, cGuild.run us cs k → ASpec Try.prog 67 us cs k := by
  rintro us cs k ⟨h1, h2⟩
  have h1 : guildPre us cs := h1
  unfold guildPre at h1
  split at h1
  · rename_i n l f _
    cases f with
    | false => exact k76 good_nil (n, l, ()) trivial k h2
    | true => exact k76t good_nil (n, l, ()) trivial k h2
  · exact h1.elim
theorem g76 {l : List (FuncId × Contract)} (hG : Good Try.prog (envOf l)) : Good Try.prog (envOf ((67, cGuild) :: l)) := by
  obtain ⟨c, hc⟩ := Option.isSome_iff_exists.1 (show Try.f67.body.isSome = true by kernel_rfl)
  exact good_cons hG Try.func67 hc (by kernel_rfl) guild_kept

theorem k37 (hG : Good Try.prog (envOf [(68, mkC [v77]), (67, cGuild)])) : v37.Kept Try.prog 34 := by
  rintro ⟨⟩ hpre k hk
  refine aspec hmix hG Try.func34 tx37 (Eq.mpr (eq37  k) ?_)
  replace hk : k (.agg [rI 6, .imm tRu fiveR true]) [] := hk
  unfold vc37
  exact ⟨trivial, trivial, trivial, trivial, trivial, trivial, hk⟩

theorem k38 (hG : Good Try.prog (envOf [(34, mkC [v37]), (68, mkC [v77]), (67, cGuild)])) : v38.Kept Try.prog 41 := by
  rintro ⟨⟩ hpre k hk
  refine aspec hmix hG Try.func41 tx38 (Eq.mpr (eq38  k) ?_)
  replace hk : k (.agg [rI 6, .imm tRu sixR false]) [] := hk
  unfold vc38
  exact ⟨trivial, trivial, by decide, by decide, trivial, hk⟩

/-! ### lists of words, and sets -/
def shortB (x : List Int) : Bool := decide (x.length ≤ 1000)
theorem k10 (hG : Good Try.prog (envOf [(34, mkC [v37]), (41, mkC [v38]), (36, mkC [v39]), (35, mkC [v11]), (37, mkC [v13]), (16, mkC [v33]), (14, mkC [v32]), (24, mkC [v18]), (28, mkC [v20]), (30, mkC [v23]), (23, mkC [v25]), (32, mkC [v27]), (29, mkC [v17]), (17, mkC [v40]), (39, mkC [v41]), (38, mkC [v22])])) : v10.Kept Try.prog 13 := by
  rintro ⟨⟩ hpre k hk
  refine aspec hmix hG Try.func13 tx10 (Eq.mpr (eq10  k) ?_)
  replace hk : k (rBo true) [] := hk
  unfold vc10
  have l5 : fiveR.length = 5 := rfl
  have s5 : smallG fiveR := by decide
  have s6 : smallG sixR := by decide
  have hr : reaL 6 fiveR [0, 1, 2, 3, 4, 5] 3 = [[0, 1], [0, 5], [2], [3]] := by
    have e1 : wordErr 6 fiveR [0, 1, 2, 3, 4, 5] 3 = 0 := by decide
    have e2 : (minE (goodsR 6 fiveR (andI 0 3) (bitsI [0, 1, 2, 3, 4, 5]))).map (fun e => listI e.2.1) = [[0, 1], [2], [3], [0, 5]] := by decide
    unfold reaL listsE
    rw [if_pos e1, e2]
    exact (sortLL_unique (by decide) (by decide)).symm
  have hkey : keyL 6 fiveR [0, 1, 2, 3, 4, 5] = [[0, 5]] := by
    have e1 : labelErr 6 fiveR [0, 1, 2, 3, 4, 5] = 0 := by decide
    have e2 : (fewE (minE (goodsK 6 fiveR (fromI 6 fiveR (bitsI [0, 1, 2, 3, 4, 5])) (bitsI [0, 1, 2, 3, 4, 5])))).map (fun e => listI e.2.1) = [[0, 5]] := by decide
    unfold keyL listsE
    rw [if_pos e1, e2]
    exact (sortLL_unique (by decide) (by decide)).symm
  have hst : (stepsL 6 fiveR [0, 5] 3).length ≤ 12 := by
    unfold stepsL
    split
    · exact stepL_len _ _ _ _
    · exact Nat.zero_le _
  have hfo : folL 6 fiveR [0, 5] = [0, 1, 2, 3, 4, 5] := by decide
  have hta : takeL 6 fiveR [2, 3, 4] = [4] := by decide
  have hid : idleB 6 fiveR 0 = false := by decide
  rw [hr, hkey, hfo, hta, hid]
  have p2 : ∀ l : List Int, l.length ≤ 12 → v11.p (6, fiveR, l, ()) := fun l h => ⟨s5, (show l.length ≤ 1000 by omega)⟩
  have p13 : ∀ l : List Int, l.length ≤ 12 → v13.p (6, fiveR, l, ()) := fun l h => ⟨s5, (show l.length ≤ 1000 by omega)⟩
  have p33 : ∀ (l : List Int) (x : Int) (s : List Int), l.length ≤ 12 → s.length ≤ 12 → v33.p (6, fiveR, l, x, s, ()) := fun l x s h h2 => ⟨s5, (show l.length ≤ 1000 by omega), (show s.length ≤ 1000 by omega)⟩
  have p40 : ∀ (l : List Int) (x : Int) (s : List Int), l.length ≤ 12 → s.length ≤ 12 → v40.p (6, fiveR, l, x, s, ()) := fun l x s h h2 => ⟨s5, (show l.length ≤ 1000 by omega), (show s.length ≤ 1000 by omega)⟩
  have p32 : ∀ (l : List Int) (x : Int), l.length ≤ 12 → v32.p (6, fiveR, l, x, ()) := fun l x h => ⟨s5, (show l.length ≤ 1000 by omega)⟩
  have p18 : ∀ (l : List Int) (x : Int), l.length ≤ 12 → v18.p (6, fiveR, l, x, ()) := fun l x h => ⟨s5, (show l.length ≤ 1000 by omega)⟩
  have p20 : ∀ (l : List Int), l.length ≤ 12 → v20.p (6, fiveR, l, ()) := fun l h => ⟨s5, (show l.length ≤ 1000 by omega)⟩
  have p23 : ∀ (l : List Int), l.length ≤ 12 → v23.p (6, fiveR, l, ()) := fun l h => ⟨s5, (show l.length ≤ 1000 by omega)⟩
  have p17 : ∀ (l m : List Int), l.length ≤ 12 → m.length ≤ 12 → v17.p (l, m, ()) := fun l m h h2 => ⟨(show l.length ≤ 1152921504606846976 by omega), (show m.length ≤ 1152921504606846976 by omega)⟩
  have p22 : ∀ (l m : List (List Int)), l.length ≤ 12 → m.length ≤ 12 → l.all shortB = true → m.all shortB = true → v22.p (l, m, ()) := fun l m h h2 h3 h4 => ⟨(show l.length ≤ 2000 by omega), (show m.length ≤ 2000 by omega), fun x hx => of_decide_eq_true (List.all_eq_true.1 h3 x hx), fun x hx => of_decide_eq_true (List.all_eq_true.1 h4 x hx)⟩
  refine ⟨trivial, trivial, trivial, p2 _ (by decide), trivial, p2 _ (by decide), trivial, p13 _ (by decide), trivial, p13 _ (by decide), trivial, trivial, p33 _ _ _ (by decide) (by decide), trivial, trivial, p33 _ _ _ (by decide) (by decide), trivial, trivial, p33 _ _ _ (by decide) (by decide), trivial, trivial, p33 _ _ _ (by decide) (by decide), trivial, p33 _ _ _ (by decide) (by decide), trivial, p32 _ _ (by decide), trivial, p32 _ _ (by decide), trivial, p18 _ _ (by decide), trivial, p20 _ (by decide), trivial, p23 _ (by decide), s5, s6, s5, s5, trivial, p17 _ _ (by decide) (by decide), trivial, p40 _ _ _ (by decide) hst, trivial, trivial, trivial, trivial, trivial, p22 _ _ (by decide) (by decide) (by decide) (by decide), ?_⟩
  rw [br_bt]
  exact ⟨fun _ => ⟨trivial, trivial, p22 _ _ (by decide) (by decide) (by decide) (by decide), trivial, p17 _ _ (by decide) (by decide), hk⟩, fun h => absurd h (by decide)⟩
end Go.Abs.Label
end

section
/- Conditions and their equations, printed by a program. -/
open Go.Proofs
set_option maxRecDepth 100000
set_option linter.unusedVariables false
namespace Go.Abs.Label
end Go.Abs.Label
end

section
/- The label's statements: which guilds are valid, what follows, what is banned. -/
open Go.Proofs
set_option maxRecDepth 100000
set_option linter.unusedVariables false
namespace Go.Abs.Label
theorem br_yes {b : Bool} {p q : Prop} (h : b = true) (hp : p) : br b p q := by subst h; exact hp
end Go.Abs.Label
end

section
/- Plain laws of labels: reasons, keys, what is taken, idle rules: two ways agree. -/
open Go.Proofs
set_option maxRecDepth 100000
set_option linter.unusedVariables false
namespace Go.Abs.Label

/-! ### what follows -/
/-! ### the parts of a label, two ways -/
/-! ### reasons -/
end Go.Abs.Label
end

section
/- Plain laws of labels: keys, what is taken, idle rules: two ways agree. -/
open Go.Proofs
set_option maxRecDepth 100000
set_option linter.unusedVariables false
namespace Go.Abs.Label

/-! ### keys -/
/-! ### what is taken -/
theorem best_fold {bet : List Int → List Int → Bool} (hO : Order bet) : ∀ (L : List (List Int)) (b : List Int),
    (L.foldl (fun b y => if bet y b then y else b) b = b ∨ L.foldl (fun b y => if bet y b then y else b) b ∈ L) ∧ bet b (L.foldl (fun b y => if bet y b then y else b) b) = false ∧ ∀ y ∈ L, bet y (L.foldl (fun b y => if bet y b then y else b) b) = false
  | [], b => ⟨.inl rfl, hO.irr b, by simp⟩
  | x :: L, b => by
    rw [List.foldl_cons]
    obtain ⟨h1, h2, h3⟩ := best_fold hO L (if bet x b then x else b)
    generalize L.foldl (fun b y => if bet y b then y else b) (if bet x b then x else b) = r at h1 h2 h3 ⊢
    by_cases hx : bet x b = true
    · rw [if_pos hx] at h1 h2
      refine ⟨.inr (h1.elim (fun e => by rw [e]; simp) (fun h => List.mem_cons_of_mem _ h)), ?_, fun y hy => ?_⟩
      · rw [← Bool.not_eq_true]
        intro hb
        rw [hO.tr _ _ _ hx hb] at h2; cases h2
      · rcases List.mem_cons.1 hy with rfl | hy
        · exact h2
        · exact h3 y hy
    · rw [if_neg hx] at h1 h2
      refine ⟨h1.imp_right (fun h => List.mem_cons_of_mem _ h), h2, fun y hy => ?_⟩
      rcases List.mem_cons.1 hy with rfl | hy
      · rw [← Bool.not_eq_true]
        intro hb
        rcases hO.tot b y with e | e | e
        · subst e; rw [hb] at h2; cases h2
        · rw [hO.tr _ _ _ e hb] at h2; cases h2
        · exact hx e
      · exact h3 y hy
end Go.Abs.Label
end

section
/- Plain laws of labels: idle rules, two ways; steps lead to what follows. -/
open Go.Proofs
set_option maxRecDepth 100000
set_option linter.unusedVariables false
namespace Go.Abs.Label

/-! ### fewer rules -/
/-! ### steps -/
/-! the steps in order -/
end Go.Abs.Label
end

section
/- Plain laws of labels: the steps that are returned lead to what follows, and none can be left out. -/
open Go.Proofs
set_option maxRecDepth 100000
set_option linter.unusedVariables false
namespace Go.Abs.Label

/-- Whether a word follows, or a label is banned. -/
def isS (w : Int) (rs : List (List Int × Int)) (b : Nat) (word : Int) : Bool := if 0 ≤ word then (clo w rs b).testBit word.toNat else banned w rs b
end Go.Abs.Label
end

section
/- The label's statements: reasons and keys; what is taken, how many are closed, idle rules; steps; closed labels. -/
open Go.Proofs
set_option maxRecDepth 100000
set_option linter.unusedVariables false
namespace Go.Abs.Label

theorem p22 {a b : List (List Int)} (ha : a.length ≤ 1024 ∧ ∀ y ∈ a, y.length ≤ 10) (hb : b.length ≤ 1024 ∧ ∀ y ∈ b, y.length ≤ 10) : v22.p (a, b, ()) :=
  ⟨(show a.length ≤ 2000 by omega), (show b.length ≤ 2000 by omega), fun y hy => Nat.le_trans (ha.2 y hy) (by decide), fun y hy => Nat.le_trans (hb.2 y hy) (by decide)⟩
theorem p17 {a b : List Int} (ha : a.length ≤ 1000) (hb : b.length ≤ 1000) : v17.p (a, b, ()) :=
  ⟨(show a.length ≤ 1152921504606846976 by omega), (show b.length ≤ 1152921504606846976 by omega)⟩

theorem bestT_len {n : Nat} {L : List (List Int)} (h : ∀ y ∈ L, y.length ≤ n) : (bestT L).length ≤ n := by
  cases L with
  | nil => exact Nat.zero_le _
  | cons x L =>
    obtain ⟨c1, _, _⟩ := best_fold (bet := betT) order_betL L x
    show (L.foldl (fun b y => if betT y b then y else b) x).length ≤ n
    rcases c1 with e | e
    · rw [e]; exact h x (List.mem_cons_self ..)
    · exact h _ (List.mem_cons_of_mem _ e)
theorem take_len (w : Int) (rs : List (List Int × Int)) (l : List Int) : (takeL w rs l).length ≤ 10 := by
  unfold takeL
  split
  · refine bestT_len (fun y hy => ?_)
    obtain ⟨i, _, rfl⟩ := List.mem_map.1 hy
    exact listed_len _ 10
  · exact Nat.zero_le _

end Go.Abs.Label
end

section
/- The label's other statements: errors of steps, lists in order, words that are turned; steps. -/
open Go.Proofs
set_option maxRecDepth 100000
set_option linter.unusedVariables false
namespace Go.Abs.Label

end Go.Abs.Label
end

section
/- The label's other statements: one more word, one more rule; what is taken; idle rules. -/
open Go.Proofs
set_option maxRecDepth 100000
set_option linter.unusedVariables false
namespace Go.Abs.Label

end Go.Abs.Label
end

section
/- The label's other statements: idle rules; the examples. -/
open Go.Proofs
set_option maxRecDepth 100000
set_option linter.unusedVariables false
namespace Go.Abs.Label

theorem k210 (hG : Good Try.prog (envOf [(34, mkC [v37]), (35, mkC [v11]), (36, mkC [v39]), (37, mkC [v13]), (16, mkC [v33]), (14, mkC [v32]), (24, mkC [v18]), (28, mkC [v20]), (30, mkC [v23]), (32, mkC [v27]), (29, mkC [v17]), (38, mkC [v22]), (39, mkC [v41]), (40, mkC [v15]), (13, mkC [v10])])) : v210.Kept Try.prog 10 := by
  rintro ⟨⟩ hpre k hk
  refine aspec hmix hG Try.func10 txp10 (Eq.mpr (eq210  k) ?_)
  replace hk : k (rBo true) [] := hk
  unfold vc210
  have s5 : smallG fiveR := by decide
  have hr : reaL 6 fiveR [0, 1, 5] 2 = [[0, 1], [0, 5]] := by
    have e1 : wordErr 6 fiveR [0, 1, 5] 2 = 0 := by decide
    have e2 : (minE (goodsR 6 fiveR (andI 0 2) (bitsI [0, 1, 5]))).map (fun e => listI e.2.1) = [[0, 1], [0, 5]] := by decide
    unfold reaL listsE
    rw [if_pos e1, e2]
    exact (sortLL_unique (by decide) (by decide)).symm
  have hkey : keyL 6 fiveR [2, 3] = [[2]] := by
    have e1 : labelErr 6 fiveR [2, 3] = 0 := by decide
    have e2 : (fewE (minE (goodsK 6 fiveR (fromI 6 fiveR (bitsI [2, 3])) (bitsI [2, 3])))).map (fun e => listI e.2.1) = [[2]] := by decide
    unfold keyL listsE
    rw [if_pos e1, e2]
    exact (sortLL_unique (by decide) (by decide)).symm
  have hf1 : folL 6 fiveR [0, 1] = [0, 1, 2, 3, 4] := by decide
  have hf2 : folL 6 fiveR [2] = [2, 3] := by decide
  have hta : takeL 6 fiveR [0, 1] = [0] := by decide
  rw [hr, hkey, hf1, hf2, hta]
  have y1 : ∀ y ∈ ([[0, 1], [0, 5]] : List (List Int)), y.length ≤ 10 := by simp
  have y2 : ∀ y ∈ ([[2]] : List (List Int)), y.length ≤ 10 := by simp
  have p11 : ∀ l : List Int, l.length ≤ 12 → v11.p (6, fiveR, l, ()) := fun l h => ⟨s5, (show l.length ≤ 1000 by omega)⟩
  have p13 : ∀ l : List Int, l.length ≤ 12 → v13.p (6, fiveR, l, ()) := fun l h => ⟨s5, (show l.length ≤ 1000 by omega)⟩
  have p33 : ∀ (l : List Int) (x : Int) (s : List Int), l.length ≤ 12 → s.length ≤ 12 → v33.p (6, fiveR, l, x, s, ()) := fun l x s h h2 => ⟨s5, (show l.length ≤ 1000 by omega), (show s.length ≤ 1000 by omega)⟩
  have p32 : ∀ (l : List Int) (x : Int), l.length ≤ 12 → v32.p (6, fiveR, l, x, ()) := fun l x h => ⟨s5, (show l.length ≤ 1000 by omega)⟩
  have p18 : ∀ (l : List Int) (x : Int), l.length ≤ 12 → v18.p (6, fiveR, l, x, ()) := fun l x h => ⟨s5, (show l.length ≤ 1000 by omega)⟩
  have p20 : ∀ l : List Int, l.length ≤ 12 → v20.p (6, fiveR, l, ()) := fun l h => ⟨s5, (show l.length ≤ 1000 by omega)⟩
  have p23 : ∀ l : List Int, l.length ≤ 12 → v23.p (6, fiveR, l, ()) := fun l h => ⟨s5, (show l.length ≤ 1000 by omega)⟩
  have q17 : ∀ a b : List Int, a.length ≤ 12 → b.length ≤ 12 → v17.p (a, b, ()) := fun a b h1 h2 => p17 (by omega) (by omega)
  have q22 : ∀ a b : List (List Int), a.length ≤ 12 → b.length ≤ 12 → (∀ y ∈ a, y.length ≤ 10) → (∀ y ∈ b, y.length ≤ 10) → v22.p (a, b, ()) := fun a b h1 h2 h3 h4 => p22 ⟨by omega, h3⟩ ⟨by omega, h4⟩
  exact ⟨trivial, trivial, p11 _ (by decide), trivial, p11 _ (by decide), p11 _ (by decide), trivial, p13 _ (by decide), trivial, p13 _ (by decide), trivial, trivial, p33 _ _ _ (by decide) (by decide), trivial, p33 _ _ _ (by decide) (by decide), trivial, p33 _ _ _ (by decide) (by decide), trivial, p32 _ _ (by decide), trivial, p18 _ _ (by decide), trivial, p18 _ _ (by decide), trivial, p20 _ (by decide), trivial, p23 _ (by decide), s5, trivial, q17 _ _ (by decide) (by decide), trivial, q17 _ _ (by decide) (by decide), trivial, trivial, trivial, q22 _ _ (by decide) (by decide) y1 y1,
    br_yes (by decide) ⟨trivial, trivial, q22 _ _ (by decide) (by decide) y2 y2, trivial, q17 _ _ (by decide) (by decide), s5, trivial, hk⟩⟩
end Go.Abs.Label
end

section
/- The contracts put together (printed by a program). -/
open Go.Proofs
set_option maxRecDepth 100000
namespace Go.Abs.Label
theorem hc68 : HasCode Try.prog 68 := hasCode Try.func68 (by kernel_rfl) (by kernel_rfl)
theorem g77 : Keeps Try.prog 68 [v77] := keeps1 hc68 (k77 good_nil)
theorem hc34 : HasCode Try.prog 34 := hasCode Try.func34 (by kernel_rfl) (by kernel_rfl)
theorem g37 : Keeps Try.prog 34 [v37] := keeps1 hc34 (k37 (g77.add (g76 good_nil)))
theorem hc75 : HasCode Try.prog 75 := hasCode Try.func75 (by kernel_rfl) (by kernel_rfl)
theorem g82 : Keeps Try.prog 75 [v82] := keeps1 hc75 (k82 good_nil)
theorem hc91 : HasCode Try.prog 91 := hasCode Try.func91 (by kernel_rfl) (by kernel_rfl)
theorem g96 : Keeps Try.prog 91 [v96] := keeps1 hc91 (k96 (g82.add good_nil))
theorem hc74 : HasCode Try.prog 74 := hasCode Try.func74 (by kernel_rfl) (by kernel_rfl)
theorem g81 : Keeps Try.prog 74 [v81] := keeps1 hc74 (k81 (g96.add good_nil))
theorem hc43 : HasCode Try.prog 43 := hasCode Try.func43 (by kernel_rfl) (by kernel_rfl)
theorem g50 : Keeps Try.prog 43 [v50] := keeps1 hc43 (k50 (g81.add good_nil))
theorem hc70 : HasCode Try.prog 70 := hasCode Try.func70 (by kernel_rfl) (by kernel_rfl)
theorem g52 : Keeps Try.prog 70 [v52] := keeps1 hc70 (k52 good_nil)
theorem hc77 : HasCode Try.prog 77 := hasCode Try.func77 (by kernel_rfl) (by kernel_rfl)
theorem g83a : Keeps Try.prog 77 [v83a] := keeps1 hc77 (k83a (g52.add good_nil))
theorem hc72 : HasCode Try.prog 72 := hasCode Try.func72 (by kernel_rfl) (by kernel_rfl)
theorem g54 : Keeps Try.prog 72 [v54] := keeps1 hc72 (k54 (g50.add good_nil))
theorem hc71 : HasCode Try.prog 71 := hasCode Try.func71 (by kernel_rfl) (by kernel_rfl)
theorem g53 : Keeps Try.prog 71 [v53] := keeps1 hc71 (k53 (g54.add good_nil))
theorem g83b : Keeps Try.prog 77 [v83b] := keeps1 hc77 (k83b (g53.add good_nil))
theorem hc73 : HasCode Try.prog 73 := hasCode Try.func73 (by kernel_rfl) (by kernel_rfl)
theorem g55 : Keeps Try.prog 73 [v55] := keeps1 hc73 (k55 (g50.add good_nil))
theorem g83c : Keeps Try.prog 77 [v83c] := keeps1 hc77 (k83c (g55.add good_nil))
theorem hc69 : HasCode Try.prog 69 := hasCode Try.func69 (by kernel_rfl) (by kernel_rfl)
theorem g51a_51b_51c : Keeps Try.prog 69 [v51a, v51b, v51c] := ⟨hc69.code, fun v' hm => by simp at hm; rcases hm with rfl | rfl | rfl; exact (k51a (g83a.add good_nil)); exact (k51b (g83b.add good_nil)); exact (k51c (g83c.add good_nil))⟩
theorem hc40 : HasCode Try.prog 40 := hasCode Try.func40 (by kernel_rfl) (by kernel_rfl)
theorem g15 : Keeps Try.prog 40 [v15] := keeps1 hc40 (k15 (g50.add (g51a_51b_51c.add good_nil)))
theorem hc50 : HasCode Try.prog 50 := hasCode Try.func50 (by kernel_rfl) (by kernel_rfl)
theorem g57 : Keeps Try.prog 50 [v57] := keeps1 hc50 (k57 good_nil)
theorem hc49 : HasCode Try.prog 49 := hasCode Try.func49 (by kernel_rfl) (by kernel_rfl)
theorem g73 : Keeps Try.prog 49 [v73] := keeps1 hc49 (k73 (g57.add good_nil))
theorem hc42 : HasCode Try.prog 42 := hasCode Try.func42 (by kernel_rfl) (by kernel_rfl)
theorem g42 : Keeps Try.prog 42 [v42] := keeps1 hc42 (k42 (g15.add (g54.add (g73.add good_nil))))
theorem hc76 : HasCode Try.prog 76 := hasCode Try.func76 (by kernel_rfl) (by kernel_rfl)
theorem g78 : Keeps Try.prog 76 [v78] := keeps1 hc76 (k78 good_nil)
theorem hc100 : HasCode Try.prog 100 := hasCode Try.func100 (by kernel_rfl) (by kernel_rfl)
theorem g101 : Keeps Try.prog 100 [v101] := keeps1 hc100 (k101 good_nil)
theorem hc88 : HasCode Try.prog 88 := hasCode Try.func88 (by kernel_rfl) (by kernel_rfl)
theorem g87 : Keeps Try.prog 88 [v87] := keeps1 hc88 (k87 (g101.add good_nil))
theorem hc61 : HasCode Try.prog 61 := hasCode Try.func61 (by kernel_rfl) (by kernel_rfl)
theorem g66 : Keeps Try.prog 61 [v66] := keeps1 hc61 (k66 (g87.add good_nil))
theorem hc83 : HasCode Try.prog 83 := hasCode Try.func83 (by kernel_rfl) (by kernel_rfl)
theorem g79 : Keeps Try.prog 83 [v79] := keeps1 hc83 (k79 (g73.add (g66.add good_nil)))
theorem hc48 : HasCode Try.prog 48 := hasCode Try.func48 (by kernel_rfl) (by kernel_rfl)
theorem g59 : Keeps Try.prog 48 [v59] := keeps1 hc48 (k59 good_nil)
theorem hc53 : HasCode Try.prog 53 := hasCode Try.func53 (by kernel_rfl) (by kernel_rfl)
theorem g43 : Keeps Try.prog 53 [v43] := keeps1 hc53 (k43 (g78.add (g57.add (g79.add (g59.add good_nil)))))
theorem hc62 : HasCode Try.prog 62 := hasCode Try.func62 (by kernel_rfl) (by kernel_rfl)
theorem g44 : Keeps Try.prog 62 [v44] := keeps1 hc62 (k44 good_nil)
theorem hc35 : HasCode Try.prog 35 := hasCode Try.func35 (by kernel_rfl) (by kernel_rfl)
theorem g11 : Keeps Try.prog 35 [v11] := keeps1 hc35 (k11 (g42.add (g43.add (g44.add good_nil))))
theorem hc36 : HasCode Try.prog 36 := hasCode Try.func36 (by kernel_rfl) (by kernel_rfl)
theorem g39 : Keeps Try.prog 36 [v39] := keeps1 hc36 (k39 good_nil)
theorem hc84 : HasCode Try.prog 84 := hasCode Try.func84 (by kernel_rfl) (by kernel_rfl)
theorem g80 : Keeps Try.prog 84 [v80] := keeps1 hc84 (k80 (g73.add (g59.add good_nil)))
theorem g83d : Keeps Try.prog 77 [v83d] := keeps1 hc77 (k83d (g80.add good_nil))
theorem g51d : Keeps Try.prog 69 [v51d] := keeps1 hc69 (k51d (g83d.add good_nil))
theorem hc54 : HasCode Try.prog 54 := hasCode Try.func54 (by kernel_rfl) (by kernel_rfl)
theorem g48 : Keeps Try.prog 54 [v48] := keeps1 hc54 (k48 (g43.add (g79.add (g59.add (g80.add (g51d.add good_nil))))))
theorem hc37 : HasCode Try.prog 37 := hasCode Try.func37 (by kernel_rfl) (by kernel_rfl)
theorem g13 : Keeps Try.prog 37 [v13] := keeps1 hc37 (k13 (g42.add (g48.add good_nil)))
theorem hc16 : HasCode Try.prog 16 := hasCode Try.func16 (by kernel_rfl) (by kernel_rfl)
theorem g33 : Keeps Try.prog 16 [v33] := keeps1 hc16 (k33 (g42.add (g50.add (g73.add (g59.add (g57.add good_nil))))))
theorem hc78 : HasCode Try.prog 78 := hasCode Try.func78 (by kernel_rfl) (by kernel_rfl)
theorem g91 : Keeps Try.prog 78 [v91] := keeps1 hc78 (k91 (g73.add (g59.add good_nil)))
theorem g83e : Keeps Try.prog 77 [v83e] := keeps1 hc77 (k83e (g91.add good_nil))
theorem hc79 : HasCode Try.prog 79 := hasCode Try.func79 (by kernel_rfl) (by kernel_rfl)
theorem g92 : Keeps Try.prog 79 [v92] := keeps1 hc79 (k92 good_nil)
theorem hc80 : HasCode Try.prog 80 := hasCode Try.func80 (by kernel_rfl) (by kernel_rfl)
theorem g93 : Keeps Try.prog 80 [v93] := keeps1 hc80 (k93 good_nil)
theorem hc95 : HasCode Try.prog 95 := hasCode Try.func95 (by kernel_rfl) (by kernel_rfl)
theorem g105 : Keeps Try.prog 95 [v105] := keeps1 hc95 (k105 good_nil)
theorem hc94 : HasCode Try.prog 94 := hasCode Try.func94 (by kernel_rfl) (by kernel_rfl)
theorem g104 : Keeps Try.prog 94 [v104] := keeps1 hc94 (k104 good_nil)
theorem hc81 : HasCode Try.prog 81 := hasCode Try.func81 (by kernel_rfl) (by kernel_rfl)
theorem g94 : Keeps Try.prog 81 [v94] := keeps1 hc81 (k94 (g105.add (g104.add (g44.add (g33.add good_nil)))))
theorem hc44 : HasCode Try.prog 44 := hasCode Try.func44 (by kernel_rfl) (by kernel_rfl)
theorem g75 : Keeps Try.prog 44 [v75] := keeps1 hc44 (k75 (g78.add (g57.add (g59.add (g79.add (g83e.add (g73.add (g92.add (g93.add (g94.add good_nil))))))))))
theorem hc14 : HasCode Try.prog 14 := hasCode Try.func14 (by kernel_rfl) (by kernel_rfl)
theorem g32 : Keeps Try.prog 14 [v32] := keeps1 hc14 (k32 (g42.add (g50.add (g75.add good_nil))))
theorem hc55 : HasCode Try.prog 55 := hasCode Try.func55 (by kernel_rfl) (by kernel_rfl)
theorem g58 : Keeps Try.prog 55 [v58] := keeps1 hc55 (k58 (g43.add (g59.add good_nil)))
theorem hc52 : HasCode Try.prog 52 := hasCode Try.func52 (by kernel_rfl) (by kernel_rfl)
theorem g67 : Keeps Try.prog 52 [v67] := keeps1 hc52 (k67 good_nil)
theorem hc87 : HasCode Try.prog 87 := hasCode Try.func87 (by kernel_rfl) (by kernel_rfl)
theorem g86 : Keeps Try.prog 87 [v86] := keeps1 hc87 (k86 (g59.add good_nil))
theorem hc98 : HasCode Try.prog 98 := hasCode Try.func98 (by kernel_rfl) (by kernel_rfl)
theorem g99 : Keeps Try.prog 98 [v99] := keeps1 hc98 (k99 (g86.add good_nil))
theorem hc86 : HasCode Try.prog 86 := hasCode Try.func86 (by kernel_rfl) (by kernel_rfl)
theorem g85 : Keeps Try.prog 86 [v85] := keeps1 hc86 (k85 (g99.add good_nil))
theorem hc57 : HasCode Try.prog 57 := hasCode Try.func57 (by kernel_rfl) (by kernel_rfl)
theorem g61a : Keeps Try.prog 57 [v61a] := keeps1 hc57 (k61a (g58.add (g67.add (g66.add (g86.add (g85.add good_nil))))))
theorem hc101 : HasCode Try.prog 101 := hasCode Try.func101 (by kernel_rfl) (by kernel_rfl)
theorem g102 : Keeps Try.prog 101 [v102] := keeps1 hc101 (k102 good_nil)
theorem hc89 : HasCode Try.prog 89 := hasCode Try.func89 (by kernel_rfl) (by kernel_rfl)
theorem g89 : Keeps Try.prog 89 [v89] := keeps1 hc89 (k89 (g102.add good_nil))
theorem hc65 : HasCode Try.prog 65 := hasCode Try.func65 (by kernel_rfl) (by kernel_rfl)
theorem g70 : Keeps Try.prog 65 [v70] := keeps1 hc65 (k70 (g89.add good_nil))
theorem hc85 : HasCode Try.prog 85 := hasCode Try.func85 (by kernel_rfl) (by kernel_rfl)
theorem g84 : Keeps Try.prog 85 [v84] := keeps1 hc85 (k84 (g70.add good_nil))
theorem hc56 : HasCode Try.prog 56 := hasCode Try.func56 (by kernel_rfl) (by kernel_rfl)
theorem g60 : Keeps Try.prog 56 [v60] := keeps1 hc56 (k60 (g44.add (g84.add good_nil)))
theorem hc24 : HasCode Try.prog 24 := hasCode Try.func24 (by kernel_rfl) (by kernel_rfl)
theorem g18 : Keeps Try.prog 24 [v18] := keeps1 hc24 (k18 (g42.add (g50.add (g57.add (g58.add (g61a.add (g60.add good_nil)))))))
theorem hc58 : HasCode Try.prog 58 := hasCode Try.func58 (by kernel_rfl) (by kernel_rfl)
theorem g63 : Keeps Try.prog 58 [v63] := keeps1 hc58 (k63 (g43.add good_nil))
theorem g61b : Keeps Try.prog 57 [v61b] := keeps1 hc57 (k61b (g63.add (g67.add (g66.add (g86.add (g85.add good_nil))))))
theorem hc60 : HasCode Try.prog 60 := hasCode Try.func60 (by kernel_rfl) (by kernel_rfl)
theorem g65 : Keeps Try.prog 60 [v65] := keeps1 hc60 (k65 (g66.add good_nil))
theorem hc59 : HasCode Try.prog 59 := hasCode Try.func59 (by kernel_rfl) (by kernel_rfl)
theorem g64 : Keeps Try.prog 59 [v64] := keeps1 hc59 (k64 (g65.add good_nil))
theorem hc28 : HasCode Try.prog 28 := hasCode Try.func28 (by kernel_rfl) (by kernel_rfl)
theorem g20 : Keeps Try.prog 28 [v20] := keeps1 hc28 (k20 (g42.add (g43.add (g63.add (g61b.add (g64.add (g66.add (g60.add good_nil))))))))
theorem hc64 : HasCode Try.prog 64 := hasCode Try.func64 (by kernel_rfl) (by kernel_rfl)
theorem g69 : Keeps Try.prog 64 [v69] := keeps1 hc64 (k69 (g70.add good_nil))
theorem hc63 : HasCode Try.prog 63 := hasCode Try.func63 (by kernel_rfl) (by kernel_rfl)
theorem g68 : Keeps Try.prog 63 [v68] := keeps1 hc63 (k68 (g69.add good_nil))
theorem hc30 : HasCode Try.prog 30 := hasCode Try.func30 (by kernel_rfl) (by kernel_rfl)
theorem g23 : Keeps Try.prog 30 [v23] := keeps1 hc30 (k23 (g42.add (g48.add (g67.add (g44.add (g68.add good_nil))))))
theorem hc66 : HasCode Try.prog 66 := hasCode Try.func66 (by kernel_rfl) (by kernel_rfl)
theorem g72 : Keeps Try.prog 66 [v72] := keeps1 hc66 (k72 (g90 good_nil))
theorem hc32 : HasCode Try.prog 32 := hasCode Try.func32 (by kernel_rfl) (by kernel_rfl)
theorem g27 : Keeps Try.prog 32 [v27] := keeps1 hc32 (k27 (g42.add (g50.add (g72.add (g73.add (g48.add (g43.add (g57.add (g59.add good_nil)))))))))
theorem hc29 : HasCode Try.prog 29 := hasCode Try.func29 (by kernel_rfl) (by kernel_rfl)
theorem g17 : Keeps Try.prog 29 [v17] := keeps1 hc29 (k17 good_nil)
theorem hc38 : HasCode Try.prog 38 := hasCode Try.func38 (by kernel_rfl) (by kernel_rfl)
theorem g22 : Keeps Try.prog 38 [v22] := keeps1 hc38 (k22 (g17.add good_nil))
theorem hc39 : HasCode Try.prog 39 := hasCode Try.func39 (by kernel_rfl) (by kernel_rfl)
theorem g41 : Keeps Try.prog 39 [v41] := keeps1 hc39 (k41 good_nil)
theorem hc41 : HasCode Try.prog 41 := hasCode Try.func41 (by kernel_rfl) (by kernel_rfl)
theorem g38 : Keeps Try.prog 41 [v38] := keeps1 hc41 (k38 (g37.add (g77.add (g76 good_nil))))
theorem hc23 : HasCode Try.prog 23 := hasCode Try.func23 (by kernel_rfl) (by kernel_rfl)
theorem g25 : Keeps Try.prog 23 [v25] := keeps1 hc23 (k25 (g42.add (g67.add (g43.add (g48.add good_nil)))))
theorem hc26 : HasCode Try.prog 26 := hasCode Try.func26 (by kernel_rfl) (by kernel_rfl)
theorem g56 : Keeps Try.prog 26 [v56] := keeps1 hc26 (k56 good_nil)
theorem hc51 : HasCode Try.prog 51 := hasCode Try.func51 (by kernel_rfl) (by kernel_rfl)
theorem g16 : Keeps Try.prog 51 [v16] := keeps1 hc51 (k16 (g56.add good_nil))
theorem hc45 : HasCode Try.prog 45 := hasCode Try.func45 (by kernel_rfl) (by kernel_rfl)
theorem g45 : Keeps Try.prog 45 [v45] := keeps1 hc45 (k45 (g16.add (g56.add good_nil)))
theorem hc25 : HasCode Try.prog 25 := hasCode Try.func25 (by kernel_rfl) (by kernel_rfl)
theorem g47 : Keeps Try.prog 25 [v47] := keeps1 hc25 (k47 good_nil)
theorem hc17 : HasCode Try.prog 17 := hasCode Try.func17 (by kernel_rfl) (by kernel_rfl)
theorem g40 : Keeps Try.prog 17 [v40] := keeps1 hc17 (k40 (g45.add (g47.add good_nil)))
theorem hc13 : HasCode Try.prog 13 := hasCode Try.func13 (by kernel_rfl) (by kernel_rfl)
theorem g10 : Keeps Try.prog 13 [v10] := keeps1 hc13 (k10 (g37.add (g38.add (g39.add (g11.add (g13.add (g33.add (g32.add (g18.add (g20.add (g23.add (g25.add (g27.add (g17.add (g40.add (g41.add (g22.add good_nil)))))))))))))))))
theorem hc10 : HasCode Try.prog 10 := hasCode Try.func10 (by kernel_rfl) (by kernel_rfl)
theorem g210 : Keeps Try.prog 10 [v210] := keeps1 hc10 (k210 (g37.add (g11.add (g39.add (g13.add (g33.add (g32.add (g18.add (g20.add (g23.add (g27.add (g17.add (g22.add (g41.add (g15.add (g10.add good_nil))))))))))))))))
end Go.Abs.Label
end

