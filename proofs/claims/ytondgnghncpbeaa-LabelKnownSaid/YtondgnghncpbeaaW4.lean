/- Part 4 of the road to this seat's statements: lemmas about a small interpreter over the model's code, and about the functions that it is used on. No condition of its own. -/
import Derived.IntWalk
import Derived.Test.YtondgnghncpbeaaW3

section
/- Ranges over a function: what waits, rounds, and the whole statement. -/
open Go.RowKit
namespace Go.Abs

/-- The loop's record, by how a round was left. -/
def recOf (r : Go.Loop) : Option AExit → Go.Loop
  | none => { r with state := .ready, pending := none }
  | some e => { r with state := .done, pending := some e.code }

/-- What is fixed while a loop runs: what waits around it. -/
structure Around where
  X : Ctx
  F : Nat → Prop
  pend : Option AExit
  y : Option Nat
  l : Nat
  r : Go.Loop
  V : List Value

/-- What the waiting frame holds. -/
def Around.holds (A : Around) (K : Know) (H : Nat → Option Hd) (gh : List AVal) (w : World) : Prop :=
  ∃ g1 g2, gh = g1 ++ g2 ∧ RepL (K.toY A.y) H g1 A.V ∧ A.X A.F (K.toY A.y) H g2 A.pend w

/-- All along an iterator's run. -/
def Around.it (A : Around) : Ctx := fun F K H gh p w =>
  F A.l ∧ (∀ b, A.F b → F b) ∧ w.heap[A.l]? = some (.loop (recOf A.r p)) ∧ A.holds K H gh w

/-- All along a round. -/
def Around.rd (A : Around) (s : LoopState) (VI : List Value) : Ctx := fun F K H gh p w =>
  F A.l ∧ (∀ b, A.F b → F b) ∧ p = none ∧ w.heap[A.l]? = some (.loop { A.r with state := s, pending := none }) ∧
    ∃ g1 g2, gh = g1 ++ g2 ∧ RepL (K.toY (some A.l)) H g1 VI ∧ A.holds K H g2 w

theorem renL_append (l : List Nat) : ∀ (a b : List AVal), renL l (a ++ b) = renL l a ++ renL l b
  | [], _ => rfl
  | v :: a, b => by simp [renL, renL_append l a b]

theorem Around.holds_grow (A : Around) (hX : A.X.Ok) {K K' : Know} {H H' : Nat → Option Hd} {gh : List AVal} {w w' : World} (h : A.holds K H gh w) (hK : K.le K') (hH : HLe H H') (hk : Kept A.F w w') : A.holds K' H' gh w' := by
  obtain ⟨g1, g2, e, h1, h2⟩ := h
  exact ⟨g1, g2, e, RepL.mono (hK.toY _) hH _ _ h1, (hX.grow g2 A.pend).grow _ _ _ _ _ _ _ _ h2 (fun _ h => h) (hK.toY _) hH hk⟩

theorem Around.holds_ren (A : Around) (hX : A.X.Ok) {K : Know} {H : Nat → Option Hd} {gh : List AVal} {w : World} (l : List Nat) (h : A.holds K H gh w) : A.holds K (renH l H) (renL l gh) w := by
  obtain ⟨g1, g2, e, h1, h2⟩ := h
  exact ⟨renL l g1, renL l g2, by rw [e, renL_append], rep_renL _ _ h1, hX.ren _ _ _ _ _ _ _ h2⟩

theorem Around.holds_y (A : Around) {K : Know} {H : Nat → Option Hd} {gh : List AVal} {w : World} (y : Option Nat) : A.holds (K.toY y) H gh w ↔ A.holds K H gh w := Iff.rfl

theorem Around.it_ok (A : Around) (hX : A.X.Ok) : A.it.Ok where
  grow := fun gh p => ⟨fun F F' K K' H H' w w' h hF hK hH hk => by
    obtain ⟨h1, h2, h3, h4⟩ := h
    exact ⟨hF _ h1, fun b hb => hF _ (h2 b hb), by rw [hk.block _ h1]; exact h3, A.holds_grow hX h4 hK hH (hk.less h2)⟩⟩
  ren := fun F K H l gh p w h => by
    obtain ⟨h1, h2, h3, h4⟩ := h
    exact ⟨h1, h2, h3, A.holds_ren hX l h4⟩

theorem Around.rd_ok (A : Around) (s : LoopState) (VI : List Value) (hX : A.X.Ok) : (A.rd s VI).Ok where
  grow := fun gh p => ⟨fun F F' K K' H H' w w' h hF hK hH hk => by
    obtain ⟨h1, h2, h3, h4, g1, g2, e, h5, h6⟩ := h
    exact ⟨hF _ h1, fun b hb => hF _ (h2 b hb), h3, by rw [hk.block _ h1]; exact h4, g1, g2, e, RepL.mono (hK.toY _) hH _ _ h5, A.holds_grow hX h6 hK hH (hk.less h2)⟩⟩
  ren := fun F K H l gh p w h => by
    obtain ⟨h1, h2, h3, h4, g1, g2, e, h5, h6⟩ := h
    exact ⟨h1, h2, h3, h4, renL l g1, renL l g2, by rw [e, renL_append], rep_renL _ _ h5, A.holds_ren hX l h6⟩

theorem Around.rd_ro (A : Around) (s : LoopState) (VI : List Value) : RoOk (A.rd s VI) (some A.l) := by
  intro l hl F K H gh p w h
  cases hl
  exact ⟨_, h.2.2.2.1⟩

theorem toY_self {K : Know} {y : Option Nat} (h : K.y = y) : K.toY y = K := by
  cases K; simp [Know.toY] at h ⊢; exact h.symm

theorem not_cells_loop (r : Go.Loop) : ∀ cs e fz, Obj.loop r ≠ .cells cs e fz := fun _ _ _ h => by cases h

theorem take_len {K : Know} {H : Nat → Option Hd} {g1 g2 : List AVal} {V : List Value} {n : Nat} (h : RepL K H g1 V) (hn : V.length = n) : (g1 ++ g2).take n = g1 ∧ (g1 ++ g2).drop n = g2 := by
  have : g1.length = n := by rw [← RepL.length h]; exact hn
  subst this
  exact ⟨List.take_left .., List.drop_left ..⟩

section
variable {P : Program}

/-- The machine's rounds and the interpreter's. -/
theorem hand_ok (A : Around) (hX : A.X.Ok) (hl : ¬ A.F A.l) (F0 : Nat → Prop) (hF0 : ¬ F0 A.l) {n0 : Nat} {nums ps : List Nat} {ao : Act} {assign body : Code} {Ja Jb : AState → (AExit → AState → Prop) → Prop}
    (hr : A.r.tmps = ao.tmps ∧ A.r.params.toList = ps ∧ A.r.assign = assign ∧ A.r.body = body) (hsz : n0 ≤ ao.tmps.size) (hV : A.V = nums.map (fun t => ao.tmps.getD t undef))
    (ha : ∀ (F0 : Nat → Prop) VI, Sound P (A.rd .ready VI) none F0 (some A.l) none n0 Ja assign) (hb : ∀ (F0 : Nat → Prop) VI, Sound P (A.rd .busy VI) none F0 (some A.l) none n0 Jb body) :
    HandOk P A.it F0 A.l (handA n0 nums ps Ja Jb) := by
  obtain ⟨hr1, hr2, rfl, rfl⟩ := hr
  intro n args sti kk F K H a w vs h hn hF hKy hst hfr hargs
  unfold handA at h
  split at h
  · rename_i hc
    obtain ⟨hp, hlen, hlt, hya, hym⟩ := hc
    obtain ⟨x1, x2, x3, x4⟩ := hst.x
    rw [hp] at x3
    have x3 : w.heap[A.l]? = some (.loop { A.r with state := .ready, pending := none }) := x3
    have hvl : vs.length = ps.length := by rw [RepL.length hargs, hlen]
    have hps : vs.toArray.size = A.r.params.size := by
      rw [← Array.length_toList (xs := A.r.params), hr2]; simpa using hvl
    have hy := run_yield (P := P) (args := vs.toArray) x3 hps
    refine ⟨_, _, _, _, hy, ?_⟩
    let VI : List Value := (dedup (sti.tmps.map (·.1))).map (fun t => a.tmps.getD t undef)
    have hVI : RepL K H ((dedup (sti.tmps.map (·.1))).map (aget sti.tmps)) VI := map_rep _ _ hst.tmp _
    have hVIl : VI.length = (dedup (sti.tmps.map (·.1))).length := by simp [VI]
    refine roundIn_of_wpIn (wd_fn none _) ?_
    show Code.wpIn (Wd (some A.l)) 0 P A.r.assign _ _ w
    have hsame : ((K.toY A.y).toY (some A.l)) = K := toY_self (K := K) hKy
    obtain ⟨g3, g4, eg, gh1, gh2⟩ := x4
    have hstr : St ((A.rd .ready VI).toW ((dedup (sti.tmps.map (·.1))).map (aget sti.tmps) ++ sti.gh) none) none F n0 (K.toY A.y) H (aget (setArgs ps args (zipT nums (sti.gh.take nums.length)))) (mget sti.M)
        { tmps := (A.r.params.zip vs.toArray).foldl (fun tmps (t, a) => tmps.setIfInBounds t a) A.r.tmps, defers := [] } w := by
      have hfold : (A.r.params.zip vs.toArray).foldl (fun tmps (t, a) => tmps.setIfInBounds t a) A.r.tmps = (ps.zip vs).foldl (fun tmps (x : Nat × Value) => tmps.setIfInBounds x.1 x.2) ao.tmps := by
        rw [hr1, ← Array.foldl_toList, Array.toList_zip, hr2]
      refine ⟨hst.ok.toY _, hst.mem.toY _ (fun r c f h => noYM_get hym h), ?_, rfl, ?_, ?_⟩
      · show n0 ≤ Array.size _
        rw [hfold, foldSet_size]; exact hsz
      · show ∀ t, Rep _ _ _ (Array.getD _ t undef)
        rw [hfold]
        refine setArgs_rep ps args vs _ _ hlen (repL_toY _ _ _ hya hargs) (fun p hp => Nat.lt_of_lt_of_le (allLt_spec hlt p hp) hsz) ?_
        rw [eg, (take_len gh1 (by rw [hV]; simp)).1]
        rw [hV] at gh1
        exact zipT_rep _ _ _ gh1
      · exact ⟨x1, x2, rfl, x3, _, _, rfl, by rw [hsame]; exact hVI, g3, g4, eg, gh1, gh2⟩
    refine ha F VI _ _ F (K.toY A.y) H _ w _ h rfl (fun _ h => h) (fun l e => by cases e) hstr hfr ?_
    intro e s1 a1 w1 hk1 hn1 ht1
    cases e with
    | exit id => exact hk1.elim
    | ret => exact hk1.elim
    | normal =>
      obtain ⟨⟨F1, K1, H1, hFF1, hst1, hK1, hfr1, hfix1⟩, hkept1⟩ := ht1
      obtain ⟨y1, y2, y3, y4, y5⟩ := hst1.x
      refine ⟨_, run_beginRound y4 rfl, ?_⟩
      show Code.wpIn (Wd (some A.l)) 0 P A.r.body _ a1 _
      have hinv1 : K1.inv A.l = none := by
        cases hi : K1.inv A.l with
        | none => rfl
        | some p => exact absurd y1 (hst1.ok.inv _ _ hi)
      let wb := w1.putObj A.l (.loop { A.r with state := .busy, pending := none })
      have hkb : Kept A.F w1 wb := kept_put y4 hl
      obtain ⟨q1, q2, eq, hq1, hq2⟩ := y5
      have hstb : St ((A.rd .busy VI).toW s1.gh s1.pend) none F1 n0 K1 H1 s1.sem.T s1.sem.m a1 wb := by
        refine ⟨ok_put hst1.ok y4 (not_cells_loop _) hinv1, mem_put hst1.mem y4 (not_cells_loop _) (fun _ _ h => by cases h) (fun _ _ _ _ h => by cases h), hst1.size, hst1.defers, hst1.tmp, y1, y2, y3, ?_, q1, q2, eq, hq1, A.holds_grow hX hq2 (.refl _) (.refl _) hkb⟩
        rw [heap_put y4, if_pos rfl]
      have hkw1 : Kept F0 w wb := (hkept1.less hF).trans (kept_put y4 hF0)
      refine hb F1 VI s1 _ F1 K1 H1 a1 wb _ hk1 hn1 (fun _ h => h) (fun l e => by cases e) hstb hfr1 ?_
      intro e s2 a2 w2 hk2 hn2 ht2
      obtain ⟨⟨F2, K2, H2, hFF2, hst2, hK2, hfr2, hfix2⟩, hkept2⟩ := ht2
      obtain ⟨z1, z2, z3, z4, p1, p2, ep, hp1, hp2⟩ := hst2.x
      split at hk2
      · rename_i hym2
        have hinv2 : K2.inv A.l = none := by
          cases hi : K2.inv A.l with
          | none => rfl
          | some p => exact absurd z1 (hst2.ok.inv _ _ hi)
        -- behind the round
        have fin : ∀ (o' : Obj), o' = .loop (recOf A.r e.left) → Thn A.it none F0 F n K w
            { n := sti.n, tmps := zipT (dedup (sti.tmps.map (·.1))) (s2.gh.take (dedup (sti.tmps.map (·.1))).length), nx := s2.nx, M := s2.M, gh := s2.gh.drop (dedup (sti.tmps.map (·.1))).length, pend := e.left } a (w2.putObj A.l o') := by
          intro o' ho'
          have hkF : ∀ b, F0 b → F1 b := fun b hb => hFF1 b (hF b hb)
          have htk := take_len (g2 := p2) hp1 hVIl
          refine ⟨⟨F2, K2.toY (some A.l), H2, fun b hb => hFF2 b (hFF1 b hb), ⟨?_, ?_, ?_, hst.defers, ?_, z1, z2, ?_, ?_⟩, ⟨fun b cs h => hK2.cells _ _ (hK1.cells _ _ h), fun b p h => hK2.inv _ _ (hK1.inv _ _ h), fun l' h => by rw [hKy] at h; exact h⟩, hfr2, ?_⟩, ?_⟩
          · exact (ok_put hst2.ok z4 (not_cells_loop _) hinv2).toY _
          · exact (mem_put hst2.mem z4 (not_cells_loop _) (fun _ _ h => by cases h) (fun _ _ _ _ h => by cases h)).toY _ (fun r c f h => noYM_get hym2 h)
          · exact hst.size
          · show ∀ t, Rep (K2.toY (some A.l)) H2 (aget (zipT _ (s2.gh.take _)) t) (a.tmps.getD t undef)
            rw [ep, htk.1]
            exact zipT_rep _ _ _ hp1
          · rw [heap_put z4, if_pos rfl, ho']
          · rw [ep, htk.2]
            exact (A.holds_y _).2 (A.holds_grow hX hp2 (.refl K2) (.refl H2) (kept_put z4 hl))
          · intro b hb
            have f1 := hfix1 b (hF b hb)
            have f2 := hfix2 b (hkF b hb)
            exact ⟨f2.1.trans f1.1, f2.2.trans f1.2⟩
          · exact (hkw1.trans (hkept2.less hkF)).trans (kept_put z4 hF0)
        cases e with
        | normal => exact ⟨_, _, run_endRound none z4, true, _, rfl, hk2, hn, fin _ rfl⟩
        | exit id => exact ⟨_, _, run_endRound (some (.exit id)) z4, false, _, rfl, hk2, hn, fin _ rfl⟩
        | ret => exact ⟨_, _, run_endRound (some .ret) z4, false, _, rfl, hk2, hn, fin _ rfl⟩
      · exact hk2.elim
  · exact h.elim

theorem callFunc_run {f : FuncId} {fn : Func} {c : Code} (hf : P.funcs[f]? = some fn) (hb : fn.body = some c) (hn : (fn.name == "runtime.NumGoroutine") = false) (args : Array Value) (w : World) : (callFunc f args).run P w = .ok (.enter f args) w := by
  have hn' : fn.name ≠ "runtime.NumGoroutine" := by simpa using hn
  simp [callFunc, hf, hb, hn', go_sem]

/-- What running an iterator promises. -/
def IterOk (P : Program) (IT : Iter) : Prop :=
  ∀ (h : Hand) (gf : FuncId) (args : List AVal) (s0 : AState) (k : AState → Prop) (X : Ctx) (F0 F : Nat → Prop) (K : Know) (H : Nat → Option Hd) (w : World) (vs : List Value) (l : Nat) (R : Ending → World → Prop),
    IT h gf args s0 k → X.Ok → HandOk P X F0 l h → (∀ b, F0 b → F b) → K.y = some l → WOk F K w → MRel F K H w (mget s0.M) → (∀ r, s0.nx ≤ r → H r = none) → RepL K H args vs → X F K H ((s0.tmps.map (·.1)).map (aget s0.tmps) ++ s0.gh) none w →
    (∀ s1 F' K' H' w' v, k s1 → (∀ b, F b → F' b) → WOk F' K' w' → MRel F' K' H' w' (mget s1.M) → (∀ r, s1.nx ≤ r → H' r = none) → X F' K' H' s1.gh s1.pend w' → K.le K' → Fix F0 K K' → Kept F0 w w' → R (.returned v) w') →
    (∀ args w, (callFunc gf args).run P w = .ok (.enter gf args) w) ∧ CallsIn (Wd none) 0 P gf vs.toArray w R

theorem iter0_ok : IterOk P iter0 := fun _ _ _ _ _ _ _ _ _ _ _ _ _ _ h => h.elim

variable {X : Ctx} {B : Option Nat} {F0 : Nat → Prop} {ro yl : Option Nat} {n : Nat}

theorem wpIn_left {Q : Exit → Act → World → Prop} {a : Act} {w : World} {ro : Option Nat} (e : AExit) (h : Q e.out a w) : e.code.wpIn (Wd ro) 0 P Q a w := by
  cases e with
  | normal => exact wpIn_skip h
  | exit id => exact wpIn_exit h
  | ret => exact wpIn_ret h

/-- A range over a function. -/
theorem range_sound {IT : Iter} (hIT : IterOk P IT) (hX : X.Ok) (hro : RoOk X ro) (hB : B = none → ro ≠ none) {g : Operand} {ps : Array Tmp} {assign body : Code} {Ja Jb : AState → (AExit → AState → Prop) → Prop}
    (ha : ∀ (X : Ctx) (F0 : Nat → Prop) (l : Nat), X.Ok → RoOk X (some l) → Sound P X none F0 (some l) none n Ja assign) (hb : ∀ (X : Ctx) (F0 : Nat → Prop) (l : Nat), X.Ok → RoOk X (some l) → Sound P X none F0 (some l) none n Jb body) :
    Sound P X B F0 ro yl n (rangeA IT g ps.toList Ja Jb) (.rangeFunc g ps assign body) := by
  intro s0 k F K H a w Q h hn hF hy hst hfr hQ
  unfold rangeA at h
  split at h
  · rename_i gf cap hg
    split at h
    · rename_i hny
      have hev := hst.ev g
      rw [← show evA s0.tmps = evT s0.sem.T from evA_eq _, hg] at hev
      simp only [Rep] at hev
      obtain ⟨fi, ca, e1, e2, e3⟩ := hev
      have e2' : fi = #[] := by
        have := RepL.nil_iff.1 e2
        simpa using this
      subst e2'
      -- the record is laid
      have enter : ∀ fn, ∃ (l : Nat) (mk : List Deferred) (w2 : World) (r : Go.Loop), (Instr.enterLoop fn a.tmps ps assign body ro).run P w = .ok (l, mk) w2 ∧ w2.heap[l]? = some (.loop (recOf r none)) ∧
          r.tmps = a.tmps ∧ r.params = ps ∧ r.assign = assign ∧ r.body = body ∧ w.heap.size ≤ l ∧ l < w2.heap.size ∧ Kept (fun b => b < w.heap.size) w w2 ∧ (∀ G w', (∀ b, F b → G b) → (∀ b, w.heap.size ≤ b → b < w2.heap.size → b ≠ l → G b) → Kept G w2 w' → Marks B G (mk ++ a.defers) w') := by
        intro fn
        cases hr : ro with
        | none =>
          refine ⟨_, _, _, { state := .ready, pending := none, fn, tmps := a.tmps, params := ps, assign, body, defers := w.heap.size }, run_enterLoop_outer fn a.tmps ps assign body, ?_, rfl, rfl, rfl, rfl, by omega, by simp, ?_, ?_⟩
          · have := World.alloc_heap_new (w.alloc (.deferred (some []))) (.loop { state := .ready, pending := none, fn, tmps := a.tmps, params := ps, assign, body, defers := w.heap.size })
            rwa [World.size_alloc] at this
          · exact ⟨rfl, rfl, rfl, by simp; omega, fun b hb => (Below.heap_alloc _ _ _ (by simp; omega)).trans (Below.heap_alloc _ _ _ hb), Nat.le_refl _⟩
          · intro G w' hG hnew hk
            cases hBB : B with
            | none => exact absurd hr (hB hBB)
            | some b0 =>
              have hm := hst.defers
              rw [hBB] at hm
              obtain ⟨m0, Ds, m1, m2, m3⟩ := hm
              have hs2 : ((w.alloc (.deferred (some []))).alloc (.loop { state := .ready, pending := none, fn, tmps := a.tmps, params := ps, assign, body, defers := w.heap.size })).heap.size = w.heap.size + 2 := by simp
              have hD : ((w.alloc (.deferred (some []))).alloc (.loop { state := .ready, pending := none, fn, tmps := a.tmps, params := ps, assign, body, defers := w.heap.size })).heap[w.heap.size]? = some (.deferred (some [])) :=
                (Below.heap_alloc _ _ _ (by simp)).trans (World.alloc_heap_new w _)
              refine ⟨?_, w.heap.size :: Ds, by rw [m1]; rfl, ?_, ?_⟩
              · have := hk.size
                omega
              · refine List.nodup_cons.2 ⟨fun hmem => ?_, m2⟩
                have := lt_of_heap (m3 _ hmem).2.2
                omega
              · intro D hDm
                rcases List.mem_cons.1 hDm with rfl | hDm
                · have hGD : G w.heap.size := hnew _ (Nat.le_refl _) (by omega) (by omega)
                  exact ⟨m0, hGD, by rw [hk.block _ hGD]; exact hD⟩
                · obtain ⟨n1, n2, n3⟩ := m3 D hDm
                  have hGD := hG D n2
                  refine ⟨n1, hGD, ?_⟩
                  rw [hk.block _ hGD]
                  exact ((Below.heap_alloc _ _ _ (by have := lt_of_heap n3; simp; omega)).trans (Below.heap_alloc _ _ _ (lt_of_heap n3))).trans n3
        | some l0 =>
          obtain ⟨r0, hr0⟩ := hro l0 hr _ _ _ _ _ _ hst.x
          refine ⟨_, _, _, { state := .ready, pending := none, fn, tmps := a.tmps, params := ps, assign, body, defers := r0.defers }, run_enterLoop_inner hr0 fn a.tmps ps assign body, World.alloc_heap_new w _, rfl, rfl, rfl, rfl, Nat.le_refl _, by simp, ?_, ?_⟩
          · exact ⟨rfl, rfl, rfl, by simp, fun b hb => Below.heap_alloc _ _ _ hb, Nat.le_refl _⟩
          · intro G w' hG hnew hk
            have hs2 : (w.alloc (.loop { state := .ready, pending := none, fn, tmps := a.tmps, params := ps, assign, body, defers := r0.defers })).heap.size = w.heap.size + 1 := by simp
            have hm := hst.defers
            cases hBB : B with
            | none => rw [hBB] at hm; exact hm
            | some b0 =>
              rw [hBB] at hm
              obtain ⟨m0, Ds, m1, m2, m3⟩ := hm
              refine ⟨?_, Ds, by rw [m1]; rfl, m2, ?_⟩
              · have := hk.size
                omega
              · intro D hDm
                obtain ⟨n1, n2, n3⟩ := m3 D hDm
                have hGD := hG D n2
                refine ⟨n1, hGD, ?_⟩
                rw [hk.block _ hGD]
                exact (Below.heap_alloc _ _ _ (lt_of_heap n3)).trans n3
      refine wpIn_rangeFunc (fun fn _ => ?_)
      obtain ⟨l, mk, w2, r, hent, hl, hr1, hr2, hr3, hr4, hll, hll2, hk2, hmarks⟩ := enter fn
      let F1 : Nat → Prop := fun b => F b ∨ w.heap.size ≤ b ∧ b < w2.heap.size
      let Fi : Nat → Prop := fun b => F b ∨ (w.heap.size ≤ b ∧ b < w2.heap.size ∧ b ≠ l)
      have hFl : ¬ F l := fun hb => by have := hst.ok.lt l hb; omega
      have hFil : ¬ Fi l := fun hb => by
        rcases hb with hb | hb
        · exact hFl hb
        · exact hb.2.2 rfl
      have hFiF1 : ∀ b, Fi b → F1 b := fun b hb => by
        rcases hb with hb | hb
        · exact .inl hb
        · exact .inr ⟨hb.1, hb.2.1⟩
      have hkF : Kept F w w2 := hk2.less (fun b hb => hst.ok.lt b hb)
      let V : List Value := (s0.tmps.map (·.1)).map (fun t => a.tmps.getD t undef)
      let A : Around := ⟨X, F, s0.pend, K.y, l, r, V⟩
      let K1 := K.toY (some l)
      have hKK : K1.toY K.y = K := by cases K; rfl
      have hV : RepL K H ((s0.tmps.map (·.1)).map (aget s0.tmps)) V := map_rep _ _ hst.tmp _
      have hAX : A.X.Ok := hX
      have hhand : HandOk P A.it Fi l (handA s0.n (s0.tmps.map (·.1)) ps.toList Ja Jb) := by
        refine hand_ok A hAX hFl Fi hFil (ao := a) ⟨hr1, by rw [hr2], hr3, hr4⟩ (by rw [hn]; exact hst.size) rfl ?_ ?_
        · intro F0 VI; rw [hn]; exact ha _ F0 l (A.rd_ok _ _ hAX) (A.rd_ro _ _)
        · intro F0 VI; rw [hn]; exact hb _ F0 l (A.rd_ok _ _ hAX) (A.rd_ro _ _)
      have hargs : RepL K1 H (.yieldv :: cap) (.func (.yield l) #[] #[] :: ca.toList) :=
        .cons (by simp only [Rep]; exact ⟨l, rfl, rfl⟩) (repL_toY _ _ _ hny.1 e3)
      have hxi : A.it F1 K1 H ((s0.tmps.map (·.1)).map (aget s0.tmps) ++ s0.gh) none w2 :=
        ⟨.inr ⟨hll, hll2⟩, fun b hb => .inl hb, hl, _, _, rfl, by show RepL (K1.toY K.y) H _ V; rw [hKK]; exact hV, by
          show X F (K1.toY K.y) H s0.gh s0.pend w2
          rw [hKK]
          exact (hX.grow s0.gh s0.pend).grow _ _ _ _ _ _ _ _ hst.x (fun _ h => h) (.refl K) (.refl H) hkF⟩
      have main := hIT _ gf _ s0 _ A.it Fi F1 K1 H w2 (.func (.yield l) #[] #[] :: ca.toList) l (rangePost (Wd ro) 0 P l Q { a with defers := mk ++ a.defers }) h (A.it_ok hAX) hhand hFiF1 rfl
        ((ok_fresh hst.ok hk2 (fun b hb => hb)).toY _) ((mem_fresh hst.mem hk2 (fun b hb => hb)).toY _ (fun r c f h => noYM_get hny.2 h)) hfr hargs hxi
      obtain ⟨hcall, hC⟩ := main (by
          intro s1 F' K' H' w' v hk hFF' hok' hm' hfr' hx' hK' hfix' hkept'
          split at hk
          · rename_i hym1
            obtain ⟨x1, x2, x3, g1, g2, eg, x4, x5⟩ := hx'
            have x1 : F' l := x1
            have x3 : w'.heap[l]? = some (.loop (recOf r s1.pend)) := x3
            have x4 : RepL (K'.toY K.y) H' g1 V := x4
            have x5 : X F (K'.toY K.y) H' g2 s0.pend w' := x5
            have hb' : (recOf r s1.pend).state ≠ .busy := by cases s1.pend <;> simp [recOf]
            have hinv : K'.inv l = none := by
              cases hi : K'.inv l with
              | none => rfl
              | some p => exact absurd x1 (hok'.inv _ _ hi)
            have hend := run_endLoop (P := P) x3 hb'
            let w4 := w'.putObj l (.loop { recOf r s1.pend with state := .exhausted })
            have htk := take_len (g2 := g2) (n := (s0.tmps.map (·.1)).length) x4 (by simp [V])
            have hFiF' : ∀ b, Fi b → F' b := fun b hb => hFF' b (hFiF1 b hb)
            have hkpF : Kept F w' w4 := kept_put x3 hFl
            have hkpFi : Kept Fi w' w4 := kept_put x3 hFil
            have hthn : Thn X B F0 F n K w { n := s0.n, tmps := zipT (s0.tmps.map (·.1)) (s1.gh.take (s0.tmps.map (·.1)).length), nx := s1.nx, M := s1.M, gh := s1.gh.drop (s0.tmps.map (·.1)).length, pend := s0.pend } { a with defers := mk ++ a.defers } w4 := by
              refine ⟨⟨Fi, K'.toY K.y, H', fun b hb => .inl hb, ⟨?_, ?_, hst.size, ?_, ?_, ?_⟩, ⟨fun b cs h => hK'.cells _ _ h, fun b p h => hK'.inv _ _ h, fun _ h => h⟩, hfr', ?_⟩, ?_⟩
              · exact ((ok_put hok' x3 (not_cells_loop _) hinv).less hFiF').toY _
              · exact ((mem_put hm' x3 (not_cells_loop _) (fun _ _ h => by cases h) (fun _ _ _ _ h => by cases h)).less hFiF').toY _ (fun r c f h => noYM_get hym1 h)
              · exact hmarks Fi w4 (fun b hb => .inl hb) (fun b h1 h2 h3 => .inr ⟨h1, h2, h3⟩) (hkept'.trans hkpFi)
              · show ∀ t, Rep (K'.toY K.y) H' (aget (zipT _ (s1.gh.take _)) t) (a.tmps.getD t undef)
                rw [eg, htk.1]
                exact zipT_rep _ _ _ x4
              · show X Fi (K'.toY K.y) H' (s1.gh.drop _) s0.pend w4
                rw [eg, htk.2]
                have y1 := (hX.grow g2 s0.pend).grow _ _ _ _ _ _ _ _ x5 (fun _ h => h) (.refl _) (.refl _) hkpF
                exact (hX.grow g2 s0.pend).grow _ Fi _ _ _ _ _ _ y1 (fun b hb => .inl hb) (.refl _) (.refl _) (.refl _ _)
              · intro b hb
                exact hfix' b (.inl (hF b hb))
              · exact ((hkF.less hF).trans (hkept'.less (fun b hb => .inl (hF b hb)))).trans (hkpF.less hF)
            refine ⟨_, _, hend, ?_⟩
            have hQ' := hQ _ _ _ _ hk hn hthn
            cases hp : s1.pend with
            | none =>
              rw [hp] at hQ'
              simp only [recOf]
              have e4 : w4 = w'.putObj l (.loop { recOf r none with state := .exhausted }) := by simp only [w4, hp]
              rw [e4] at hQ'
              exact hQ'
            | some e =>
              rw [hp] at hQ'
              simp only [recOf]
              have e4 : w4 = w'.putObj l (.loop { recOf r (some e) with state := .exhausted }) := by simp only [w4, hp]
              rw [e4] at hQ'
              exact wpIn_left e hQ'
          · exact hk.elim)
      refine ⟨l, mk, w2, { target := .fn (.func gf) ca, args := #[.func (.yield l) #[] #[]] }, w2, gf, #[.func (.yield l) #[] #[]] ++ ca, w2, ?_, ?_, ?_, ?_, wd_depth ro, ?_⟩
      · exact hent
      · simp only [resolve, e1]
        simp [go_sem]
      · intro f' _; exact wd_fn ro f'
      · simp [invoke, go_sem, hcall]
      · have e : (Value.func (.yield l) #[] #[] :: ca.toList).toArray = #[.func (.yield l) #[] #[]] ++ ca := by
          apply Array.ext'
          simp
        rw [e] at hC
        exact hC
    · exact h.elim
  · exact h.elim
end
end Go.Abs
end

section
/- The interpreter is sound: all of a function's code. -/
namespace Go.Abs

def noGoto (Q : Exit → Act → World → Prop) : Exit → Act → World → Prop
  | .goto _, _, _ => False
  | e, a, w => Q e a w

theorem stepR_scope {P : Program} {b : Frame} {a : Act} {k : List Item} {cs : List Frame} {w : World} {c : Code} : step P (lone (b.atR a (.code (.scope c) :: k)) cs w) = .next (lone (b.atR a (.code c :: .inScope c :: k)) cs w) :=
  step_lone_go (by simp [stepG, stepG.exec, Frame.atR])
theorem stepR_inScope {P : Program} {b : Frame} {a : Act} {k : List Item} {cs : List Frame} {w : World} {c : Code} : step P (lone (b.atR a (.inScope c :: k)) cs w) = .next (lone (b.atR a k) cs w) :=
  step_lone_go (by simp [stepG, stepG.exec, Frame.atR])

theorem wpIn_scope_straight {F : Fence} {n : Nat} {P : Program} {Q : Exit → Act → World → Prop} {a : Act} {w : World} {c : Code} (h : c.wpIn F n P (noGoto Q) a w) : (Code.scope c).wpIn F n P Q a w := by
  intro b k cs hro hb hr
  obtain ⟨e, a₁, w₁, hq, harr⟩ := h b (.inScope c :: k) cs hro hb hr
  refine ⟨e, a₁, w₁, ?_, .of_steps (.one (fenced_calm hb hr rfl) stepR_scope) ?_⟩
  · cases e <;> first | exact hq | exact hq.elim
  · cases e with
    | normal => exact StepsIn.trans harr (.one (fenced_calm hb hr rfl) stepR_inScope)
    | exit id => exact ⟨fun k' hk => harr.1 k' (by simp [exitTo, hk]), fun h1 h2 => harr.2 h1 (by simp [exitTo, h2])⟩
    | goto l => exact hq.elim
    | ret => exact harr
    | panic ch => exact harr
    | outgrown => exact harr

theorem range_iter0 {g : Operand} {ps : List Nat} {Ja Jb : AState → (AExit → AState → Prop) → Prop} {s0 : AState} {k : AExit → AState → Prop} (h : rangeA iter0 g ps Ja Jb s0 k) : False := by
  unfold rangeA at h
  split at h
  · split at h
    · exact h
    · exact h
  · exact h

section
variable {Γ : Env} {P : Program} {keep : Nat → List Nat} {IT : Iter}

theorem awp_sound (hmix : P.follows .mixedOrders = true) (hG : Good P Γ) (hIT : IterOk P IT) : ∀ (c : Code), Code.textsOk c = true → ∀ (X : Ctx) (B : Option Nat) (F0 : Nat → Prop) (ro yl : Option Nat) (n : Nat) (Y : Where), X.Ok → RoOk X ro → WhOk P X B F0 ro yl Y → ((B = none → ro ≠ none) ∨ IT = iter0) →
    Sound P X B F0 ro yl n (awp Γ P keep IT c Y) c := by
  intro c
  induction c with
  | skip =>
    intro htx X B F0 ro yl n Y hX hro hY hB st k F K H a w Q h hn hF hy hst hfr hQ
    exact wpIn_skip (hQ .normal st a w h hn (same_thn hst hfr))
  | region id ops draw =>
    intro htx X B F0 ro yl n Y hX hro hY hB
    exact region_sound hX hmix hG keep IT hY id ops draw htx
  | seq x y ihx ihy =>
    intro htx X B F0 ro yl n Y hX hro hY hB st k F K H a w Q h hn hF hy hst hfr hQ
    simp only [Code.textsOk, Bool.and_eq_true] at htx
    refine wpIn_seq (ihx htx.1 X B F0 ro yl n Y hX hro hY hB st _ F K H a w _ h hn hF hy hst hfr ?_)
    intro e st' a' w' hk hn' ht
    cases e with
    | normal =>
      obtain ⟨⟨F', K', H', hFF, hst', hK, hfr', hfix⟩, hkept⟩ := ht
      exact ihy htx.2 X B F0 ro yl n Y hX hro hY hB st' k F' K' H' a' w' Q hk hn' (fun b hb => hFF b (hF b hb)) (fun l e => hK.y l (hy l e)) hst' hfr' (fun e st2 a2 w2 hk2 hn2 ht2 => hQ e st2 a2 w2 hk2 hn2 (ht2.trans hFF hK hfix hkept))
    | exit id => exact hQ _ st' a' w' hk hn' ht
    | ret => exact hQ _ st' a' w' hk hn' ht
  | cond c x y ihx ihy =>
    intro htx X B F0 ro yl n Y hX hro hY hB st k F K H a w Q h hn hF hy hst hfr hQ
    simp only [Code.textsOk, Bool.and_eq_true] at htx
    simp only [awp] at h
    split at h
    · rename_i b hb
      have hc := hst.ev c
      rw [← show evA st.tmps = evT st.sem.T from evA_eq _, hb] at hc
      simp only [Rep] at hc
      rw [br_iff] at h
      cases b with
      | true => exact wpIn_cond_true hc (ihx htx.1 X B F0 ro yl n Y hX hro hY hB st k F K H a w Q (h.1 rfl) hn hF hy hst hfr hQ)
      | false => exact wpIn_cond_false hc (ihy htx.2 X B F0 ro yl n Y hX hro hY hB st k F K H a w Q (h.2 rfl) hn hF hy hst hfr hQ)
    · exact absurd h id
  | block id c ih =>
    intro htx X B F0 ro yl n Y hX hro hY hB st k F K H a w Q h hn hF hy hst hfr hQ
    refine wpIn_block (ih htx X B F0 ro yl n Y hX hro hY hB st _ F K H a w _ h hn hF hy hst hfr ?_)
    intro e st' a' w' hk hn' ht
    cases e with
    | normal => exact hQ _ st' a' w' hk hn' ht
    | ret => exact hQ _ st' a' w' hk hn' ht
    | exit i =>
      simp only [AExit.out, Exit.inBlock]
      simp only at hk
      by_cases hi : i = id
      · rw [if_pos hi] at hk ⊢
        exact hQ .normal st' a' w' hk hn' ht
      · rw [if_neg hi] at hk ⊢
        exact hQ (.exit i) st' a' w' hk hn' ht
  | loop c ih =>
    intro htx X B F0 ro yl n Y hX hro hY hB st k F K H a w Q h hn hF hy hst hfr hQ
    simp only [awp] at h
    obtain ⟨K0, hst0, hK0, hfix0, hn0, hnx0⟩ := frzK_st hX (keep (loopKey c)) hst
    have hfr0 : ∀ r, (frzK (keep (loopKey c)) st).nx ≤ r → H r = none := fun r hr => hfr r (by rw [← hnx0]; exact hr)
    obtain ⟨H', hst', hfr'⟩ := canon_st hX (keep (loopKey c)) hst0 hfr0
    have hn' : (canon (keep (loopKey c)) (frzK (keep (loopKey c)) st)).n = n := hn0.trans hn
    generalize shapeOf (canon (keep (loopKey c)) (frzK (keep (loopKey c)) st)) = S at h
    unfold loopA at h
    split at h
    · rename_i x0 hx0
      obtain ⟨N, h⟩ := h
      have e0 := Shape.dec_enc hx0
      rw [← e0] at hst' hfr' hn'
      have hQ0 : ∀ e st' a' w', k e st' → st'.n = n → Thn X B F0 F n K0 w st' a' w' → Q e.out a' w' := fun e st' a' w' hk hn' ht => hQ e st' a' w' hk hn' (ht.trans (fun _ h => h) hK0 (hfix0.less hF) (.refl F0 w))
      have hy0 := fun l e => hK0.y l (hy l e)
      clear hst hfr hn hx0 e0 hst0 hfr0 hn0 hnx0 hQ hy hfix0 hK0
      revert hQ0 hy0 hst'
      generalize K0 = K0'
      intro hst' hQ hy
      refine wpIn_loop_rounds N ?_
      induction N generalizing x0 F K0' H' a w with
      | zero => exact absurd h id
      | succ N ihN =>
        rw [roundsIn_succ]
        refine ih htx X B F0 ro yl n Y hX hro hY hB (S.enc x0) _ F K0' H' a w _ h hn' hF hy hst' hfr' ?_
        intro e st' a' w' hk hn1 ht
        cases e with
        | normal =>
          obtain ⟨⟨F1, K1, H1, hFF, hst1, hK, hfr1, hfix⟩, hkept⟩ := ht
          obtain ⟨K2, hst1, hK2, hfix2, hn2, hnx2⟩ := frzK_st hX (keep (loopKey c)) hst1
          have hfr1 : ∀ r, (frzK (keep (loopKey c)) st').nx ≤ r → H1 r = none := fun r hr => hfr1 r (by rw [← hnx2]; exact hr)
          obtain ⟨H2, hst2, hfr2⟩ := canon_st hX (keep (loopKey c)) hst1 hfr1
          simp only at hk
          split at hk
          · rename_i y hy'
            have e2 := Shape.dec_enc hy'
            rw [← e2] at hst2 hfr2
            have hn3 : (S.enc y).n = n := by rw [e2]; exact hn2.trans hn1
            have hK3 := hK.trans hK2
            have hfix3 := hfix.trans (hfix2.less (fun b hb => hFF b (hF b hb)))
            refine ihN F1 a' w' (fun b hb => hFF b (hF b hb)) H2 y ?_ ?_ ?_ K2 ?_ (fun e st2 a2 w2 hk2 hn2 ht2 => hQ e st2 a2 w2 hk2 hn2 (ht2.trans hFF hK3 hfix3 hkept)) (fun l e => hK3.y l (hy l e)) <;> assumption
          · exact hk.elim
        | exit id => exact hQ _ st' a' w' hk hn1 ht
        | ret => exact hQ _ st' a' w' hk hn1 ht
    · exact h.elim
  | exit id =>
    intro htx X B F0 ro yl n Y hX hro hY hB st k F K H a w Q h hn hF hy hst hfr hQ
    exact wpIn_exit (hQ (.exit id) st a w h hn (same_thn hst hfr))
  | ret =>
    intro htx X B F0 ro yl n Y hX hro hY hB st k F K H a w Q h hn hF hy hst hfr hQ
    exact wpIn_ret (hQ .ret st a w h hn (same_thn hst hfr))
  | scope c ih =>
    intro htx X B F0 ro yl n Y hX hro hY hB st k F K H a w Q h hn hF hy hst hfr hQ
    refine wpIn_scope_straight (ih htx X B F0 ro yl n Y hX hro hY hB st k F K H a w _ h hn hF hy hst hfr ?_)
    intro e st' a' w' hk hn' ht
    have := hQ e st' a' w' hk hn' ht
    cases e <;> exact this
  | label l =>
    intro htx X B F0 ro yl n Y hX hro hY hB st k F K H a w Q h hn hF hy hst hfr hQ
    exact wpIn_label (hQ .normal st a w h hn (same_thn hst hfr))
  | rangeFunc g ps assign body iha ihb =>
    intro htx X B F0 ro yl n Y hX hro hY hB st k F K H a w Q h hn hF hy hst hfr hQ
    simp only [awp] at h
    simp only [Code.textsOk, Bool.and_eq_true] at htx
    obtain ⟨H', hst', hfr'⟩ := canon_st hX (keep (1000 + loopKey body)) hst hfr
    rcases hB with hB | hB
    · refine range_sound hIT hX hro hB (ps := ps) (Ja := fun s k' => awp Γ P keep IT assign .rd s k') (Jb := fun s k' => awp Γ P keep IT body .rd s k') ?_ ?_ (canon (keep (1000 + loopKey body)) st) k F K H' a w Q h hn hF hy hst' hfr' hQ
      · intro X F0 l hX hro; exact iha htx.1 X none F0 (some l) none n .rd hX hro ⟨trivial, fun h => by cases h⟩ (.inl (fun _ => by simp))
      · intro X F0 l hX hro; exact ihb htx.2 X none F0 (some l) none n .rd hX hro ⟨trivial, fun h => by cases h⟩ (.inl (fun _ => by simp))
    · subst hB
      exact (range_iter0 h).elim
  | _ => intro htx X B F0 ro yl n Y hX hro hY hB st k F K H a w Q h; exact absurd h id
end
end Go.Abs
end

section
/- What a function hands back. -/
namespace Go.Abs
section
variable {P : Program} {F : Nat → Prop} {K : Know} {H HR : Nat → Option Hd} {w : World} {m : Mm}

/-- The frame's regions and those that are handed back, side by side. -/
structure OutInv (F : Nat → Prop) (K : Know) (H : Nat → Option Hd) (w : World) (m : Mm) (HR : Nat → Option Hd) (cs : List Cont) : Prop where
  ok : WOk F K w
  mem : MRel F K H w m
  res : MRel F K HR w (newM (fun _ => none) 0 cs)
  none : ∀ r, cs.length ≤ r → HR r = none
  apart : ∀ r c hd r' c' hd' b, m r = some (c, .own) → H r = some hd → newM (fun _ => Option.none) 0 cs r' = some (c', .own) → HR r' = some hd' → hd.base = some b → hd'.base ≠ some b

/-! ### values that hang on known cells alone -/
theorem ElemsBy.cells {α : Type} {K K' : Know} {sz : Nat} {R R' : α → List Value → Prop} {l : List α} {base : Option Addr}
    (hK : ∀ b cs, K.cells b = some cs → K'.cells b = some cs) (hR : ∀ x cs, R x cs → R' x cs) (h : ElemsBy K sz R l base) : ElemsBy K' sz R' l base := by
  rcases h with h | ⟨b, off, arr, h1, h2, h3⟩
  · exact .inl h
  · exact .inr ⟨b, off, arr, h1, hK _ _ h2, fun i hi => hR _ _ (h3 i hi)⟩
theorem DenRep.cells {K K' : Know} (hK : ∀ b cs, K.cells b = some cs → K'.cells b = some cs) : ∀ (t : Ty) (x : t.den) (cs : List Value), DenRep K t x cs → DenRep K' t x cs
  | .int _, _, _, h => h
  | .bool, _, _, h => h
  | .slice e, l, cs, h => by
    obtain ⟨base, cap, h1, h2, h3⟩ := h
    exact ⟨base, cap, h1, h2, h3.cells hK (DenRep.cells hK e)⟩
  | .pair a b, x, cs, h => by
    obtain ⟨c1, c2, h1, h2, h3⟩ := h
    exact ⟨c1, c2, h1, DenRep.cells hK a _ _ h2, DenRep.cells hK b _ _ h3⟩

mutual
theorem plain_rep {K K' : Know} {H H' : Nat → Option Hd} (hK : ∀ b cs, K.cells b = some cs → K'.cells b = some cs) : ∀ (a : AVal) (v : Value), a.plainV = true → Rep K H a v → Rep K' H' a v
  | .bool _, _, _, h => by simpa [Rep] using h
  | .int _ _, _, _, h => by simpa [Rep] using h
  | .nilc, _, _, h => by simpa [Rep] using h
  | .nils _, _, _, h => by simpa [Rep] using h
  | .nilfn, _, _, h => by simpa [Rep] using h
  | .imm _ _ _, _, _, h => by
    simp only [Rep] at h ⊢
    obtain ⟨base, cap, h1, h2, h3, h4⟩ := h
    exact ⟨base, cap, h1, h2, h3, h4.cells hK (DenRep.cells hK _)⟩
  | .arrv _ _, _, _, h => by
    simp only [Rep] at h ⊢
    obtain ⟨cs, h1, h2, h3⟩ := h
    exact ⟨cs, h1, h2, fun i hi => DenRep.cells hK _ _ _ (h3 i hi)⟩
  | .iptr cs, _, hp, h => by
    simp only [Rep] at h ⊢
    obtain ⟨b, off, arr, h1, h2, h3⟩ := h
    exact ⟨b, off, arr, h1, hK _ _ h2, plain_repL hK cs _ (by simpa [AVal.plainV] using hp) h3⟩
  | .agg cs, _, hp, h => by
    simp only [Rep] at h ⊢
    obtain ⟨c, h1, h2⟩ := h
    exact ⟨c, h1, plain_repL hK cs _ (by simpa [AVal.plainV] using hp) h2⟩
  | .tup cs, _, hp, h => by
    simp only [Rep] at h ⊢
    obtain ⟨c, h1, h2⟩ := h
    exact ⟨c, h1, plain_repL hK cs _ (by simpa [AVal.plainV] using hp) h2⟩
  | .fn f a b, _, hp, h => by
    simp only [Rep] at h ⊢
    simp only [AVal.plainV, Bool.and_eq_true] at hp
    obtain ⟨fi, ca, h1, h2, h3⟩ := h
    exact ⟨fi, ca, h1, plain_repL hK a _ hp.1 h2, plain_repL hK b _ hp.2 h3⟩
  | .unk, _, hp, _ => by simp [AVal.plainV] at hp
  | .reg _ _, _, hp, _ => by simp [AVal.plainV] at hp
  | .sub _ _ _ _, _, hp, _ => by simp [AVal.plainV] at hp
  | .ptr _ _, _, hp, _ => by simp [AVal.plainV] at hp
  | .eptr _ _ _, _, hp, _ => by simp [AVal.plainV] at hp
  | .aptr _, _, hp, _ => by simp [AVal.plainV] at hp
  | .mref _, _, hp, _ => by simp [AVal.plainV] at hp
  | .yieldv, _, hp, _ => by simp [AVal.plainV] at hp
  | .sem _, _, hp, _ => by simp [AVal.plainV] at hp
theorem plain_repL {K K' : Know} {H H' : Nat → Option Hd} (hK : ∀ b cs, K.cells b = some cs → K'.cells b = some cs) : ∀ (us : List AVal) (vs : List Value), plainVs us = true → RepL K H us vs → RepL K' H' us vs
  | [], _, _, h => by simpa [RepL] using h
  | a :: us, vs, hp, h => by
    simp only [plainVs, Bool.and_eq_true] at hp
    simp only [RepL] at h ⊢
    obtain ⟨c, cs', h1, h2, h3⟩ := h
    exact ⟨c, cs', h1, plain_rep hK a c hp.1 h2, plain_repL hK us cs' hp.2 h3⟩
end

theorem newM_snoc (m : Mm) (n : Nat) (cs : List Cont) (c : Cont) : newM m n (cs ++ [c]) = upd (newM m n cs) (n + cs.length) (c, .own) := by
  funext r
  rw [newM_get]
  by_cases e : r = n + cs.length
  · subst e
    rw [upd_same, dif_pos (by simp)]
    simp
  · rw [upd_ne _ _ _ _ e, newM_get]
    by_cases h : n ≤ r ∧ r < n + cs.length
    · rw [dif_pos h, dif_pos (by simp; omega)]
      rw [List.getElem_append_left]
    · rw [dif_neg h, dif_neg (by simp; omega)]

theorem outOne_rep {imm : Bool} {hl : List Nat} (hL : HLe (renH hl H) HR) {v v' : AVal} {cs0 cs : List Cont} {u : List (Nat × Flag)} {x : Value} (h : outOne imm m hl v cs0.length = some (v', cs, u)) (hv : Rep K H v x) (hI : OutInv F K H w m HR cs0) :
    ∃ K' HR', K.le K' ∧ HLe HR HR' ∧ Fix F K K' ∧ OutInv F K' H w (flagsM m u) HR' (cs0 ++ cs) ∧ Rep K' HR' v' x := by
  have hn : HR cs0.length = none := hI.none _ (Nat.le_refl _)
  have viewed : ∀ rs v2, view m 6 v = some (v2, rs) → v' = v2.ren hl → cs = [] → u = frzAll rs →
      ∃ K' HR', K.le K' ∧ HLe HR HR' ∧ Fix F K K' ∧ OutInv F K' H w (flagsM m u) HR' (cs0 ++ cs) ∧ Rep K' HR' v' x := by
    intro rs v2 hview e1 e2 e3
    subst e1; subst e2; subst e3
    have hrs : ∀ r f, (r, f) ∈ rs → f ≠ .dead ∧ ∃ c, m r = some (c, f) ∧ c.isCells = true := (view_reads m 6).1 _ _ _ hview
    have hB : ∀ r f hd b cs e fz, (r, f) ∈ rs → H r = some hd → hd.base = some b → w.heap[b]? = some (.cells cs e fz) → (K.plus w (bases H rs)).cells b = some cs :=
      fun r f hd b cs e fz h1 h2 h3 h4 => plus_new (bases_mem h1 h2 h3) hI.ok.knows h4
    have hrep := (view_rep hI.mem (K.le_plus w (bases H rs)) H (.refl H) 6).1 _ x _ _ hview hB hv
    obtain ⟨hokF, hfix⟩ := hI.ok.frozen hI.mem rs hrs
    obtain ⟨hmF, _⟩ := hI.mem.freeze hI.ok.knows rs hrs
    refine ⟨K.plus w (bases H rs), HR, K.le_plus w _, .refl HR, hfix, ⟨hokF, hmF, ?_, by simpa using hI.none, ?_⟩, ?_⟩
    · rw [List.append_nil]
      refine hI.res.know (K.le_plus w _) (fun r c hd b h1 h2 h3 => ?_)
      obtain ⟨_, g1, g2, _⟩ := hI.res.own r c hd b h1 h2 h3
      refine ⟨?_, g2⟩
      cases hb : bases H rs b with
      | false => rw [plus_none hb]; exact g1
      | true =>
        exfalso
        obtain ⟨r2, f2, hd2, q1, q2, q3⟩ := bases_spec hb
        obtain ⟨q4, c2, q5, _⟩ := hrs r2 f2 q1
        cases f2 with
        | dead => exact q4 rfl
        | own => exact hI.apart r2 c2 hd2 r c hd b q5 q2 h1 h2 q3 h3
        | frz =>
          obtain ⟨cs, q6⟩ := hI.mem.frz r2 c2 hd2 b q5 q2 q3
          rw [g1] at q6; cases q6
    · intro r c hd r' c' hd' b h1 h2 h3 h4 h5
      rw [List.append_nil] at h3
      rw [frz_get] at h1
      cases hmr : m r with
      | none => rw [hmr] at h1; cases h1
      | some y =>
        obtain ⟨c0, g⟩ := y
        rw [hmr] at h1
        simp only [Option.some.injEq, Prod.mk.injEq] at h1
        obtain ⟨rfl, h1⟩ := h1
        split at h1
        · cases h1
        · subst h1
          exact hI.apart r c0 hd r' c' hd' b hmr h2 h3 h4 h5
    · exact Rep.mono (.refl _) hL _ _ (rep_ren (l := hl) (H := H) v2 x hrep)
  -- a region of one's own, handed back
  have moved : ∀ (r : Nat) (c : Cont) (a : AVal), m r = some (c, .own) → (∀ (HR' : Nat → Option Hd) (hd : Hd), H r = some hd → HR' cs0.length = some hd → Rep K HR' a x) → (∃ hd, H r = some hd) → c.plain = true → v' = a → cs = [c] → u = [(r, .dead)] →
      ∃ K' HR', K.le K' ∧ HLe HR HR' ∧ Fix F K K' ∧ OutInv F K' H w (flagsM m u) HR' (cs0 ++ cs) ∧ Rep K' HR' v' x := by
    intro r c a hm ha hd0 hpl e1 e2 e3
    subst e1; subst e2; subst e3
    obtain ⟨hd, h1⟩ := hd0
    refine ⟨K, upd HR cs0.length hd, .refl K, hle_upd hn, .refl F K, ⟨hI.ok, ?_, ?_, fun r' hr' => ?_, ?_⟩, ?_⟩
    · have e : flagsM m [(r, Flag.dead)] = upd m r (c, .dead) := by
        funext r'
        simp only [flagsM]
        rw [flagM_get]
        by_cases e : r' = r
        · subst e; simp [upd, hm]
        · simp [upd, e]
      rw [e]
      exact hI.mem.flag r _ _ .dead hm (by simp) (fun e => by cases e)
    · rw [newM_snoc, Nat.zero_add]
      refine hI.res.new cs0.length hn c hd (contRel_plain hpl (.refl K) (hI.mem.cont r _ _ hd hm (by simp) h1)) (fun b hb => ?_)
      obtain ⟨g1, g2, g3, g4⟩ := hI.mem.own r _ hd b hm h1 hb
      exact ⟨g1, g2, g3, g4, fun r' c' hd' q1 q2 => hI.apart r _ hd r' c' hd' b hm h1 q1 q2 hb⟩
    · have hr' : cs0.length + 1 ≤ r' := by simpa using hr'
      rw [upd_ne _ _ _ _ (by omega)]
      exact hI.none r' (by omega)
    · intro r1 c1 hd1 r2 c2 hd2 b q1 q2 q3 q4 q5 q6
      have hne : r1 ≠ r := by
        intro e
        subst e
        have : flagsM m [(r1, Flag.dead)] r1 = some (c, .dead) := by
          simp only [flagsM]
          rw [flagM_get]
          simp [hm]
        rw [this] at q1
        cases q1
      have q1' : m r1 = some (c1, .own) := by
        have : flagsM m [(r, Flag.dead)] r1 = m r1 := flagsM_other _ _ (by simpa using hne)
        rw [this] at q1
        exact q1
      rw [newM_snoc, Nat.zero_add] at q3
      by_cases e : r2 = cs0.length
      · subst e
        rw [upd_same] at q3 q4
        cases q3; cases q4
        exact hne (hI.mem.inj r1 r _ _ hd1 hd b q1' hm q2 h1 q5 q6)
      · rw [upd_ne _ _ _ _ e] at q3 q4
        exact hI.apart r1 c1 hd1 r2 c2 hd2 b q1' q2 q3 q4 q5 q6
    · exact ha _ hd h1 (upd_same _ _ _)
  unfold outOne at h
  split at h
  · simp only [Option.some.injEq, Prod.mk.injEq] at h
    obtain ⟨rfl, rfl, rfl⟩ := h
    refine ⟨K, HR, .refl K, .refl HR, .refl F K, by simpa [flagsM] using hI, ?_⟩
    exact Rep.mono (.refl _) hL _ _ (rep_ren (l := hl) (H := H) v x hv)
  rename_i hno
  clear hno
  split at h
  · rename_i r f
    split at h
    · rename_i t l hm
      simp only [Option.some.injEq, Prod.mk.injEq] at h
      obtain ⟨e1, e2, e3⟩ := h
      simp only [Rep] at hv
      obtain ⟨hd, h1, h2, h3⟩ := hv
      refine moved r _ (.reg cs0.length false) hm (fun HR' hd' k1 k2 => ?_) ⟨hd, h1⟩ rfl e1.symm e2.symm e3.symm
      rw [h1] at k1
      cases k1
      simp only [Rep]
      exact ⟨hd, k2, h2, by simp⟩
    · cases h
  · rename_i r
    split at h
    · rename_i mk l clk hm
      simp only [Option.some.injEq, Prod.mk.injEq] at h
      obtain ⟨e1, e2, e3⟩ := h
      simp only [Rep] at hv
      obtain ⟨hd, b, h1, h2⟩ := hv
      refine moved r _ (.mref cs0.length) hm (fun HR' hd' k1 k2 => ?_) ⟨hd, h1⟩ rfl e1.symm e2.symm e3.symm
      rw [h1] at k1
      cases k1
      simp only [Rep]
      exact ⟨hd, b, k2, h2⟩
    · cases h
  · rename_i t
    simp only [Option.some.injEq, Prod.mk.injEq] at h
    obtain ⟨rfl, rfl, rfl⟩ := h
    simp only [Rep] at hv
    subst hv
    let hd : Hd := ⟨none, t.size, 0, 0⟩
    refine ⟨K, upd HR cs0.length hd, .refl K, hle_upd hn, .refl F K, ⟨hI.ok, hI.mem, ?_, fun r' hr' => ?_, ?_⟩, ?_⟩
    · rw [newM_snoc, Nat.zero_add]
      exact hI.res.new cs0.length hn (.sl t []) hd ⟨rfl, rfl, ⟨Nat.le_refl _, Nat.zero_le _⟩, .inl ⟨rfl, rfl⟩⟩ (fun b hb => by cases hb)
    · have hr' : cs0.length + 1 ≤ r' := by simpa using hr'
      rw [upd_ne _ _ _ _ (by omega)]
      exact hI.none r' (by omega)
    · intro r1 c1 hd1 r2 c2 hd2 b q1 q2 q3 q4 q5 q6
      rw [newM_snoc, Nat.zero_add] at q3
      by_cases e : r2 = cs0.length
      · subst e
        rw [upd_same] at q4
        cases q4
        cases q6
      · rw [upd_ne _ _ _ _ e] at q3 q4
        exact hI.apart r1 c1 hd1 r2 c2 hd2 b q1 q2 q3 q4 q5 q6
    · simp only [Rep]
      exact ⟨hd, upd_same _ _ _, rfl, by simp⟩
  · rename_i t l
    simp only [Option.some.injEq, Prod.mk.injEq] at h
    obtain ⟨rfl, rfl, rfl⟩ := h
    exact ⟨K, HR, .refl K, .refl HR, .refl F K, by simpa [flagsM] using hI, by simpa only [Rep] using hv⟩
  · rename_i cells
    split at h
    · rename_i hpl
      simp only [Option.some.injEq, Prod.mk.injEq] at h
      obtain ⟨rfl, rfl, rfl⟩ := h
      exact ⟨K, HR, .refl K, .refl HR, .refl F K, by simpa [flagsM] using hI, plain_rep (fun _ _ h => h) (.agg cells) x (by simpa [AVal.plainV] using hpl) hv⟩
    · split at h
      · rename_i v2 rs hview
        simp only [Option.some.injEq, Prod.mk.injEq] at h
        obtain ⟨e1, e2, e3⟩ := h
        exact viewed rs v2 hview e1.symm e2.symm e3.symm
      · cases h
  · split at h
    · rename_i v2 rs hview
      simp only [Option.some.injEq, Prod.mk.injEq] at h
      obtain ⟨e1, e2, e3⟩ := h
      exact viewed rs v2 hview e1.symm e2.symm e3.symm
    · cases h

theorem outAll_rep {imm : Bool} {hl : List Nat} : ∀ (vs vs' : List AVal) (cs0 cs : List Cont) (xs : List Value) (K : Know) (m : Mm) (HR : Nat → Option Hd), outAll imm hl m vs cs0.length = some (vs', cs) → HLe (renH hl H) HR → RepL K H vs xs → OutInv F K H w m HR cs0 →
    ∃ K' HR' m', K.le K' ∧ HLe HR HR' ∧ Fix F K K' ∧ OutInv F K' H w m' HR' (cs0 ++ cs) ∧ RepL K' HR' vs' xs
  | [], vs', cs0, cs, xs, K, m, HR, h, hL, hv, hI => by
    simp only [outAll, Option.some.injEq, Prod.mk.injEq] at h
    obtain ⟨rfl, rfl⟩ := h
    have : xs = [] := RepL.nil_iff.1 hv
    subst this
    exact ⟨K, HR, m, .refl K, .refl HR, .refl F K, by rw [List.append_nil]; exact hI, .nil⟩
  | v :: vs, vs', cs0, cs, xs, K, m, HR, h, hL, hv, hI => by
    obtain ⟨x, xs', rfl, h1, h2⟩ := hv.inv
    simp only [outAll] at h
    split at h
    · rename_i v1 c1 u1 ho
      split at h
      · rename_i vs2 cs2 ho2
        simp only [Option.some.injEq, Prod.mk.injEq] at h
        obtain ⟨rfl, rfl⟩ := h
        obtain ⟨K1, HR1, a1, a2, a3, a4, a5⟩ := outOne_rep hL ho h1 hI
        rw [← List.length_append] at ho2
        obtain ⟨K2, HR2, m2, b1, b2, b3, b4, b5⟩ := outAll_rep vs vs2 (cs0 ++ c1) cs2 xs' K1 _ HR1 ho2 (hL.trans a2) (RepL.mono a1 (.refl H) _ _ h2) a4
        refine ⟨K2, HR2, m2, a1.trans b1, a2.trans b2, a3.trans b3, by rw [← List.append_assoc]; exact b4, .cons (Rep.mono b1 b2 _ _ a5) b5⟩
      · cases h
    · cases h

/-! ### the results of a function -/

def ResOk (P : Program) (m : Mm) (tm : List (Nat × AVal)) (r : ResultVar) : Prop :=
  ∀ a t, r = .cell a t → ∀ rr ty l f, aget tm a = .aptr rr → m rr = some (.sl ty l, f) → l.length * ty.size = sizeT P t
theorem resCond_spec {P : Program} {m : Mm} {tm : List (Nat × AVal)} : ∀ (rs : List ResultVar) (q : Prop), resCond P m tm rs q → q ∧ ∀ r ∈ rs, ResOk P m tm r
  | [], q, h => ⟨h, fun _ h => by cases h⟩
  | r :: rs, q, h => by
    unfold resCond at h
    split at h
    · obtain ⟨h1, h2⟩ := resCond_spec rs q h
      refine ⟨h1, fun r' hr' => ?_⟩
      rcases List.mem_cons.1 hr' with rfl | hr'
      · intro a t e; cases e
      · exact h2 _ hr'
    · split at h
      · rename_i a t r0 he
        split at h
        · rename_i ty l f hm
          obtain ⟨h0, h⟩ := h
          obtain ⟨h1, h2⟩ := resCond_spec rs q h
          refine ⟨h1, fun r' hr' => ?_⟩
          rcases List.mem_cons.1 hr' with rfl | hr'
          · intro a' t' e rr ty' l' f' e1 e2
            cases e
            rw [he] at e1; cases e1
            rw [hm] at e2; cases e2
            exact h0
          · exact h2 _ hr'
        · rename_i hm
          obtain ⟨h1, h2⟩ := resCond_spec rs q h
          refine ⟨h1, fun r' hr' => ?_⟩
          rcases List.mem_cons.1 hr' with rfl | hr'
          · intro a' t' e rr ty' l' f' e1 e2
            cases e
            rw [he] at e1; cases e1
            exact absurd e2 (hm _ _ _)
          · exact h2 _ hr'
      · rename_i a t he
        obtain ⟨h1, h2⟩ := resCond_spec rs q h
        refine ⟨h1, fun r' hr' => ?_⟩
        rcases List.mem_cons.1 hr' with rfl | hr'
        · intro a' t' e rr ty' l' f' e1 e2
          cases e
          exact absurd e1 (he _)
        · exact h2 _ hr'

theorem resOne_run {X : CtxW} {B : Option Nat} {n : Nat} {T : Nat → AVal} {a : Act} (hst : St X B F n K H T m a w) {r : ResultVar} {v : AVal} {tm : List (Nat × AVal)} (hT : T = aget tm) (hok : ResOk P m tm r) (h : resA P m tm r = some v) :
    ∃ x, (match r with
      | .tmp t => (pure (a.tmps.getD t undef) : Sem Value)
      | .cell c t => do loadVar t (← asAddr (a.tmps.getD c undef))).run P w = .ok x w ∧ Rep K H v x := by
  subst hT
  cases r with
  | tmp t =>
    simp only [resA, Option.some.injEq] at h
    subst h
    exact ⟨_, rfl, hst.tmp t⟩
  | cell c t =>
    simp only [resA] at h
    have hx := hst.tmp c
    split at h
    · rename_i r off he
      rw [he] at hx
      simp only [Rep] at hx
      obtain ⟨hd, b, h1, h2, e⟩ := hx
      split at h
      · rename_i cells f hmr
        split at h
        · cases h
        · rename_i hfd
          obtain ⟨b', cs, e', fz, g1, g2, g3⟩ := hst.mem.cont r _ f hd hmr hfd h1
          rw [h2] at g1; cases g1
          have g4 := RepL.drop off g3
          have hsz : (cells.drop off).length = cs.size - off := by
            have := RepL.length g3
            simp at this ⊢; omega
          obtain ⟨z, h3, h4⟩ := ld_run (P := P) g2 (off := off) (by rw [hsz, slab_all]; exact g4) h
          refine ⟨z, ?_, h4⟩
          simp only [e, asAddr, Sem.run_bind, Sem.run_pure, Result.andThen_ok]
          exact h3
      · cases h
    · rename_i r he
      rw [he] at hx
      simp only [Rep] at hx
      obtain ⟨hd, b, h1, h2, _, e⟩ := hx
      split at h
      · rename_i ty l f n et hmr hu
        split at h
        · cases h
        · rename_i hfd
          cases h
          have hlen := hok c t rfl r ty l f he hmr
          obtain ⟨c1, c2, c3, c4⟩ := hst.mem.cont r _ f hd hmr hfd h1
          have hbase : ∃ cs e' fz, w.heap[b]? = some (.cells cs e' fz) ∧ hd.cap * ty.size ≤ cs.size ∧ Elems K ty l cs 0 := by
            rcases c4 with ⟨c4, _⟩ | ⟨b', cs, e', fz, g1, g2, g3, g4⟩
            · rw [h2] at c4; cases c4
            · rw [h2] at g1; cases g1
              exact ⟨cs, e', fz, g2, g3, g4⟩
          obtain ⟨cs, e', fz, g2, g3, g4⟩ := hbase
          have hle : l.length * ty.size ≤ cs.size := Nat.le_trans (Nat.mul_le_mul_right _ (by omega)) g3
          have hag : aggT P t = true := by simp [aggT, hu]
          have hload := run_loadCells P g2 0 (sizeT P t) 0 #[] (by omega)
          refine ⟨.agg (slab cs 0 (sizeT P t)).toArray, ?_, ?_⟩
          · simp only [e, asAddr, Sem.run_bind, Sem.run_pure, Result.andThen_ok, loadVar, r_isAgg hu, hag, if_true, r_sizeT hu, loadCells, hload]
            simp
          · simp only [Rep]
            refine ⟨_, rfl, ?_, ?_⟩
            · rw [← hlen]; simp [slab]; omega
            · intro i hi
              have := g4 i hi
              have hs : slab (slab cs 0 (sizeT P t)).toArray (0 + i * ty.size) ty.size = slab cs (0 + i * ty.size) ty.size := by
                have : slab (slab cs 0 (sizeT P t)).toArray (0 + i * ty.size) ty.size = ((slab cs 0 (sizeT P t)).drop (0 + i * ty.size)).take ty.size := by
                  unfold slab; simp
                rw [this, slab_slab]
                · simp
                · rw [← hlen]
                  have : (i + 1) * ty.size ≤ l.length * ty.size := Nat.mul_le_mul_right _ hi
                  rw [Nat.add_mul] at this
                  omega
              rw [hs]; exact this
      · cases h
    · cases h

theorem resAll_run {X : CtxW} {B : Option Nat} {n : Nat} {T : Nat → AVal} {a : Act} (hst : St X B F n K H T m a w) {tm : List (Nat × AVal)} (hT : T = aget tm) : ∀ (rs : List ResultVar) (vs : List AVal), (∀ r ∈ rs, ResOk P m tm r) → resAll P m tm rs = some vs →
    ∃ xs, (rs.mapM fun (r : ResultVar) => (match r with
      | .tmp t => (pure (a.tmps.getD t undef) : Sem Value)
      | .cell c t => do loadVar t (← asAddr (a.tmps.getD c undef)))).run P w = .ok xs w ∧ RepL K H vs xs
  | [], vs, _, h => by
    simp only [resAll, Option.some.injEq] at h
    subst h
    exact ⟨[], rfl, .nil⟩
  | r :: rs, vs, hok, h => by
    simp only [resAll] at h
    split at h
    · rename_i v vs2 h1 h2
      simp only [Option.some.injEq] at h
      subst h
      obtain ⟨x, a1, a2⟩ := resOne_run (P := P) hst hT (hok _ (List.mem_cons_self ..)) h1
      obtain ⟨xs, b1, b2⟩ := resAll_run hst hT rs vs2 (fun r hr => hok r (List.mem_cons_of_mem _ hr)) h2
      refine ⟨x :: xs, ?_, .cons a2 b2⟩
      rw [List.mapM_cons, Sem.run_bind, a1]
      simp only [Result.andThen_ok, Sem.run_bind, b1, Sem.run_pure]
    · cases h

theorem results_run {X : CtxW} {B : Option Nat} {n : Nat} {T : Nat → AVal} {a : Act} (hst : St X B F n K H T m a w) {tm : List (Nat × AVal)} (hT : T = aget tm) {fn : Func} {vs : List AVal} (hok : ∀ r ∈ fn.results.toList, ResOk P m tm r) (h : resAll P m tm fn.results.toList = some vs) :
    ∃ xs, (results fn a.tmps).run P w = .ok (if h : xs.length = 1 then xs[0] else .tuple xs.toArray) w ∧ RepL K H vs xs := by
  obtain ⟨xs, h1, h2⟩ := resAll_run (P := P) hst hT fn.results.toList vs hok h
  refine ⟨xs, ?_, h2⟩
  unfold results
  rw [Array.mapM_eq_mapM_toList]
  generalize hg : List.mapM (m := Sem) _ fn.results.toList = z
  have hz : z.run P w = .ok xs w := by rw [← hg]; exact h1
  simp [Sem.run_map, hz]
end

/-! ### functions -/

theorem mget_argM : ∀ (cs : List Cont) (k r : Nat), mget (argM cs k) r = if h : k ≤ r ∧ r < k + cs.length then some (cs[r - k]'(by omega), .own) else none
  | [], k, r => by simp [argM, mget]
  | c :: cs, k, r => by
    simp only [argM, mget]
    by_cases e : k = r
    · subst e; simp
    · rw [if_neg e, mget_argM cs]
      by_cases h : k + 1 ≤ r ∧ r < k + 1 + cs.length
      · rw [dif_pos h, dif_pos (by simp; omega)]
        have e' : r - k = (r - (k + 1)) + 1 := by omega
        simp only [e', List.getElem_cons_succ]
      · rw [dif_neg h, dif_neg (by simp; omega)]

theorem argM_eq (cs : List Cont) : mget (argM cs 0) = newM (fun _ => none) 0 cs := by
  funext r
  rw [mget_argM, newM_get]

theorem argT_get : ∀ (as : List AVal) (k t : Nat), aget (argT as k) t = if k ≤ t then (as[t - k]?).getD .unk else .unk
  | [], k, t => by simp [argT, aget]
  | v :: vs, k, t => by
    simp only [argT, aget]
    by_cases e : k = t
    · subst e; simp
    · rw [if_neg e, argT_get vs]
      by_cases h : k + 1 ≤ t
      · have e' : t - k = (t - (k + 1)) + 1 := by omega
        rw [if_pos h, if_pos (by omega), e', List.getElem?_cons_succ]
      · rw [if_neg h, if_neg (by omega)]

/-- The blocks of marks are shut. -/
def shut (Ds : List Nat) (w : World) : World := Ds.foldl (fun w D => w.putObj D (.deferred none)) w

theorem leaves_shut {F : Fence} {n : Nat} {P : Program} {fn : Func} {tmps : Array Value} {R : Ending → World → Prop} : ∀ (Ds : List Nat) (w : World), Ds.Nodup → (∀ D ∈ Ds, w.heap[D]? = some (.deferred (some []))) →
    (∃ v, (results fn tmps).run P (shut Ds w) = .ok v (shut Ds w) ∧ R (.returned v) (shut Ds w)) → LeavesInM F n P fn tmps R (Ds.map mark) .returning w
  | [], w, _, _, h => h
  | D :: Ds, w, hn, hD, h => by
    obtain ⟨h1, h2⟩ := List.nodup_cons.1 hn
    have hd := hD D (by simp)
    refine ⟨by simp, .inl ⟨D, _, rfl, run_takeDeferred hd, leaves_shut Ds _ h2 (fun D' hD' => ?_) h⟩⟩
    rw [heap_put hd, if_neg (fun (e : D' = D) => h1 (e ▸ hD'))]
    exact hD D' (List.mem_cons_of_mem _ hD')

theorem shut_ok {F' F : Nat → Prop} {K : Know} {H : Nat → Option Hd} {m : Mm} : ∀ (Ds : List Nat) (w : World), Ds.Nodup → (∀ D ∈ Ds, F' D ∧ ¬ F D ∧ w.heap[D]? = some (.deferred (some []))) → WOk F' K w → MRel F' K H w m →
    WOk F' K (shut Ds w) ∧ MRel F' K H (shut Ds w) m ∧ Kept F w (shut Ds w)
  | [], w, _, _, h1, h2 => ⟨h1, h2, .refl F w⟩
  | D :: Ds, w, hn, hD, h1, h2 => by
    obtain ⟨n1, n2⟩ := List.nodup_cons.1 hn
    obtain ⟨d1, d2, d3⟩ := hD D (by simp)
    have hinv : K.inv D = none := by
      cases hi : K.inv D with
      | none => rfl
      | some p => exact absurd d1 (h1.inv _ _ hi)
    have hc : ∀ cs e fz, Obj.deferred (some []) ≠ .cells cs e fz := fun _ _ _ h => by cases h
    obtain ⟨g1, g2, g3⟩ := shut_ok (F := F) Ds (w.putObj D (.deferred none)) n2 (fun D' hD' => by
      obtain ⟨k1, k2, k3⟩ := hD D' (List.mem_cons_of_mem _ hD')
      refine ⟨k1, k2, ?_⟩
      rw [heap_put d3, if_neg (fun (e : D' = D) => n1 (e ▸ hD'))]
      exact k3) (ok_put h1 d3 hc hinv) (mem_put h2 d3 hc (fun _ _ h => by cases h) (fun _ _ _ _ h => by cases h))
    exact ⟨g1, g2, (kept_put d3 d2).trans g3⟩

theorem arg_tmps {K : Know} {H : Nat → Option Hd} {as : List AVal} {vs : List Value} (hargs : RepL K H as vs) (k t : Nat) : Rep K H (aget (argT as 0) t) ((vs.toArray ++ Array.replicate k undef).getD t undef) := by
  rw [argT_get, if_pos (Nat.zero_le _), Nat.sub_zero]
  cases ha : as[t]? with
  | none => simp [Rep]
  | some v =>
    obtain ⟨x, hx, hr⟩ := RepL.get t v hargs ha
    simp only [Option.getD_some]
    have hlt : t < vs.length := lt_of_get hx
    rw [List.getElem?_eq_getElem hlt] at hx
    simp only [Option.some.injEq] at hx
    have e : (vs.toArray ++ Array.replicate k undef).getD t undef = x := by
      rw [Array.getD_eq_getD_getElem?, Array.getElem?_append_left (by simpa using hlt)]
      simp [hlt, hx]
    rw [e]
    exact hr

/-- Iterators that hold no range over a function. -/
theorem iterA_ok {Γ : Env} {P : Program} (hmix : P.follows .mixedOrders = true) (hG : Good P Γ) (kt : FuncId → Nat → List Nat) : IterOk P (iterA Γ P kt iter0) := by
  intro h gf args s0 k X F0 F K H w vs l R hit hX hhand hF hy hok hm hfr hargs hx hpost
  unfold iterA at hit
  split at hit
  · rename_i fi hfi
    split at hit
    · rename_i c hc
      split at hit
      · rename_i hh
        obtain ⟨htx, hres, hname⟩ := hh
        refine ⟨callFunc_run hfi hc hname, ?_⟩
        have hlen := RepL.length hargs
        refine callsIn_of_wp_marks hfi hc (wd_fn none _) ?_
        refine awp_sound hmix hG iter0_ok c htx X none F0 none (some l) _ (.it h) hX (fun l h => by cases h) ⟨⟨rfl, rfl, l, rfl, hhand⟩, fun _ => rfl⟩ (.inr rfl) _ _ F K H _ w _ hit rfl hF (fun l' e => by cases e; exact hy) ?_ hfr ?_
        · refine ⟨hok, hm, ?_, rfl, fun t => arg_tmps hargs _ t, hx⟩
          show max args.length fi.ntmps ≤ _
          simp [hlen]; omega
        · have fin : ∀ st' a' w', k st' → Thn X none F0 F (max args.length fi.ntmps) K w st' a' w' → LeavesInM (Wd none) 0 P fi a'.tmps R a'.defers .returning w' := by
            intro st' a' w' hk ht
            obtain ⟨⟨F', K', H', hFF, hst, hK, hfr', hfix⟩, hkept⟩ := ht
            have hd : a'.defers = [] := hst.defers
            rw [hd]
            refine ⟨.tuple #[], ?_, hpost st' F' K' H' w' _ hk hFF hst.ok hst.mem hfr' hst.x hK hfix hkept⟩
            have : fi.results = #[] := Array.eq_empty_of_size_eq_zero hres
            simp [results, this]
          intro e st' a' w' hk hn' ht
          cases e with
          | normal => exact fin st' a' w' hk ht
          | ret => exact fin st' a' w' hk ht
          | exit id => exact hk.elim
      · exact hit.elim
    · exact hit.elim
  · exact hit.elim

/-! ### regions that were handed over -/

/-- The values of the regions handed over stay what they were. -/
def handCtx (V : List Value) : Ctx := fun _ K H gh _ _ => RepL K H gh V
theorem handCtx_ok (V : List Value) : (handCtx V).Ok :=
  ⟨fun _ _ => ⟨fun _ _ _ _ _ _ _ _ h _ hK hH _ => RepL.mono hK hH _ _ h⟩, fun _ _ _ _ _ _ _ h => rep_renL _ _ h⟩

theorem handRefs_rep {K : Know} {H : Nat → Option Hd} : ∀ (as : List AVal) (vs : List Value), RepL K H as vs → ∃ V, RepL K H (handRefs as) V
  | [], _, _ => ⟨[], .nil⟩
  | a :: as, vs, h => by
    obtain ⟨x, xs, rfl, h1, h2⟩ := h.inv
    obtain ⟨V, hV⟩ := handRefs_rep as xs h2
    cases a
    case reg r f => exact ⟨x :: V, .cons h1 hV⟩
    case mref r => exact ⟨x :: V, .cons h1 hV⟩
    all_goals exact ⟨V, hV⟩

theorem handNums_spec : ∀ (gs : List AVal) (i : Nat) (cs : List Cont), handNums gs i cs = true → gs.length = cs.length ∧ ∀ (q : Nat) (a : AVal) (c : Cont), gs[q]? = some a → cs[q]? = some c → c.plain = true ∧ ((∃ f t l, a = .reg (i + q) f ∧ c = .sl t l) ∨ ∃ mk l k, a = .mref (i + q) ∧ c = .mp mk l k)
  | [], i, [], _ => ⟨rfl, fun q a c h => by simp at h⟩
  | [], _, _ :: _, h => by simp [handNums] at h
  | _ :: _, _, [], h => by simp [handNums] at h
  | v :: gs, i, c0 :: cs, h => by
    simp only [handNums, Bool.and_eq_true] at h
    obtain ⟨h1, h2⟩ := handNums_spec gs (i + 1) cs h.2
    refine ⟨by simp [h1], fun q a c ha hc => ?_⟩
    cases q with
    | zero =>
      simp only [List.getElem?_cons_zero, Option.some.injEq] at ha hc
      subst ha; subst hc
      have h0 := h.1
      split at h0
      · simp only [decide_eq_true_eq] at h0
        exact ⟨rfl, .inl ⟨_, _, _, by rw [h0]; rfl, rfl⟩⟩
      · simp only [decide_eq_true_eq] at h0
        exact ⟨rfl, .inr ⟨_, _, _, by rw [h0]; rfl, rfl⟩⟩
      · cases h0
    | succ q =>
      simp only [List.getElem?_cons_succ] at ha hc
      have := h2 q a c ha hc
      rw [show i + 1 + q = i + (q + 1) by omega] at this
      exact this

theorem handedBack_spec {m : Mm} : ∀ (gs : List AVal) (cs0 : List Cont) (hl : List Nat) (hcs : List Cont), handedBack m gs cs0 = some (hl, hcs) → hl.length = gs.length ∧ hcs.length = gs.length ∧ cs0.length = gs.length ∧
    ∀ q, q < gs.length → ∃ a c0 c, gs[q]? = some a ∧ cs0[q]? = some c0 ∧ hcs[q]? = some c ∧ regNo a = some (hl.getD q 0) ∧ m (hl.getD q 0) = some (c, .own) ∧ sameKind c0 c = true
  | [], [], hl, hcs, h => by
    simp only [handedBack, Option.some.injEq, Prod.mk.injEq] at h
    obtain ⟨rfl, rfl⟩ := h
    exact ⟨rfl, rfl, rfl, fun q hq => by simp at hq⟩
  | [], _ :: _, _, _, h => by simp [handedBack] at h
  | _ :: _, [], _, _, h => by simp [handedBack] at h
  | v :: gs, c0 :: cs0, hl, hcs, h => by
    simp only [handedBack] at h
    split at h
    · rename_i r hr
      split at h
      · rename_i c' hm
        split at h
        · rename_i hk
          split at h
          · rename_i hl' cs' hrest
            simp only [Option.some.injEq, Prod.mk.injEq] at h
            obtain ⟨rfl, rfl⟩ := h
            obtain ⟨a1, a2, a3, a4⟩ := handedBack_spec gs cs0 hl' cs' hrest
            refine ⟨by simp [a1], by simp [a2], by simp [a3], fun q hq => ?_⟩
            cases q with
            | zero => exact ⟨v, c0, c', rfl, rfl, rfl, by simpa using hr, by simpa using hm, hk⟩
            | succ q =>
              obtain ⟨a, d0, d, b1, b2, b3, b4, b5, b6⟩ := a4 q (by simpa using hq)
              exact ⟨a, d0, d, by simpa using b1, by simpa using b2, by simpa using b3, by simpa using b4, by simpa using b5, b6⟩
          · cases h
        · cases h
      · cases h
    · cases h

theorem sameKind_plain {c c' : Cont} (h : sameKind c c' = true) : c'.plain = true := by
  unfold sameKind at h
  split at h
  · rfl
  · rfl
  · cases h

/-- The same value, the same kind of content: the same head. -/
theorem head_eq {K K' : Know} {H H' : Nat → Option Hd} {w w' : World} {a a' : AVal} {v : Value} {c c' : Cont} {hd hd' : Hd} {r r' : Nat} (h1 : regNo a = some r) (h2 : regNo a' = some r') (h3 : Rep K H a v) (h4 : Rep K' H' a' v) (h5 : H r = some hd) (h6 : H' r' = some hd')
    (hk : sameKind c c' = true) (h7 : ContRel K H w hd c) (h8 : ContRel K' H' w' hd' c') (hac : (∃ r f t l, a = .reg r f ∧ c = .sl t l) ∨ ∃ r mk l k, a = .mref r ∧ c = .mp mk l k) : hd' = hd := by
  rcases hac with ⟨r0, f0, t, l, rfl, rfl⟩ | ⟨r0, mk, l, kk, rfl, rfl⟩
  · cases c' with
    | sl t' l' =>
      simp only [sameKind, decide_eq_true_eq] at hk
      subst hk
      simp only [regNo, Option.some.injEq] at h1
      subst h1
      simp only [Rep] at h3
      obtain ⟨hd1, g1, g2, _⟩ := h3
      rw [h5] at g1; cases g1
      cases a' <;> simp only [regNo] at h2 <;> try cases h2
      case reg.refl r1 f1 =>
        simp only [Rep] at h4
        obtain ⟨hd2, k1, k2, _⟩ := h4
        rw [h6] at k1; cases k1
        rw [g2] at k2
        simp only [Value.slice.injEq] at k2
        obtain ⟨e1, e2, e3⟩ := k2
        obtain ⟨s1, _⟩ := h7
        obtain ⟨s2, _⟩ := h8
        obtain ⟨b1, z1, l1, c1⟩ := hd
        obtain ⟨b2, z2, l2, c2⟩ := hd'
        simp only at s1 s2 e1 e2 e3
        have eb : b1 = b2 := by
          cases b1 <;> cases b2 <;> simp at e1 <;> simp [e1]
        rw [eb, s1, s2, e2, e3]
      case mref.refl r1 =>
        simp only [Rep] at h4
        obtain ⟨hd2, b, k1, k2, k3⟩ := h4
        rw [g2] at k3; cases k3
    | box x => simp [sameKind] at hk
    | mp a b c => simp [sameKind] at hk
    | it a b c d => simp [sameKind] at hk
  · cases c' with
    | mp mk' l' kk' =>
      simp only [regNo, Option.some.injEq] at h1
      subst h1
      simp only [Rep] at h3
      obtain ⟨hd1, b, g1, g2, g3⟩ := h3
      rw [h5] at g1; cases g1
      cases a' <;> simp only [regNo] at h2 <;> try cases h2
      case reg.refl =>
        simp only [Rep] at h4
        obtain ⟨hd2, k1, k2, _⟩ := h4
        rw [g3] at k2; cases k2
      case mref.refl =>
        simp only [Rep] at h4
        obtain ⟨hd2, b2, k1, k2, k3⟩ := h4
        rw [h6] at k1; cases k1
        rw [g3] at k3
        cases k3
        obtain ⟨s1, s2, s3, _⟩ := h7
        obtain ⟨t1, t2, t3, _⟩ := h8
        obtain ⟨b1, z1, l1, c1⟩ := hd
        obtain ⟨b2, z2, l2, c2⟩ := hd'
        simp only at s1 s2 s3 t1 t2 t3 g2 k2
        rw [g2, k2, s1, s2, s3, t1, t2, t3]
    | box x => simp [sameKind] at hk
    | sl a b => simp [sameKind] at hk
    | it a b c d => simp [sameKind] at hk

theorem deadAll_rel {F : Nat → Prop} {K : Know} {H : Nat → Option Hd} {w : World} : ∀ (hl : List Nat) (m : Mm), MRel F K H w m → MRel F K H w (flagsM m (deadAll hl))
  | [], _, h => h
  | r :: hl, m, h => by
    refine deadAll_rel hl _ ?_
    unfold flagM
    split
    · rename_i c f hm
      exact h.flag r c f .dead hm (by simp) (fun e => by cases e)
    · exact h
theorem deadAll_own : ∀ (hl : List Nat) (m : Mm) (r : Nat) (c : Cont), flagsM m (deadAll hl) r = some (c, .own) → r ∉ hl ∧ m r = some (c, .own)
  | [], _, _, _, h => ⟨by simp, h⟩
  | a :: hl, m, r, c, h => by
    obtain ⟨h1, h2⟩ := deadAll_own hl _ r c h
    rw [flagM_get] at h2
    by_cases e : r = a
    · subst e
      cases hma : m r with
      | none => rw [hma] at h2; simp at h2
      | some x => rw [hma] at h2; simp at h2
    · refine ⟨by simp [e, h1], ?_⟩
      cases hma : m r with
      | none => rw [hma] at h2; simp at h2
      | some x => rw [hma] at h2; simpa [e] using h2

theorem noYC_mem : ∀ {cs : List Cont}, noYC cs = true → ∀ c ∈ cs, c.noY = true
  | [], _, c, h => by simp at h
  | c0 :: cs, hn, c, h => by
    simp only [noYC, Bool.and_eq_true] at hn
    rcases List.mem_cons.1 h with rfl | h
    · exact hn.1
    · exact noYC_mem hn.2 c h
theorem plain_noY {c : Cont} (h : c.plain = true) : c.noY = true := by cases c <;> first | rfl | cases h

/-- A function whose code does, by the interpreter, what a contract says keeps it. -/
theorem aspec {Γ : Env} {P : Program} {kt : FuncId → Nat → List Nat} {imm : Bool} {f : FuncId} {fn : Func} {as : List AVal} {cs : List Cont} {k : AVal → List Cont → Prop} (hmix : P.follows .mixedOrders = true) (hG : Good P Γ) (hf : P.funcs[f]? = some fn) (htx : (fn.body.map Code.textsOk).getD true = true)
    (h : awpF Γ P kt f imm fn as cs k) : ASpec P f as cs k := by
  intro F K H w vs hok hargs hm hfr
  unfold awpF at h
  split at h
  · rename_i c hc
    split at h
    · rename_i hny
      simp only [Bool.and_eq_true] at hny
      obtain ⟨⟨hnyL, hnyC⟩, hnum⟩ := hny
      refine calls_of (n := 0) (callsIn_of_wp_marks hf hc (wd_fn none _) ?_)
      have hlen := RepL.length hargs
      have hargs0 := repL_toY none _ _ hnyL hargs
      obtain ⟨V, hV⟩ := handRefs_rep as vs hargs
      obtain ⟨V0, hV0⟩ := handRefs_rep as vs hargs0
      have hm0 : MRel F (K.toY none) H w (mget (argM cs 0)) := by
        rw [argM_eq]
        refine hm.toY none (fun r c f h => ?_)
        rw [newM_get] at h
        split at h
        · cases h
          exact noYC_mem hnyC _ (List.getElem_mem _)
        · cases h
      have hst : St ((handCtx V0).toW (handRefs as) none) (some w.heap.size) F (max as.length fn.ntmps) (K.toY none) H (aget (argT as 0)) (mget (argM cs 0)) { tmps := vs.toArray ++ Array.replicate (fn.ntmps - vs.toArray.size) undef, defers := [] } w := by
        refine ⟨hok.toY _, hm0, ?_, ⟨Nat.le_refl _, [], rfl, List.nodup_nil, fun D hD => by simp at hD⟩, fun t => arg_tmps hargs0 _ t, hV0⟩
        simp [hlen]; omega
      refine awp_sound hmix hG (iterA_ok hmix hG kt) c (by simpa [hc] using htx) (handCtx V0) (some w.heap.size) F none none _ .top (handCtx_ok V0) (fun l h => by cases h) ⟨trivial, fun _ => rfl⟩ (.inl (fun h => by cases h)) _ _ F (K.toY none) H _ w _ h rfl (fun _ h => h) (fun l e => by cases e) hst hfr ?_
      have fin : ∀ (st' : AState) (a' : Act) (w' : World), retA imm P fn cs st' k → Thn (handCtx V0) (some w.heap.size) F F (max as.length fn.ntmps) (K.toY none) w st' a' w' → LeavesInM (Wd none) 0 P fn a'.tmps (fun e w' =>
          ∃ v r RM K' H', e = .returned v ∧ k r RM ∧ K.le K' ∧ Rep K' H' r v ∧ MRel F K' H' w' (newM (fun _ => none) 0 RM) ∧ (∀ r, RM.length ≤ r → H' r = none) ∧ WOk F K' w' ∧ Kept F w w' ∧ Fix F K K' ∧ cs.length ≤ RM.length ∧ ∀ r, r < cs.length → H' r = H r) a'.defers .returning w' := by
        intro st' a' w' hr ht
        obtain ⟨⟨F', K1, H1, hFF, hst1, hK1, hfr1, hfix1⟩, hkept1⟩ := ht
        obtain ⟨m0, Ds, hDs, hnd, hD⟩ := hst1.defers
        rw [hDs]
        refine leaves_shut Ds w' hnd (fun D h => (hD D h).2.2) ?_
        obtain ⟨ok2, mem2, kept2⟩ := shut_ok (F := F) Ds w' hnd (fun D h => ⟨(hD D h).2.1, fun hb => by
          have h1 := hok.lt D hb
          have h2 := (hD D h).1
          omega, (hD D h).2.2⟩) hst1.ok hst1.mem
        generalize shut Ds w' = w2 at ok2 mem2 kept2 ⊢
        have hx1 : RepL K1 H1 st'.gh V0 := hst1.x
        have hst2 : St ((handCtx V0).toW st'.gh st'.pend) none F' (max as.length fn.ntmps) K1 H1 st'.sem.T st'.sem.m { a' with defers := [] } w2 := ⟨ok2, mem2, hst1.size, rfl, hst1.tmp, hx1⟩
        unfold retA at hr
        split at hr
        rotate_left
        · exact hr.elim
        rename_i hl hcs hback
        split at hr
        rotate_left
        · exact hr.elim
        rename_i hnod
        have hdup := nodupN_spec hnod
        obtain ⟨l1, l2, l3, hsp⟩ := handedBack_spec _ _ _ _ hback
        split at hr
        · rename_i rs hrs
          obtain ⟨hr, hcond⟩ := resCond_spec _ _ hr
          obtain ⟨xs, hrun, hrep⟩ := results_run (P := P) hst2 rfl hcond hrs
          refine ⟨_, hrun, ?_⟩
          have hrep' := typedL_rep P fn.resultTypes.toList _ _ hrep
          let HR0 : Nat → Option Hd := fun i => if i < hl.length then H1 (hl.getD i 0) else none
          have mem3 : MRel F K1 H1 w2 (mget st'.M) := mem2.less hFF
          have rg : ∀ r c f, newM (fun _ => none) 0 hcs r = some (c, f) → r < hl.length ∧ mget st'.M (hl.getD r 0) = some (c, .own) ∧ c.plain = true ∧ HR0 r = H1 (hl.getD r 0) := by
            intro r c f hr
            rw [newM_get] at hr
            split at hr
            · rename_i hcc
              simp only [Option.some.injEq, Prod.mk.injEq] at hr
              have hlt : r < st'.gh.length := by omega
              obtain ⟨a, c0, c', b1, b2, b3, b4, b5, b6⟩ := hsp r hlt
              have e : hcs[r - 0]'(by omega) = c' := by
                rw [List.getElem?_eq_getElem (by omega)] at b3
                simpa using b3
              rw [e] at hr
              obtain ⟨rfl, _⟩ := hr
              exact ⟨by omega, b5, sameKind_plain b6, by show (if r < hl.length then _ else _) = _; rw [if_pos (by omega)]⟩
            · cases hr
          have hI : OutInv F K1 H1 w2 (flagsM (mget st'.M) (deadAll hl)) HR0 hcs := by
            refine ⟨ok2.less hFF, deadAll_rel hl _ mem3, ⟨?_, ?_, ?_, ?_⟩, fun r hr => by show (if r < hl.length then _ else _) = _; rw [if_neg (by omega)], ?_⟩
            · intro r c f hd q1 q2 q3
              obtain ⟨a1, a2, a3, a4⟩ := rg r c f q1
              rw [a4] at q3
              exact contRel_plain a3 (.refl K1) (mem3.cont _ c .own hd a2 (by simp) q3)
            · intro r c hd b q1 q2 q3
              obtain ⟨a1, a2, a3, a4⟩ := rg r c _ q1
              rw [a4] at q2
              exact mem3.own _ c hd b a2 q2 q3
            · intro r c hd b q1 q2 q3
              rw [newM_get] at q1
              split at q1
              · cases q1
              · cases q1
            · intro r r' c c' hd hd' b q1 q2 q3 q4 q5 q6
              obtain ⟨a1, a2, a3, a4⟩ := rg r c _ q1
              obtain ⟨b1, b2, b3, b4⟩ := rg r' c' _ q2
              rw [a4] at q3
              rw [b4] at q4
              exact getD_inj hdup a1 b1 (mem3.inj _ _ c c' hd hd' b a2 b2 q3 q4 q5 q6)
            · intro r c hd r' c' hd' b q1 q2 q3 q4 q5 q6
              obtain ⟨k1, k2⟩ := deadAll_own hl _ r c q1
              obtain ⟨a1, a2, a3, a4⟩ := rg r' c' _ q3
              rw [a4] at q4
              have e := mem3.inj _ _ c c' hd hd' b k2 a2 q2 q4 q5 q6
              exact k1 (e ▸ getD_mem a1)
          have hL : HLe (renH hl H1) HR0 := by
            intro r hd hr
            unfold renH at hr
            cases hg : hl[r]? with
            | none => rw [hg] at hr; cases hr
            | some y =>
              rw [hg] at hr
              have hlt : r < hl.length := lt_of_get hg
              show (if r < hl.length then H1 (hl.getD r 0) else none) = _
              rw [if_pos hlt, getD_get hlt]
              rw [List.getElem?_eq_getElem hlt] at hg
              simp only [Option.some.injEq] at hg
              rw [hg]; exact hr
          have go : ∀ os ocs, outAll imm hl (flagsM (mget st'.M) (deadAll hl)) (typedL P fn.resultTypes.toList rs) hcs.length = some (os, ocs) → ∀ r, r.noY = true → noYC ocs = true → (∀ K' H', RepL K' H' os xs → Rep K' H' r (if h : xs.length = 1 then xs[0] else .tuple xs.toArray)) → k r (hcs ++ ocs) →
              ∃ v r RM K' H', Ending.returned (if h : xs.length = 1 then xs[0] else .tuple xs.toArray) = Ending.returned v ∧ k r RM ∧ K.le K' ∧ Rep K' H' r v ∧ MRel F K' H' w2 (newM (fun _ => none) 0 RM) ∧ (∀ r, RM.length ≤ r → H' r = none) ∧ WOk F K' w2 ∧ Kept F w w2 ∧ Fix F K K' ∧ cs.length ≤ RM.length ∧ ∀ r, r < cs.length → H' r = H r := by
            intro os ocs ho r hny1 hny2 hr hk
            obtain ⟨K2, HR, m2, b1, b2, b3, b4, b5⟩ := outAll_rep _ _ hcs ocs xs K1 _ HR0 ho hL hrep' hI
            refine ⟨_, r, hcs ++ ocs, K2.toY K.y, HR, rfl, hk, ⟨fun b cs h => b1.cells _ _ (hK1.cells _ _ h), fun b p h => b1.inv _ _ (hK1.inv _ _ h), fun _ h => h⟩, rep_toY _ _ _ hny1 (hr K2 HR b5), ?_, b4.none, b4.ok.toY _, hkept1.trans kept2, fun b hb => ?_, by rw [List.length_append]; omega, fun q hq => ?_⟩
            · refine b4.res.toY _ (fun r c f h => ?_)
              rw [newM_get] at h
              split at h
              · rename_i hcc
                simp only [Option.some.injEq, Prod.mk.injEq] at h
                have hmem : c ∈ hcs ++ ocs := by rw [← h.1]; exact List.getElem_mem _
                rcases List.mem_append.1 hmem with hmem | hmem
                · obtain ⟨i, hi, e⟩ := List.getElem_of_mem hmem
                  have := rg i hcs[i] .own (by rw [newM_get, dif_pos (by omega)]; simp)
                  rw [← e]
                  exact plain_noY this.2.2.1
                · exact noYC_mem hny2 _ hmem
              · cases h
            · have f1 := hfix1 b hb
              have f2 := b3 b hb
              exact ⟨f2.1.trans f1.1, f2.2.trans f1.2⟩
            · have hlt : q < st'.gh.length := by omega
              obtain ⟨a, c0, c', e1, e2, e3, e4, e5, e6⟩ := hsp q hlt
              obtain ⟨n1, n2⟩ := handNums_spec (handRefs as) 0 cs hnum
              have hq2 : q < (handRefs as).length := by omega
              obtain ⟨x, y1, y2⟩ := RepL.get q a hx1 e1
              obtain ⟨x', z1, z2⟩ := RepL.get q ((handRefs as)[q]) hV0 (List.getElem?_eq_getElem hq2)
              rw [y1] at z1
              cases z1
              obtain ⟨p1, p2⟩ := n2 q _ _ (List.getElem?_eq_getElem hq2) e2
              rw [Nat.zero_add] at p2
              have hcq : mget (argM cs 0) q = some (c0, .own) := by
                rw [mget_argM, dif_pos (by omega)]
                rw [List.getElem?_eq_getElem (by omega)] at e2
                simp only [Option.some.injEq] at e2
                simpa using e2
              have hd1 : ∃ hd, H q = some hd := by
                rcases p2 with ⟨f, t, l, g1, _⟩ | ⟨mk, l, kk, g1, _⟩
                · rw [g1] at z2; simp only [Rep] at z2; obtain ⟨hd, g, _⟩ := z2; exact ⟨hd, g⟩
                · rw [g1] at z2; simp only [Rep] at z2; obtain ⟨hd, _, g, _⟩ := z2; exact ⟨hd, g⟩
              have hd2 : ∃ hd, H1 (hl.getD q 0) = some hd := by
                cases a <;> simp only [regNo] at e4 <;> try cases e4
                · simp only [Rep] at y2; obtain ⟨hd, g, _⟩ := y2; exact ⟨hd, g⟩
                · simp only [Rep] at y2; obtain ⟨hd, _, g, _⟩ := y2; exact ⟨hd, g⟩
              obtain ⟨hd, g1⟩ := hd1
              obtain ⟨hd', g2⟩ := hd2
              have rno : regNo ((handRefs as)[q]) = some q := by
                rcases p2 with ⟨f, t, l, g, _⟩ | ⟨mk, l, kk, g, _⟩ <;> rw [g] <;> rfl
              have := head_eq rno e4 z2 y2 g1 g2 e6 (hm0.cont q c0 .own hd hcq (by simp) g1) (mem3.cont _ c' .own hd' e5 (by simp) g2) (by
                rcases p2 with ⟨f, t, l, g, g'⟩ | ⟨mk, l, kk, g, g'⟩
                · exact .inl ⟨_, f, t, l, g, g'⟩
                · exact .inr ⟨_, mk, l, kk, g, g'⟩)
              rw [g1, ← this]
              refine b2 _ _ ?_
              show (if q < hl.length then H1 (hl.getD q 0) else none) = _
              rw [if_pos (by omega)]
              exact g2
          split at hr
          · rename_i v ocs ho
            split at hr
            · rename_i hny1
              simp only [Bool.and_eq_true] at hny1
              refine go _ _ ho v hny1.1 hny1.2 (fun K' H' hx => ?_) hr
              obtain ⟨x, xs', rfl, h1, h2⟩ := hx.inv
              have : xs' = [] := RepL.nil_iff.1 h2
              subst this
              simpa using h1
            · exact hr.elim
          · rename_i os ocs hne ho
            split at hr
            · rename_i hny1
              simp only [Bool.and_eq_true] at hny1
              refine go _ _ ho (.tup os) (by simpa [AVal.noY] using hny1.1) hny1.2 (fun K' H' hx => ?_) hr
              have hl : xs.length ≠ 1 := by
                intro e
                have := RepL.length hx
                rw [e] at this
                match os, hne with
                | [v], hne => exact hne v rfl
                | [], _ => simp at this
                | _ :: _ :: _, _ => simp at this
              rw [dif_neg hl]
              simp only [Rep]
              exact ⟨xs.toArray, rfl, hx⟩
            · exact hr.elim
          · exact hr.elim
        · exact hr.elim
      intro e st' a' w' hk hn' ht
      cases e with
      | normal => exact fin st' a' w' hk ht
      | ret => exact fin st' a' w' hk ht
      | exit id => exact hk.elim
    · exact h.elim
  · exact h.elim

end Go.Abs
end

section
/- Contracts of functions, by shapes of their arguments; loops by a measure; recursion. -/
namespace Go.Abs

theorem Loop.intro {σ : Type} {B : (σ → Prop) → σ → Prop} (Inv : σ → Prop) (μ : σ → Nat) (h : ∀ x (K : σ → Prop), Inv x → (∀ y, Inv y → μ y < μ x → K y) → B K x) {s : σ} (hs : Inv s) : Loop B s := by
  have key : ∀ n x, μ x < n → Inv x → iter B n x := by
    intro n
    induction n with
    | zero => intro x hx _; omega
    | succ n ih => intro x hx hi; exact h x _ hi (fun y hy hlt => ih y (by omega) hy)
  exact ⟨μ s + 1, key _ s (Nat.lt_succ_self _) hs⟩

theorem good_nil {P : Program} : Good P (envOf []) := ⟨fun f c h => (by cases h), fun f c h => (by cases h)⟩

theorem good_cons {P : Program} {l : List (FuncId × Contract)} {f : FuncId} {fn : Func} {c : Code} {ct : Contract} (hG : Good P (envOf l)) (hf : P.funcs[f]? = some fn) (hb : fn.body = some c) (hn : (fn.name == "runtime.NumGoroutine") = false)
    (hs : ∀ as cs k, ct.run as cs k → ASpec P f as cs k) : Good P (envOf ((f, ct) :: l)) := by
  refine ⟨fun g c' h => ?_, fun g c' h => ?_⟩
  · unfold envOf at h
    split at h
    · rename_i e; subst e; cases h; exact hs
    · exact hG.spec g c' h
  · unfold envOf at h
    split at h
    · rename_i e; subst e; exact callFunc_run hf hb hn
    · exact hG.call g c' h

theorem upTo_get : ∀ (n i q : Nat), (upTo i n)[q]? = if q < n then some (i + q) else none
  | 0, i, q => by simp [upTo]
  | n + 1, i, q => by
    cases q with
    | zero => simp [upTo]
    | succ q =>
      simp only [upTo, List.getElem?_cons_succ, upTo_get n (i + 1) q]
      by_cases h : q < n
      · rw [if_pos h, if_pos (by omega)]; congr 1; omega
      · rw [if_neg h, if_neg (by omega)]

theorem aspec_ren {P : Program} {f : FuncId} {as : List AVal} {cs : List Cont} {k : AVal → List Cont → Prop} (h : ASpec P f (renL (upTo 0 cs.length) as) cs k) : ASpec P f as cs k := by
  intro F K H w vs hok hargs hm hfr
  have e : renH (upTo 0 cs.length) H = H := by
    funext r
    simp only [renH, upTo_get]
    by_cases hr : r < cs.length
    · rw [if_pos hr]; simp
    · rw [if_neg hr]; exact (hfr r (by omega)).symm
  have := rep_renL (l := upTo 0 cs.length) _ _ hargs
  rw [e] at this
  exact h F K H w vs hok this hm hfr

/-- At arguments of this shape the function does so. -/
def Var.Kept (v : Var) (P : Program) (f : FuncId) : Prop :=
  ∀ x : v.D, v.pre x → ∀ k : AVal → List Cont → Prop, (v.res x).run k → ASpec P f (v.args x) (v.conts x) k

theorem decC_enc : ∀ (l : List CS) (vs : List Cont) (R : Type) (r : R) (x : denC l R), decC l vs R r = some x → encC l R x = (vs, r)
  | [], vs, R, r, x, h => by
    cases vs with
    | nil => simp only [decC] at h; cases h; rfl
    | cons c vs => simp [decC] at h
  | c :: l, vs, R, r, x, h => by
    cases vs with
    | nil => simp [decC] at h
    | cons y ys =>
      simp only [decC] at h
      split at h
      · rename_i z hz
        have e1 := CS.dec_enc c y (denC l R) z x h
        have e2 := decC_enc l ys R r z hz
        simp only [encC, e1, e2]
      · cases h

theorem Var.dec_enc {v : Var} {as : List AVal} {cs : List Cont} {x : v.D} (h : v.dec as cs = some x) : v.args x = as ∧ v.conts x = cs := by
  unfold Var.dec at h
  split at h
  · rename_i y hy
    have e1 := VS.dec_enc v.S as (denC v.C Unit) y x h
    have e2 := decC_enc v.C cs Unit () y hy
    unfold Var.args Var.conts
    rw [e1]
    exact ⟨rfl, by rw [e2]⟩
  · cases h

theorem spec_vars {P : Program} {f : FuncId} : ∀ (vs : List Var), (∀ v ∈ vs, v.Kept P f) → ∀ as cs k, (mkC vs).run as cs k → ASpec P f as cs k := by
  intro vs hv as cs k h
  obtain ⟨h1, h2⟩ := h
  simp only [mkC] at h1 h2
  refine aspec_ren ?_
  generalize renL (upTo 0 cs.length) as = bs at h1 h2
  induction vs with
  | nil => exact h1.elim
  | cons v vs ih =>
    unfold preVars at h1
    unfold resVars at h2
    cases hd : v.dec bs cs with
    | some x =>
      rw [hd] at h1 h2
      obtain ⟨e1, e2⟩ := Var.dec_enc hd
      have := hv v (by simp) x h1 k h2
      rw [e1, e2] at this
      exact this
    | none =>
      rw [hd] at h1 h2
      exact ih (fun v hm => hv v (List.mem_cons_of_mem _ hm)) h1 h2

/-- A loop that counts up, with an exit before its end here or there. -/
theorem Loop.upto {σ : Type} {B : (σ → Prop) → σ → Prop} (st : Nat → σ) (p : Nat → Prop) (n : Nat) {s : σ} (hs : st 0 = s) (h0 : p 0) (h : ∀ i (K : σ → Prop), i < n → p i → (p (i + 1) → K (st (i + 1))) → B K (st i)) (hend : ∀ K : σ → Prop, p n → B K (st n)) : Loop B s := by
  have key : ∀ j i, i + j = n → p i → iter B (j + 1) (st i) := by
    intro j
    induction j with
    | zero =>
      intro i hi hp
      have e : i = n := by omega
      subst e
      exact hend _ hp
    | succ j ih => intro i hi hp; exact h i _ (by omega) hp (fun hp' => ih (i + 1) (by omega) hp')
  exact ⟨n + 1, hs ▸ key n 0 (by omega) h0⟩

theorem br_decide (c : Prop) [Decidable c] (p q : Prop) : br (decide c) p q ↔ (c → p) ∧ (¬ c → q) := by
  by_cases h : c <;> simp [br, h]

theorem br_false (c : Prop) [Decidable c] (p q : Prop) : br (decide c == false) p q ↔ (¬ c → p) ∧ (c → q) := by
  by_cases h : c <;> simp [br, h]
theorem br_true (c : Prop) [Decidable c] (p q : Prop) : br (decide c == true) p q ↔ (c → p) ∧ (¬ c → q) := by
  by_cases h : c <;> simp [br, h]
theorem br_bne (a b : Int) (p q : Prop) : br (a != b) p q ↔ (a ≠ b → p) ∧ (a = b → q) := by
  by_cases h : a = b
  · simp [br, h]
  · have e : (a != b) = true := by simp [h]
    simp [br, e, h]
theorem br_beq (a b : Int) (p q : Prop) : br (a == b) p q ↔ (a = b → p) ∧ (a ≠ b → q) := by
  by_cases h : a = b
  · simp [br, h]
  · have e : (a == b) = false := by simp [h]
    simp [br, e, h]
theorem br_not (b : Bool) (p q : Prop) : br (Bool.not b) p q ↔ (b = false → p) ∧ (b = true → q) := by
  cases b <;> simp [br]
theorem br_bf (b : Bool) (p q : Prop) : br (b == false) p q ↔ (b = false → p) ∧ (b = true → q) := by
  cases b <;> simp [br]
theorem br_bt (b : Bool) (p q : Prop) : br (b == true) p q ↔ (b = true → p) ∧ (b = false → q) := by
  cases b <;> simp [br]

/-! ### numbers that need no wrapping -/

theorem fits64 {n : Int} (h1 : -9223372036854775808 ≤ n) (h2 : n ≤ 9223372036854775807) : fitsK .i64 n := by
  unfold fitsK; rw [IntKind.wrap_i64]; omega
end Go.Abs
end

