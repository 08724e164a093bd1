/- Part 2 of the road to this seat's statements: lemmas about a small interpreter over the model's code, and about the functions that it is used on. No condition of its own. -/
import Derived.Laws.Append
import Derived.Laws.MakeOwn
import Derived.Laws.Tables
import Derived.MapKept
import Derived.WideKeyRuns
import Derived.RangeFuncRecord
import Derived.Deep.Quiet
import Derived.Below
import Derived.Test.YtondgnghncpbeaaW1

section
/- The operations that read: lengths, loads, elements, slices of slices. -/
namespace Go.Abs
section
variable {P : Program} {F : Nat → Prop} {K : Know} {H : Nat → Option Hd} {w : World} {m : Mm} {nx : Nat} {k : Q → Prop} {ev : Operand → AVal} {ρ : Operand → Value}

/-- A builtin's run. -/
theorem call_builtin (o : Oper) {c : Call} {b : Builtin} (ho : o.op = .call c) (hc : c.callee = .builtin b) (w : World) :
    (execOp ρ o).run P w = (builtin b c.argTypes o.type (c.args.map fun | .const _ => true | _ => false) (c.args.map ρ)).run P w := by
  simp only [execOp, ho, resolve, hc, Sem.run_bind, Sem.run_pure, Result.andThen_ok, invoke]
  rfl

/-- Where a slice's elements lie. -/
theorem sl_base {hd : Hd} {ty : Ty} {l : List ty.den} {cont : ContRel K H w hd (.sl ty l)} {i : Nat} (hi : i < l.length) : ∃ b cs e fz, hd.base = some b ∧ w.heap[b]? = some (.cells cs e fz) ∧ hd.cap * ty.size ≤ cs.size ∧ Elems K ty l cs 0 := by
  obtain ⟨h1, h2, h3, h4⟩ := cont
  rcases h4 with ⟨_, h4⟩ | h4
  · omega
  · exact h4

theorem cells_drop_slab {ty : Ty} {l : List ty.den} {cs : Array Value} (he : Elems K ty l cs 0) {i : Nat} (hi : i < l.length) (j : Nat) :
    RepL K H ((ty.cells l[i]).drop j) (slab cs (i * ty.size + j) ((ty.cells l[i]).drop j).length) := by
  have h := repL_cells (H := H) ty _ _ (he i hi)
  have h2 := RepL.drop j h
  have : (slab cs (0 + i * ty.size) ty.size).drop j = slab cs (i * ty.size + j) ((ty.cells l[i]).drop j).length := by
    unfold slab
    rw [List.drop_take, List.drop_drop, List.length_drop, Ty.cells_length, Nat.zero_add]
  rw [this] at h2
  exact h2

variable (hok : WOk F K w) (hm : MRel F K H w m) (hev : ∀ x, Rep K H (ev x) (ρ x))
include hok hm hev

omit hev in
theorem gives_readV {r : Nat} {v : AVal} {z : Value} (hr : Rep K H v z) (h : readV m r v k) : Gives P F K H w m nx k (.ok (.value z) w) := by
  unfold readV at h
  split at h
  · split at h
    · split at h
      · rename_i v' rs hv
        have hrs := (view_reads m 6).1 _ _ _ hv
        obtain ⟨hmF, _⟩ := hm.freeze hok.knows rs hrs
        obtain ⟨hokF, hfix⟩ := hok.frozen hm rs hrs
        have hB : ∀ r f hd b cs e fz, (r, f) ∈ rs → H r = some hd → hd.base = some b → w.heap[b]? = some (.cells cs e fz) → (K.plus w (bases H rs)).cells b = some cs :=
          fun r f hd b cs e fz h1 h2 h3 h4 => plus_new (bases_mem h1 h2 h3) hok.knows h4
        have hx := (view_rep hm (K.le_plus w (bases H rs)) H (.refl H) 6).1 _ _ _ _ hv hB hr
        have hA := after_same (nx := nx) hokF hmF (r :: nums rs) hx
        exact ⟨_, _, H, h, ⟨(K.le_plus w (bases H rs)).trans hA.le, hA.hle, hA.hnew, hA.rep, hA.mem, hA.ok, hA.kept, hfix.trans hA.fix⟩⟩
      · exact absurd h id
    · exact gives_read hok hm r hr h
  · exact gives_read hok hm r hr h

theorem q_load (o : Oper) {t : TypeId} {x : Operand} (ho : o.op = .load t x) (h : loadA P m t (ev x) k) : Gives P F K H w m nx k ((execOp ρ o).run P w) := by
  have hx := hev x
  unfold loadA at h
  split at h
  · rename_i r off he
    rw [he] at hx
    simp only [Rep] at hx
    obtain ⟨hd, b, h1, h2, e⟩ := hx
    split at h
    · rename_i cells f hmr
      split at h
      · exact absurd h id
      · rename_i hfd
        split at h
        · rename_i v hv
          obtain ⟨b', cs, e', fz, g1, g2, g3⟩ := hm.cont r _ f hd hmr hfd h1
          rw [h2] at g1; cases g1
          have g4 := RepL.drop off g3
          have hsz : (cells.drop off).length = cs.size - off := by
            have := RepL.length g3
            simp at this ⊢; omega
          obtain ⟨z, h3, h4⟩ := ld_run (P := P) g2 (off := off) (by rw [hsz, slab_all]; exact g4) hv
          simp only [execOp, ho, e, Instr.loadAt, Instr.sureAddr]
          rw [q_value (x := z) (w' := w) (by simpa using h3)]
          exact gives_readV hok hm h4 h
        · exact absurd h id
    · exact absurd h id
  · rename_i cells he
    rw [he] at hx
    simp only [Rep] at hx
    obtain ⟨b, off, arr, e, h2, h3⟩ := hx
    split at h
    · rename_i v hv
      obtain ⟨e', fz, g⟩ := hok.knows.1 b arr h2
      obtain ⟨z, h4, h5⟩ := ld_run (P := P) g h3 hv
      simp only [execOp, ho, e, Instr.loadAt, Instr.sureAddr]
      rw [q_value (x := z) (w' := w) (by simpa using h4)]
      exact gives_pure hok hm h5 h
    · exact absurd h id
  · rename_i r i j he
    rw [he] at hx
    simp only [Rep] at hx
    obtain ⟨hd, b, h1, h2, e⟩ := hx
    split at h
    · rename_i ty l f hmr
      split at h
      · exact absurd h id
      · rename_i hfd
        obtain ⟨hi, h⟩ := h
        split at h
        · rename_i v hv
          have hc := hm.cont r _ f hd hmr hfd h1
          obtain ⟨b', cs, e', fz, g1, g2, g3, g4⟩ := sl_base (cont := hc) hi
          rw [h2] at g1; cases g1
          have hsz : hd.sz = ty.size := hc.1
          obtain ⟨z, h3, h4⟩ := ld_run (P := P) g2 (cells_drop_slab (H := H) g4 hi j) hv
          simp only [execOp, ho, e, Instr.loadAt, Instr.sureAddr]
          rw [q_value (x := z) (w' := w) (by rw [hsz]; simpa using h3)]
          exact gives_read hok hm r h4 h
        · exact absurd h id
    · exact absurd h id
  · rename_i r he
    rw [he] at hx
    simp only [Rep] at hx
    obtain ⟨hd, b, h1, h2, _, e⟩ := hx
    split at h
    · rename_i ty l f n et hmr hu
      split at h
      · exact absurd h id
      · rename_i hfd
        obtain ⟨hlen, h⟩ := h
        have hc := hm.cont r _ f hd hmr hfd h1
        obtain ⟨c1, c2, c3, c4⟩ := hc
        have hbase : ∃ cs e' fz, w.heap[b]? = some (.cells cs e' fz) ∧ hd.cap * ty.size ≤ cs.size ∧ Elems K ty l cs 0 := by
          rcases c4 with ⟨c4, _⟩ | ⟨b', cs, e', fz, g1, g2, g3, g4⟩
          · rw [h2] at c4; cases c4
          · rw [h2] at g1; cases g1
            exact ⟨cs, e', fz, g2, g3, g4⟩
        obtain ⟨cs, e', fz, g2, g3, g4⟩ := hbase
        have hle : l.length * ty.size ≤ cs.size := Nat.le_trans (Nat.mul_le_mul_right _ (by omega)) g3
        have hag : aggT P t = true := by simp [aggT, hu]
        have hload := run_loadCells P g2 0 (sizeT P t) 0 #[] (by omega)
        simp only [execOp, ho, e, Instr.loadAt, Instr.sureAddr]
        rw [q_value (x := .agg (slab cs 0 (sizeT P t)).toArray) (w' := w) ?_]
        · refine gives_read hok hm r ?_ h
          simp only [Rep]
          refine ⟨_, rfl, ?_, ?_⟩
          · rw [← hlen]; simp [slab]; omega
          · intro i hi
            have := g4 i hi
            have hs : slab (slab cs 0 (sizeT P t)).toArray (0 + i * ty.size) ty.size = slab cs (0 + i * ty.size) ty.size := by
              have : slab (slab cs 0 (sizeT P t)).toArray (0 + i * ty.size) ty.size = ((slab cs 0 (sizeT P t)).drop (0 + i * ty.size)).take ty.size := by
                unfold slab; simp
              rw [this, slab_slab]
              · simp
              · rw [← hlen]
                have : (i + 1) * ty.size ≤ l.length * ty.size := Nat.mul_le_mul_right _ hi
                rw [Nat.add_mul] at this
                omega
            rw [hs]; exact this
        · simp only [Sem.run_bind, Sem.run_pure, Result.andThen_ok, loadVar, r_isAgg hu, hag, if_true, r_sizeT hu, loadCells, hload]
          simp
    · exact absurd h id
  · exact absurd h id

theorem q_len (o : Oper) {c : Call} {x : Operand} {t e : TypeId} (ho : o.op = .call c) (hc : c.callee = .builtin .len) (ha : c.args.toList = [x]) (ht : c.argTypes.toList = [t])
    (hu : P.underlying t = some (.slice e)) (h : lenA m (ev x) k) : Gives P F K H w m nx k ((execOp ρ o).run P w) := by
  have hx := hev x
  have run : ∀ a n cp, ρ x = .slice a n cp → (execOp ρ o).run P w = .ok (.value (.int .i64 (n : Int))) w := by
    intro a n cp he
    rw [call_builtin o ho hc]
    have h1 : c.args.map ρ = #[ρ x] := by
      apply Array.toList_inj.1
      simp [ha]
    have h2 : c.argTypes = #[t] := by
      apply Array.toList_inj.1
      simp [ht]
    rw [h1, h2]
    simp only [builtin]
    refine q_value ?_
    simp only [Builtin.len_, he]
    simp [r_under hu, goInt]
  unfold lenA at h
  split at h
  · rename_i he
    rw [he] at hx; simp only [Rep] at hx
    rw [run _ _ _ hx]
    exact gives_pure hok hm (by simp [Rep]) h
  · rename_i t' he
    rw [he] at hx; simp only [Rep] at hx
    rw [run _ _ _ hx]
    exact gives_pure hok hm (by simp [Rep]) h
  · rename_i t' l f he
    rw [he] at hx; simp only [Rep] at hx
    obtain ⟨base, cap, hx, _⟩ := hx
    rw [run _ _ _ hx]
    exact gives_pure hok hm (by simp [Rep]) h
  · rename_i r f he
    rw [he] at hx; simp only [Rep] at hx
    obtain ⟨hd, h1, hx, _⟩ := hx
    split at h
    · rename_i ty l g hmr
      split at h
      · exact absurd h id
      · rename_i hgd
        have hc' := hm.cont r _ g hd hmr hgd h1
        rw [run _ _ _ hx, hc'.2.1]
        exact gives_read hok hm r (by simp [Rep]) h
    · exact absurd h id
  · rename_i r lo len f he
    rw [he] at hx; simp only [Rep] at hx
    obtain ⟨hd, cap, base, h1, hx, _⟩ := hx
    rw [run _ _ _ hx]
    exact gives_pure hok hm (by simp [Rep]) h
  · exact absurd h id

omit hok hm hev in
theorem foldMax_run : ∀ (l : List AVal) (xs : List Value) (kd : IntKind) (a b : Int), RepL K H l xs → foldInt (fun x y => if y > x then y else x) kd a l = some b →
    (xs.foldlM Builtin.max2 (.int kd a)).run P w = .ok (.int kd b) w
  | [], xs, kd, a, b, h, hf => by
    rw [RepL.nil_iff.1 h]
    simp only [foldInt, Option.some.injEq] at hf
    simp [hf]
  | v :: l, xs, kd, a, b, h, hf => by
    obtain ⟨x, xs', rfl, h1, h2⟩ := h.inv
    cases v <;> simp only [foldInt] at hf <;> (try cases hf)
    rename_i k' n
    split at hf
    · rename_i hk
      subst hk
      have := rep_int h1
      subst this
      simp only [List.foldlM_cons, Sem.run_bind, Builtin.max2, Sem.run_pure, Result.andThen_ok]
      exact foldMax_run l xs' kd _ b h2 hf
    · cases hf

omit hok hm hev in
theorem foldMin_run : ∀ (l : List AVal) (xs : List Value) (kd : IntKind) (a b : Int), RepL K H l xs → foldInt (fun x y => if y < x then y else x) kd a l = some b →
    (xs.foldlM Builtin.min2 (.int kd a)).run P w = .ok (.int kd b) w
  | [], xs, kd, a, b, h, hf => by
    rw [RepL.nil_iff.1 h]
    simp only [foldInt, Option.some.injEq] at hf
    simp [hf]
  | v :: l, xs, kd, a, b, h, hf => by
    obtain ⟨x, xs', rfl, h1, h2⟩ := h.inv
    cases v <;> simp only [foldInt] at hf <;> (try cases hf)
    rename_i k' n
    split at hf
    · rename_i hk
      subst hk
      have := rep_int h1
      subst this
      simp only [List.foldlM_cons, Sem.run_bind, Builtin.min2, Sem.run_pure, Result.andThen_ok]
      exact foldMin_run l xs' kd _ b h2 hf
    · cases hf

theorem q_max (o : Oper) {c : Call} (ho : o.op = .call c) (hc : c.callee = .builtin .max) (h : match c.args.toList.map ev with
      | .int kd a :: r => (match foldInt (fun x y => if y > x then y else x) kd a r with
        | some b => k (.pure (.int kd b))
        | none => False)
      | _ => False) : Gives P F K H w m nx k ((execOp ρ o).run P w) := by
  have hl := repL_map hev c.args.toList
  split at h
  · rename_i kd a r heq
    rw [heq] at hl
    obtain ⟨x, xs, h1, h2, h3⟩ := hl.inv
    have := rep_int h2
    subst this
    split at h
    · rename_i b hb
      rw [call_builtin o ho hc]
      simp only [builtin]
      rw [q_value (x := .int kd b) (w' := w) ?_]
      · exact gives_pure hok hm (by simp [Rep]) h
      · simp only [Builtin.max_, Array.toList_map, h1]
        exact foldMax_run r xs kd a b h3 hb
    · exact absurd h id
  · exact absurd h id

theorem q_min (o : Oper) {c : Call} (ho : o.op = .call c) (hc : c.callee = .builtin .min) (h : match c.args.toList.map ev with
      | .int kd a :: r => (match foldInt (fun x y => if y < x then y else x) kd a r with
        | some b => k (.pure (.int kd b))
        | none => False)
      | _ => False) : Gives P F K H w m nx k ((execOp ρ o).run P w) := by
  have hl := repL_map hev c.args.toList
  split at h
  · rename_i kd a r heq
    rw [heq] at hl
    obtain ⟨x, xs, h1, h2, h3⟩ := hl.inv
    have := rep_int h2
    subst this
    split at h
    · rename_i b hb
      rw [call_builtin o ho hc]
      simp only [builtin]
      rw [q_value (x := .int kd b) (w' := w) ?_]
      · exact gives_pure hok hm (by simp [Rep]) h
      · simp only [Builtin.min_, Array.toList_map, h1]
        exact foldMin_run r xs kd a b h3 hb
    · exact absurd h id
  · exact absurd h id

omit hok hm hev in
theorem indexAt_run {t e : TypeId} {a : Int} {ki : IntKind} {b off len cap : Nat} (hu : P.underlying t = some (.slice e)) (hs : sizeT P e ≠ 0) (h0 : 0 ≤ a) (h1 : a.toNat < len) :
    (Instr.indexAt t (.slice (some ⟨b, off, none⟩) len cap) (.int ki a)).run P w = .ok (.pointer (some ⟨b, off + a.toNat * sizeT P e, none⟩)) w := by
  obtain ⟨i, hi, his⟩ := sizeT_info hs
  have ha : a < (len : Int) := by omega
  simp only [Instr.indexAt, Sem.run_bind, asIntOf, Sem.run_pure, Result.andThen_ok, r_under hu]
  simp [h0, ha, r_size hi, his, add_none]

theorem q_indexAddr (o : Oper) {t : TypeId} {x y : Operand} (ho : o.op = .indexAddr t x y) (h : indexAddrA P m t (ev x) (ev y) k) : Gives P F K H w m nx k ((execOp ρ o).run P w) := by
  have hx := hev x
  have hy := hev y
  unfold indexAddrA at h
  split at h
  · rename_i ki a hei
    rw [hei] at hy
    have hy := rep_int hy
    split at h
    · rename_i e hu
      split at h
      · rename_i ty l f he
        rw [he] at hx; simp only [Rep] at hx
        split at h
        · rename_i hsz
          obtain ⟨⟨h0, h1⟩, h⟩ := h
          obtain ⟨base, cap, e1, e2, _, e3⟩ := hx
          rcases e3 with e3 | ⟨b, off, arr, e3, e4, e5⟩
          · rw [e3] at h1; simp at h1
          · have hrun := indexAt_run (P := P) (w := w) (ki := ki) (b := b) (off := off) (cap := cap) hu (by rw [hsz]; have := ty.size_pos; omega) h0 h1
            simp only [execOp, ho, e1, e3, hy]
            rw [q_value hrun]
            refine gives_pure hok hm ?_ h
            simp only [Rep]
            refine ⟨b, off + a.toNat * sizeT P e, arr, rfl, e4, ?_⟩
            have := e5 a.toNat h1
            rw [Ty.cells_length, hsz]
            exact repL_cells ty _ _ this
        · exact absurd h id
      · rename_i r f he
        rw [he] at hx; simp only [Rep] at hx
        obtain ⟨hd, h2, e1, _⟩ := hx
        split at h
        · rename_i ty l g hmr
          split at h
          · rename_i hg
            obtain ⟨hsz, hgd⟩ := hg
            obtain ⟨⟨h0, h1⟩, h⟩ := h
            have hc := hm.cont r _ g hd hmr hgd h2
            obtain ⟨b, cs, e', fz, g1, g2, g3, g4⟩ := sl_base (cont := hc) h1
            have hrun := indexAt_run (P := P) (w := w) (ki := ki) (b := b) (off := 0) (len := hd.len) (cap := hd.cap) hu (by rw [hsz]; have := ty.size_pos; omega) h0 (by rw [hc.2.1]; exact h1)
            simp only [execOp, ho, e1, g1, hy, Option.map_some]
            rw [q_value hrun]
            refine gives_read hok hm r ?_ h
            simp only [Rep]
            exact ⟨hd, b, h2, g1, by rw [hc.1, hsz]; simp⟩
          · exact absurd h id
        · exact absurd h id
      · rename_i r lo len f he
        rw [he] at hx; simp only [Rep] at hx
        obtain ⟨hd, cap, base, h2, e1, e2, e3, e4, _, e6⟩ := hx
        split at h
        · rename_i ty l g hmr
          split at h
          · rename_i hg
            obtain ⟨hsz, hgd⟩ := hg
            obtain ⟨⟨h0, h1⟩, h⟩ := h
            have hc := hm.cont r _ g hd hmr hgd h2
            rcases e6 with e6 | ⟨b, e6, e7⟩
            · omega
            · have hrun := indexAt_run (P := P) (w := w) (ki := ki) (b := b) (off := lo * hd.sz) (len := len) (cap := cap) hu (by rw [hsz]; have := ty.size_pos; omega) h0 h1
              simp only [execOp, ho, e1, e7, hy]
              rw [q_value hrun]
              refine gives_read hok hm r ?_ h
              simp only [Rep]
              exact ⟨hd, b, h2, e6, by rw [hc.1, hsz, Nat.add_mul]; simp⟩
          · exact absurd h id
        · exact absurd h id
      · exact absurd h id
    · rename_i n e hu
      split at h
      · rename_i r he
        rw [he] at hx; simp only [Rep] at hx
        obtain ⟨hd, b, h2, e1, _, e2⟩ := hx
        split at h
        · rename_i ty l g hmr
          split at h
          · rename_i hg
            obtain ⟨hsz, hgd⟩ := hg
            obtain ⟨⟨h0, h1⟩, h⟩ := h
            have hc := hm.cont r _ g hd hmr hgd h2
            have hnz : sizeT P e ≠ 0 := by rw [hsz]; have := ty.size_pos; omega
            obtain ⟨i, hi, his⟩ := sizeT_info hnz
            have ha : a < (n : Int) := by omega
            simp only [execOp, ho, e2, hy]
            rw [q_value (x := .pointer (some ⟨b, a.toNat * sizeT P e, none⟩)) (w' := w) ?_]
            · refine gives_read hok hm r ?_ h
              simp only [Rep]
              exact ⟨hd, b, h2, e1, by rw [hc.1, hsz]; simp⟩
            · simp only [Instr.indexAt, Sem.run_bind, asIntOf, Sem.run_pure, Result.andThen_ok, r_under hu, Instr.sureAddr]
              simp [h0, ha, r_size hi, his, add_none]
          · exact absurd h id
        · exact absurd h id
      · exact absurd h id
    · exact absurd h id
  · exact absurd h id

theorem q_index (o : Oper) {t : TypeId} {x y : Operand} (ho : o.op = .index t x y) (h : match P.underlying t, ev x, ev y with
    | some (.array n e), .arrv ty l, .int _ a => if sizeT P e = ty.size then ∃ h : 0 ≤ a ∧ a.toNat < l.length, a.toNat < n ∧ l.length = n ∧ (match ldA P e (ty.cells (l[a.toNat]'h.2)) with
      | some v => k (.pure v)
      | none => False) else False
    | _, _, _ => False) : Gives P F K H w m nx k ((execOp ρ o).run P w) := by
  have hx := hev x
  have hy := hev y
  split at h
  · rename_i n e ty l ki a hu he hei
    rw [hei] at hy
    have hy := rep_int hy
    rw [he] at hx; simp only [Rep] at hx
    obtain ⟨cs, e1, e2, e3⟩ := hx
    split at h
    · rename_i hsz
      obtain ⟨⟨h0, h1⟩, h2, h3, h⟩ := h
      split at h
      · rename_i v hv
        have hnz : sizeT P e ≠ 0 := by rw [hsz]; have := ty.size_pos; omega
        obtain ⟨i, hi, his⟩ := sizeT_info hnz
        have ha : a < (n : Int) := by omega
        have hel := repL_cells (H := H) ty _ _ (e3 a.toNat h1)
        have hcells : RepL K H (List.replicate (a.toNat * ty.size) AVal.unk ++ ty.cells l[a.toNat] ++ List.replicate (cs.size - (a.toNat * ty.size + ty.size)) AVal.unk) cs.toList := by
          have unks : ∀ (n : Nat) (xs : List Value), xs.length = n → RepL K H (List.replicate n AVal.unk) xs := by
            intro n
            induction n with
            | zero => intro xs hx; rw [List.eq_nil_of_length_eq_zero hx]; exact .nil
            | succ n ih =>
              intro xs hx
              cases xs with
              | nil => simp at hx
              | cons x xs => exact .cons (by simp [Rep]) (ih xs (by simpa using hx))
          have hb : a.toNat * ty.size + ty.size ≤ cs.size := by
            rw [e2]
            have : (a.toNat + 1) * ty.size ≤ l.length * ty.size := Nat.mul_le_mul_right _ h1
            rw [Nat.add_mul] at this
            omega
          have hsp : cs.toList = cs.toList.take (a.toNat * ty.size) ++ slab cs (0 + a.toNat * ty.size) ty.size ++ cs.toList.drop (a.toNat * ty.size + ty.size) := by
            unfold slab
            rw [Nat.zero_add, ← List.drop_drop, List.append_assoc, List.take_append_drop, List.take_append_drop]
          rw [hsp]
          exact RepL.append (RepL.append (unks _ _ (by simp; omega)) hel) (unks _ _ (by simp))
        have hld : ∃ z, (part e cs (a.toNat * ty.size)).run P w = .ok z w ∧ Rep K H v z := by
          cases hue : P.underlying e with
          | none => simp [ldA, hue] at hv
          | some de =>
            have key : (cells : List AVal) → ldA P e (ty.cells l[a.toNat]) = some v → ldA P e (ty.cells l[a.toNat] ++ cells) = some v := by
              intro cells hv
              have hle : sizeT P e ≤ (ty.cells l[a.toNat]).length := by rw [Ty.cells_length, hsz]; exact Nat.le_refl _
              have htk : (ty.cells l[a.toNat] ++ cells).take (sizeT P e) = (ty.cells l[a.toNat]).take (sizeT P e) := by
                rw [List.take_append_of_le_length hle]
              have hne : ty.cells l[a.toNat] ≠ [] := by
                intro e0
                have := Ty.cells_length ty l[a.toNat]
                rw [e0] at this
                have := ty.size_pos
                simp at *; omega
              unfold ldA at hv ⊢
              rw [hue] at hv ⊢
              cases de <;> simp only at hv ⊢ <;> first
                | (rw [htk]
                   split at hv
                   · rename_i hc
                     rw [if_pos ?_]
                     · exact hv
                     · simp only [Bool.and_eq_true, decide_eq_true_eq, List.length_append] at hc ⊢
                       exact ⟨hc.1, by omega⟩
                   · cases hv)
                | (cases hcl : ty.cells l[a.toNat] with
                   | nil => exact absurd hcl hne
                   | cons c0 cr =>
                     rw [hcl] at hv
                     simpa using hv)
            refine part_run (cells := List.replicate (a.toNat * ty.size) AVal.unk ++ ty.cells l[a.toNat] ++ List.replicate (cs.size - (a.toNat * ty.size + ty.size)) AVal.unk) hcells ?_
            rw [List.append_assoc, List.drop_left' (by simp)]
            exact key _ hv
        obtain ⟨z, hz1, hz2⟩ := hld
        simp only [execOp, ho, e1, hy]
        rw [q_value (x := z) (w' := w) ?_]
        · exact gives_pure hok hm hz2 h
        · simp only [Instr.index, Sem.run_bind, asIntOf, Sem.run_pure, Result.andThen_ok, r_under hu]
          simp only [Sem.run_ite]
          rw [if_pos ⟨h0, ha⟩]
          simp only [Sem.run_bind, r_size hi, Result.andThen_ok, his, hsz]
          exact hz1
      · exact absurd h id
    · exact absurd h id
  · exact absurd h id
end
end Go.Abs
end

section
/- The operations that make memory: slices of slices, variables, boxes, rows, append. -/
namespace Go.Abs
section
variable {P : Program} {F : Nat → Prop} {K : Know} {H : Nat → Option Hd} {w : World} {m : Mm} {nx : Nat} {k : Q → Prop} {ev : Operand → AVal} {ρ : Operand → Value}

/-! ### slices of slices -/

theorem sliceBound_run {a : Int} {n : Nat} {ki : IntKind} {c : BoundsCode} (h0 : 0 ≤ a) (h1 : a ≤ (n : Int)) : (Instr.sliceBound (.int ki a) n c).run P w = .ok a.toNat w := by
  simp [Instr.sliceBound, asIntOf, h0, h1]

theorem slice_run {t e : TypeId} (hu : P.underlying t = some (.slice e)) {i : TypeInfo} (hi : P.info? e = some i) (base : Option Addr) (len cap : Nat) (lo hi' mx : Option Value) (l h mm : Nat)
    (hb : (Instr.sliceBounds true len cap lo hi' mx).run P w = .ok (l, h, mm) w) :
    (Instr.sliceAt t (.slice base len cap) lo hi' mx).run P w = .ok (.slice (if mm = l then base else base.map (·.add (l * i.size))) (h - l) (mm - l)) w := by
  simp only [Instr.sliceAt, Sem.run_bind, r_under hu, Result.andThen_ok, Instr.slice, hb, r_size hi]
  rfl

/-- A sub-slice of an immutable one. -/
theorem imm_slice {ty : Ty} {l : List ty.den} {f : Bool} {base : Option Addr} {cap lo hi mm : Nat} (hr : SliceRep K ty l f (.slice base l.length cap)) (h1 : lo ≤ hi) (h2 : hi ≤ l.length) (h3 : hi ≤ mm) (full : Bool) (hf : full = true → mm = hi) :
    SliceRep K ty ((l.drop lo).take (hi - lo)) full (.slice (if mm = lo then base else base.map (·.add (lo * ty.size))) (hi - lo) (mm - lo)) := by
  have hlen : ((l.drop lo).take (hi - lo)).length = hi - lo := by simp; omega
  obtain ⟨base', cap', e1, e2, e3, e4⟩ := hr
  simp only [Value.slice.injEq] at e1
  obtain ⟨rfl, _, rfl⟩ := e1
  refine ⟨_, mm - lo, by rw [hlen], by omega, fun hf' => by rw [hlen, hf hf'], ?_⟩
  by_cases hz : hi - lo = 0
  · exact .inl (List.eq_nil_of_length_eq_zero (by omega))
  · rcases e4 with e4 | ⟨b, off, arr, e4, e5, e6⟩
    · rw [e4] at h2; simp at h2; omega
    · right
      refine ⟨b, off + lo * ty.size, arr, ?_, e5, ?_⟩
      · rw [if_neg (by omega), e4]; simp [add_none]
      · intro i hi'
        rw [List.getElem_take, List.getElem_drop]
        have := e6 (lo + i) (by omega)
        rw [Nat.add_mul, ← Nat.add_assoc] at this
        exact this

/-- A sub-slice of a region. -/
theorem reg_slice {r : Nat} {f : Bool} {hd : Hd} (hh : H r = some hd) {base : Option Addr} (hb : base = hd.base.map fun b => ⟨b, 0, none⟩) (hcap : hd.base = none → hd.cap = 0) {lo hi mm : Nat} (h1 : lo ≤ hi) (h2 : hi ≤ hd.len) (h3 : hi ≤ mm) (h4 : mm ≤ hd.cap) (hf : f = true → mm = hi) :
    Rep K H (.sub r lo (hi - lo) f) (.slice (if mm = lo then base else base.map (·.add (lo * hd.sz))) (hi - lo) (mm - lo)) := by
  simp only [Rep]
  refine ⟨hd, mm - lo, _, hh, rfl, by omega, by omega, by omega, fun h => by rw [hf h], ?_⟩
  by_cases hz : mm = lo
  · left; omega
  · right
    rw [if_neg hz]
    cases hbb : hd.base with
    | none => have := hcap hbb; omega
    | some b => exact ⟨b, rfl, by rw [hb, hbb]; simp [add_none]⟩

theorem cont_cap {hd : Hd} {ty : Ty} {l : List ty.den} (h : ContRel K H w hd (.sl ty l)) : hd.base = none → hd.cap = 0 := by
  intro hb
  obtain ⟨_, _, _, h4⟩ := h
  rcases h4 with h4 | ⟨b, _, _, _, h4, _⟩
  · exact h4.2
  · rw [hb] at h4; cases h4

theorem sizeT_pos_info {e : TypeId} {ty : Ty} (h : sizeT P e = ty.size) : ∃ i, P.info? e = some i ∧ i.size = ty.size := by
  obtain ⟨i, hi, his⟩ := sizeT_info (P := P) (t := e) (by rw [h]; have := ty.size_pos; omega)
  exact ⟨i, hi, by rw [his, h]⟩

variable (hok : WOk F K w) (hm : MRel F K H w m) (hev : ∀ x, Rep K H (ev x) (ρ x))
include hok hm hev

omit hok hm in
theorem opt_int {lo : Option Operand} {kd : IntKind} {a : Int} (h : lo.map ev = some (.int kd a)) : lo.map ρ = some (.int kd a) := by
  cases lo with
  | none => simp at h
  | some x =>
    simp only [Option.map_some, Option.some.injEq] at h ⊢
    exact rep_int (h ▸ hev x)
omit hok hm hev in
theorem opt_none {lo : Option Operand} (h : lo.map ev = none) : lo.map ρ = none := by
  cases lo with
  | none => rfl
  | some x => simp at h

theorem slice_imm (o : Oper) {t e : TypeId} {x : Operand} {lo hi mx : Option Operand} (ho : o.op = .slice t x lo hi mx) (hu : P.underlying t = some (.slice e)) {ty : Ty} (hsz : sizeT P e = ty.size)
    {l : List ty.den} {f : Bool} (he : ev x = .imm ty l f) (a b : Nat) (full : Bool) (hab : a ≤ b) (hb : b ≤ l.length)
    (hbounds : ∀ cap, l.length ≤ cap → (Instr.sliceBounds true l.length cap (lo.map ρ) (hi.map ρ) (mx.map ρ)).run P w = .ok (a, b, if full = true then b else cap) w)
    {l' : List ty.den} (hl' : l' = (l.drop a).take (b - a)) (hk : k (.pure (.imm ty l' full))) : Gives P F K H w m nx k ((execOp ρ o).run P w) := by
  subst hl'
  have hx := hev x
  rw [he] at hx; simp only [Rep] at hx
  obtain ⟨i, hi', his⟩ := sizeT_pos_info hsz
  have hx' := hx
  obtain ⟨base, cap, e1, e2, e3, e4⟩ := hx
  rw [e1] at hx'
  have hrun := slice_run (P := P) (w := w) hu hi' base l.length cap _ _ _ _ _ _ (hbounds cap e2)
  simp only [execOp, ho, e1]
  rw [q_value hrun, his]
  refine gives_pure hok hm ?_ hk
  simp only [Rep]
  refine imm_slice hx' hab hb ?_ full (fun h => by rw [if_pos h])
  split <;> omega

theorem slice_reg (o : Oper) {t e : TypeId} {x : Operand} {lo hi mx : Option Operand} (ho : o.op = .slice t x lo hi mx) (hu : P.underlying t = some (.slice e)) {ty : Ty} (hsz : sizeT P e = ty.size)
    {l : List ty.den} {r : Nat} {f : Bool} {g : Flag} (he : ev x = .reg r f) (hmr : m r = some (.sl ty l, g)) (hg : g ≠ .dead) (a b : Nat) (full : Bool) (hab : a ≤ b) (hb : b ≤ l.length)
    (hbounds : ∀ cap, l.length ≤ cap → (Instr.sliceBounds true l.length cap (lo.map ρ) (hi.map ρ) (mx.map ρ)).run P w = .ok (a, b, if full = true then b else cap) w)
    {n : Nat} (hn : n = b - a) (hk : k (.read (.sub r a n full) r)) : Gives P F K H w m nx k ((execOp ρ o).run P w) := by
  subst hn
  have hx := hev x
  rw [he] at hx; simp only [Rep] at hx
  obtain ⟨hd, h1, e1, _⟩ := hx
  have hc := hm.cont r _ g hd hmr hg h1
  have hlen : hd.len = l.length := hc.2.1
  have hle : hd.len ≤ hd.cap := hc.2.2.1.1
  obtain ⟨i, hi', his⟩ := sizeT_pos_info hsz
  have hrun := slice_run (P := P) (w := w) hu hi' (hd.base.map fun b => ⟨b, 0, none⟩) l.length hd.cap _ _ _ _ _ _ (hbounds hd.cap (by omega))
  simp only [execOp, ho, e1, hlen]
  rw [q_value hrun, his, ← hc.1]
  refine gives_read hok hm r ?_ hk
  refine reg_slice h1 rfl (cont_cap hc) hab (by omega) ?_ ?_ ?_
  · split <;> omega
  · split <;> omega
  · intro h; rw [if_pos h]

theorem q_slice (o : Oper) {t : TypeId} {x : Operand} {lo hi mx : Option Operand} (ho : o.op = .slice t x lo hi mx) (h : sliceA P m t (ev x) (lo.map ev) (hi.map ev) (mx.map ev) k) :
    Gives P F K H w m nx k ((execOp ρ o).run P w) := by
  unfold sliceA at h
  split at h
  · rename_i hlo hhi hmx
    have rlo := opt_none (ρ := ρ) hlo
    have rhi := opt_none (ρ := ρ) hhi
    have rmx := opt_none (ρ := ρ) hmx
    split at h
    · rename_i n e r hu he
      have hx := hev x
      rw [he] at hx; simp only [Rep] at hx
      obtain ⟨hd, b, h1, h2, hcl, e1⟩ := hx
      split at h
      · rename_i ty l g hmr
        split at h
        · exact absurd h id
        · rename_i hg
          have hgd : g ≠ .dead := fun e => hg (.inl e)
          have hsz : sizeT P e = ty.size := by
            rcases Decidable.em (sizeT P e = ty.size) with h' | h'
            · exact h'
            · exact absurd (.inr h') hg
          obtain ⟨hl, h⟩ := h
          have hc := hm.cont r _ g hd hmr hgd h1
          obtain ⟨i, hi', his⟩ := sizeT_pos_info hsz
          simp only [execOp, ho, e1, rlo, rhi, rmx]
          rw [q_value (x := .slice (some ⟨b, 0, none⟩) n n) (w' := w) ?_]
          · refine gives_read hok hm r ?_ h
            simp only [Rep]
            have h3 : hd.len = n := by rw [hc.2.1, hl]
            exact ⟨hd, h1, by rw [h2, hcl, h3]; rfl, fun _ => hcl⟩
          · simp only [Instr.sliceAt, Sem.run_bind, r_under hu, Result.andThen_ok, Instr.sureAddr, Sem.run_pure, Instr.sliceBounds, r_size hi']
            simp [add_none]
      · exact absurd h id
    · exact absurd h id
  · rename_i a hlo hhi hmx
    have rlo := opt_int hev hlo
    have rhi := opt_none (ρ := ρ) hhi
    have rmx := opt_none (ρ := ρ) hmx
    have hb : ∀ (n cap : Nat), 0 ≤ a → a ≤ (n : Int) → (Instr.sliceBounds true n cap (lo.map ρ) (hi.map ρ) (mx.map ρ)).run P w = .ok (a.toNat, n, if false = true then n else cap) w := by
      intro n cap h0 h1
      rw [rlo, rhi, rmx]
      simp [Instr.sliceBounds, sliceBound_run h0 h1]
    split at h
    · rename_i e ty l f hu he
      split at h
      · rename_i hsz
        obtain ⟨⟨h0, h1⟩, h⟩ := h
        exact slice_imm hok hm hev o ho hu hsz he a.toNat l.length false (by omega) (Nat.le_refl _) (fun cap _ => hb _ cap h0 h1) (List.take_of_length_le (by simp)).symm h
      · exact absurd h id
    · rename_i e r f hu he
      split at h
      · rename_i ty l g hmr
        split at h
        · rename_i hsz
          obtain ⟨⟨h0, h1⟩, h⟩ := h
          exact slice_reg hok hm hev o ho hu hsz.1 he hmr hsz.2 a.toNat l.length false (by omega) (Nat.le_refl _) (fun cap _ => hb _ cap h0 h1) rfl h
        · exact absurd h id
      · exact absurd h id
    · exact absurd h id
  · rename_i b hlo hhi hmx
    have rlo := opt_none (ρ := ρ) hlo
    have rhi := opt_int hev hhi
    have rmx := opt_none (ρ := ρ) hmx
    have hb : ∀ (n cap : Nat), n ≤ cap → 0 ≤ b → b ≤ (n : Int) → (Instr.sliceBounds true n cap (lo.map ρ) (hi.map ρ) (mx.map ρ)).run P w = .ok (0, b.toNat, if false = true then b.toNat else cap) w := by
      intro n cap hc h0 h1
      rw [rlo, rhi, rmx]
      simp [Instr.sliceBounds, sliceBound_run (n := cap) h0 (by omega)]
    split at h
    · rename_i e ty l f hu he
      split at h
      · rename_i hsz
        obtain ⟨⟨h0, h1⟩, h⟩ := h
        exact slice_imm hok hm hev o ho hu hsz he 0 b.toNat false (by omega) (by omega) (fun cap hc => hb _ cap hc h0 h1) (by simp) h
      · exact absurd h id
    · rename_i e r f hu he
      split at h
      · rename_i ty l g hmr
        split at h
        · rename_i hsz
          obtain ⟨⟨h0, h1⟩, h⟩ := h
          exact slice_reg hok hm hev o ho hu hsz.1 he hmr hsz.2 0 b.toNat false (by omega) (by omega) (fun cap hc => hb _ cap hc h0 h1) (by simp) h
        · exact absurd h id
      · exact absurd h id
    · exact absurd h id
  · rename_i b c hlo hhi hmx
    have rlo := opt_none (ρ := ρ) hlo
    have rhi := opt_int hev hhi
    have rmx := opt_int hev hmx
    have hb : ∀ (n cap : Nat), n ≤ cap → 0 ≤ b → b ≤ (n : Int) → c = b → (Instr.sliceBounds true n cap (lo.map ρ) (hi.map ρ) (mx.map ρ)).run P w = .ok (0, b.toNat, if true = true then b.toNat else cap) w := by
      intro n cap hc h0 h1 h2
      subst h2
      rw [rlo, rhi, rmx]
      simp only [Instr.sliceBounds, Sem.run_bind, sliceBound_run (n := cap) h0 (by omega), Result.andThen_ok, sliceBound_run (a := c) (n := c.toNat) h0 (by omega)]
      simp
    split at h
    · rename_i e ty l f hu he
      split at h
      · rename_i hsz
        obtain ⟨⟨h0, h1, h2⟩, h⟩ := h
        exact slice_imm hok hm hev o ho hu hsz he 0 b.toNat true (by omega) (by omega) (fun cap hc => hb _ cap hc h0 h1 h2) (by simp) h
      · exact absurd h id
    · rename_i e r f hu he
      split at h
      · rename_i ty l g hmr
        split at h
        · rename_i hsz
          obtain ⟨⟨h0, h1, h2⟩, h⟩ := h
          exact slice_reg hok hm hev o ho hu hsz.1 he hmr hsz.2 0 b.toNat true (by omega) (by omega) (fun cap hc => hb _ cap hc h0 h1 h2) (by simp) h
        · exact absurd h id
      · exact absurd h id
    · exact absurd h id
  · rename_i a b hlo hhi hmx
    have rlo := opt_int hev hlo
    have rhi := opt_int hev hhi
    have rmx := opt_none (ρ := ρ) hmx
    have hb : ∀ (n cap : Nat), n ≤ cap → 0 ≤ a → a ≤ b → b ≤ (n : Int) → (Instr.sliceBounds true n cap (lo.map ρ) (hi.map ρ) (mx.map ρ)).run P w = .ok (a.toNat, b.toNat, if false = true then b.toNat else cap) w := by
      intro n cap hc h0 h1 h2
      rw [rlo, rhi, rmx]
      simp only [Instr.sliceBounds, Sem.run_bind, Sem.run_pure, Result.andThen_ok, sliceBound_run (a := b) (n := cap) (by omega) (by omega), sliceBound_run (a := a) (n := b.toNat) h0 (by omega)]
      simp
    split at h
    · rename_i e ty l f hu he
      split at h
      · rename_i hsz
        obtain ⟨⟨h0, h1, h2⟩, h⟩ := h
        exact slice_imm hok hm hev o ho hu hsz he a.toNat b.toNat false (by omega) (by omega) (fun cap hc => hb _ cap hc h0 h1 h2) rfl h
      · exact absurd h id
    · rename_i e r f hu he
      split at h
      · rename_i ty l g hmr
        split at h
        · rename_i hsz
          obtain ⟨⟨h0, h1, h2⟩, h⟩ := h
          exact slice_reg hok hm hev o ho hu hsz.1 he hmr hsz.2 a.toNat b.toNat false (by omega) (by omega) (fun cap hc => hb _ cap hc h0 h1 h2) rfl h
        · exact absurd h id
      · exact absurd h id
    · exact absurd h id
  · exact absurd h id
end
end Go.Abs
end

section
/- The operations that make memory: variables, boxes, rows, append. -/
namespace Go.Abs
section
variable {P : Program} {F : Nat → Prop} {K : Know} {H : Nat → Option Hd} {w : World} {m : Mm} {nx : Nat} {k : Q → Prop} {ev : Operand → AVal} {ρ : Operand → Value}

/-! ### lists of cells that are lists of data -/

def ElemsL (K : Know) (t : Ty) (l : List t.den) (cs : List Value) : Prop :=
  cs.length = l.length * t.size ∧ ∀ i (h : i < l.length), DenRep K t l[i] ((cs.drop (i * t.size)).take t.size)

theorem ElemsL.nil {t : Ty} : ElemsL K t [] [] := ⟨by simp, fun i h => by simp at h⟩
theorem ElemsL.cons {t : Ty} {x : t.den} {l : List t.den} {c cs : List Value} (h : DenRep K t x c) (h' : ElemsL K t l cs) : ElemsL K t (x :: l) (c ++ cs) := by
  have hl := DenRep.length t _ _ h
  refine ⟨by simp [h'.1, hl, Nat.add_mul]; omega, fun i hi => ?_⟩
  cases i with
  | zero => simp only [Nat.zero_mul, List.drop_zero, List.getElem_cons_zero]; rw [List.take_left' hl]; exact h
  | succ i =>
    simp only [List.getElem_cons_succ]
    have := h'.2 i (by simpa using hi)
    rw [Nat.add_mul, Nat.one_mul, Nat.add_comm, ← List.drop_drop, List.drop_left' hl]
    exact this
theorem ElemsL.append {t : Ty} {l l' : List t.den} {cs cs' : List Value} (h : ElemsL K t l cs) (h' : ElemsL K t l' cs') : ElemsL K t (l ++ l') (cs ++ cs') := by
  refine ⟨by simp [h.1, h'.1, Nat.add_mul], fun i hi => ?_⟩
  by_cases hlt : i < l.length
  · rw [List.getElem_append_left hlt]
    have := h.2 i hlt
    have hle : (i + 1) * t.size ≤ l.length * t.size := Nat.mul_le_mul_right _ hlt
    rw [Nat.add_mul] at hle
    rw [List.drop_append_of_le_length (by rw [h.1]; omega), List.take_append_of_le_length (by rw [List.length_drop, h.1]; omega)]
    exact this
  · rw [List.getElem_append_right (by omega)]
    have hi' : i - l.length < l'.length := by simp at hi; omega
    have := h'.2 (i - l.length) hi'
    have he : i * t.size = cs.length + (i - l.length) * t.size := by
      rw [h.1, ← Nat.add_mul]; congr 1; omega
    rw [he, ← List.drop_drop, List.drop_left]
    exact this
theorem ElemsL.elems {t : Ty} {l : List t.den} {cs rest : List Value} (h : ElemsL K t l cs) : Elems K t l (cs ++ rest).toArray 0 := by
  intro i hi
  have := h.2 i hi
  have hle : (i + 1) * t.size ≤ l.length * t.size := Nat.mul_le_mul_right _ hi
  rw [Nat.add_mul] at hle
  unfold slab
  rw [Nat.zero_add, List.drop_append_of_le_length (by rw [h.1]; omega), List.take_append_of_le_length (by rw [List.length_drop, h.1]; omega)]
  exact this
theorem Elems.elemsL {t : Ty} {l : List t.den} {cs : Array Value} {off : Nat} (h : Elems K t l cs off) (hl : off + l.length * t.size ≤ cs.size) : ElemsL K t l (slab cs off (l.length * t.size)) := by
  refine ⟨slab_len hl, fun i hi => ?_⟩
  have hle : (i + 1) * t.size ≤ l.length * t.size := Nat.mul_le_mul_right _ hi
  rw [Nat.add_mul] at hle
  rw [slab_slab (by omega)]
  exact h i hi
theorem Elems.bound {t : Ty} {l : List t.den} {cs : Array Value} {off : Nat} (h : Elems K t l cs off) (hn : l ≠ []) : off + l.length * t.size ≤ cs.size := by
  have hpos : 0 < l.length := by cases l with | nil => exact absurd rfl hn | cons a l => simp
  have := DenRep.length t _ _ (h (l.length - 1) (by omega))
  have := slab_le this t.size_pos
  have he : (l.length - 1) * t.size + t.size = l.length * t.size := by
    rw [← Nat.succ_mul]; congr 1; omega
  omega
theorem ElemsL.replicate {t : Ty} {x : t.den} {c : List Value} (h : DenRep K t x c) : ∀ n, ElemsL K t (List.replicate n x) ((List.replicate n c).flatten)
  | 0 => by simpa using ElemsL.nil
  | n + 1 => by
    rw [List.replicate_succ, List.replicate_succ, List.flatten_cons]
    exact .cons h (ElemsL.replicate h n)

theorem den_one : ∀ (t : Ty) (x : t.den) (cs : List Value), DenRep K t x cs → ∀ v ∈ cs, v.oneCell' = true
  | .int _, _, _, h, v, hv => by have h : _ = _ := h; subst h; simp at hv; subst hv; rfl
  | .bool, _, _, h, v, hv => by have h : _ = _ := h; subst h; simp at hv; subst hv; rfl
  | .slice _, _, _, h, v, hv => by obtain ⟨_, _, rfl, _⟩ := h; simp at hv; subst hv; rfl
  | .pair a b, _, _, h, v, hv => by
    obtain ⟨c1, c2, rfl, h1, h2⟩ := h
    rcases List.mem_append.1 hv with h | h
    · exact den_one a _ _ h1 v h
    · exact den_one b _ _ h2 v h
theorem one_of' {v : Value} (h : v.oneCell' = true) : one v = true := by cases v <;> simp_all [Value.oneCell', one]

theorem elemsL_one {t : Ty} : ∀ {l : List t.den} {cs : List Value}, ElemsL K t l cs → ∀ v ∈ cs, v.oneCell' = true
  | [], cs, h, v, hv => by
    have : cs = [] := List.eq_nil_of_length_eq_zero (by simpa using h.1)
    subst this; simp at hv
  | x :: l, cs, h, v, hv => by
    have h0 := h.2 0 (by simp)
    simp only [Nat.zero_mul, List.drop_zero, List.getElem_cons_zero] at h0
    have htl : ElemsL K t l (cs.drop t.size) := by
      refine ⟨by rw [List.length_drop, h.1]; simp [Nat.add_mul], fun i hi => ?_⟩
      have := h.2 (i + 1) (by simpa using hi)
      simp only [List.getElem_cons_succ] at this
      have he : cs.drop ((i + 1) * t.size) = (cs.drop t.size).drop (i * t.size) := by
        rw [List.drop_drop]; congr 1; rw [Nat.add_mul]; omega
      rw [he] at this
      exact this
    rw [← List.take_append_drop t.size cs] at hv
    rcases List.mem_append.1 hv with hv | hv
    · exact den_one t _ _ h0 v hv
    · exact elemsL_one htl v hv

theorem zeroV_rep : ∀ (t : Ty), DenRep K t t.zero (zeroV t)
  | .int _ => rfl
  | .bool => rfl
  | .slice _ => ⟨none, 0, rfl, Nat.le_refl _, .inl rfl⟩
  | .pair a b => ⟨_, _, rfl, zeroV_rep a, zeroV_rep b⟩
theorem zeroA_rep : ∀ (t : Ty), RepL K H (zeroA t) (zeroV t)
  | .int _ => .cons (by simp [Rep]) .nil
  | .bool => .cons (by simp [Rep]) .nil
  | .slice _ => .cons (by simp [Rep]) .nil
  | .pair a b => RepL.append (zeroA_rep a) (zeroA_rep b)

theorem flat_get (z : List Value) (s : Nat) (hz : z.length = s) : ∀ (n j : Nat), j < n * s → (List.replicate n z).flatten[j]? = z[j % s]?
  | 0, j, h => by simp at h
  | n + 1, j, h => by
    rw [List.replicate_succ, List.flatten_cons]
    by_cases hj : j < s
    · rw [List.getElem?_append_left (by omega), Nat.mod_eq_of_lt hj]
    · rw [List.getElem?_append_right (by omega), hz, flat_get z s hz n (j - s) (by rw [Nat.add_mul] at h; omega)]
      congr 1
      exact (Nat.mod_eq_sub_mod (by omega)).symm

theorem sameV_eq : ∀ (a b : List Value), sameV a b = true → a = b := by
  intro a
  induction a with
  | nil => intro b h; cases b <;> simp [sameV] at h ⊢
  | cons x a ih =>
    intro b h
    cases b with
    | nil => cases x <;> simp [sameV] at h
    | cons y b =>
      unfold sameV at h
      split at h
      · rename_i h1 h2
        cases h1
      · rename_i h1 h2
        cases h1; cases h2
        simp only [Bool.and_eq_true, decide_eq_true_eq] at h
        rw [h.1.1, h.1.2, ih _ h.2]
      · rename_i h1 h2
        cases h1; cases h2
        simp only [Bool.and_eq_true, beq_iff_eq] at h
        rw [h.1, ih _ h.2]
      · rename_i h1 h2
        cases h1; cases h2
        rw [ih _ h]
      · cases h
theorem zeroOk_spec {t : TypeId} {ty : Ty} (h : zeroOk P t ty = true) : ∃ i v, P.info? t = some i ∧ i.zero = some v ∧ v.cells.toList = zeroV ty := by
  unfold zeroOk at h
  split at h
  · rename_i i hi
    split at h
    · rename_i v hv
      exact ⟨i, v, hi, hv, sameV_eq _ _ h⟩
    · cases h
  · cases h
theorem zeroOkArr_both {t : TypeId} {ty : Ty} {n : Nat} (h : awpQ.zeroOkArr P t ty n = true) : n ≤ 16777216 ∧ ∃ i v, P.info? t = some i ∧ i.zero = some v ∧ v.cells.toList = (List.replicate n (zeroV ty)).flatten := by
  unfold awpQ.zeroOkArr at h
  split at h
  · rename_i i hi
    split at h
    · rename_i v hv
      rw [Bool.and_eq_true] at h
      exact ⟨Nat.le_of_ble_eq_true h.1, i, v, hi, hv, sameV_eq _ _ h.2⟩
    · cases h
  · cases h
theorem zeroOkArr_spec {t : TypeId} {ty : Ty} {n : Nat} (h : awpQ.zeroOkArr P t ty n = true) : ∃ i v, P.info? t = some i ∧ i.zero = some v ∧ v.cells.toList = (List.replicate n (zeroV ty)).flatten := (zeroOkArr_both h).2
theorem r_zero {t : TypeId} {i : TypeInfo} {v : Value} (hi : P.info? t = some i) (hz : i.zero = some v) (w : World) : (zeroValue t).run P w = .ok v w := by
  simp [zeroValue, r_info hi, hz]

/-! ### new blocks -/

theorem r_newRow (e : TypeId) (cs : Array Value) (w : World) : (newRow e cs).run P w = .ok ⟨w.heap.size, 0, none⟩ (w.alloc (.cells cs e)) := rfl

/-- A new row of data. -/
theorem after_row (hok : WOk F K w) (hm : MRel F K H w m) (hf : H nx = none) (e : TypeId) {t : Ty} {l : List t.den} {cs rest : List Value} (hl : ElemsL K t l cs) (cap : Nat) (hcap : l.length ≤ cap) (hmax : cap ≤ 9223372036854775807)
    (hsz : cap * t.size ≤ (cs ++ rest).length) (full : Bool) (hfull : full = true → cap = l.length) (rs : List Nat) :
    ∃ H', After F K H w m nx (newSl nx t l full rs []) (.slice (some ⟨w.heap.size, 0, none⟩) l.length cap) (w.alloc (.cells (cs ++ rest).toArray e)) K H' := by
  let hd : Hd := ⟨some w.heap.size, t.size, l.length, cap⟩
  refine ⟨upd H nx hd, after_alloc hok hm hf (cs ++ rest).toArray e (.sl t l) hd rfl ?_ _ _ ?_ rs⟩
  · exact ⟨rfl, rfl, ⟨hcap, hmax⟩, .inr ⟨w.heap.size, _, e, (0, 0), rfl, alloc_new w _, by simpa using hsz, hl.elems⟩⟩
  · simp only [Rep]
    exact ⟨hd, upd_same _ _ _, rfl, hfull⟩

theorem WOk.heap (h : WOk F K w) {w' : World} (hh : w'.heap = w.heap) : WOk F K w' :=
  ⟨⟨fun b cs hc => by rw [hh]; exact h.knows.1 b cs hc, fun b p hp => by rw [hh]; exact h.knows.2 b p hp⟩, fun b hb => by rw [hh]; exact h.lt b hb, h.inv, h.apart⟩
theorem MRel.heap (h : MRel F K H w m) {w' : World} (hh : w'.heap = w.heap) : MRel F K H w' m := h.world (fun _ _ _ _ _ _ _ _ _ => by rw [hh])

theorem After.drew {q : Q} {v : Value} {w' : World} {K' : Know} {H' : Nat → Option Hd} (h : After F K H w.drew m nx q v w' K' H') : After F K H w m nx q v w' K' H' :=
  ⟨h.le, h.hle, h.hnew, h.rep, h.mem, h.ok, ⟨h.kept.os, h.kept.tape, h.kept.output, h.kept.size, h.kept.block, Nat.le_trans (Nat.le_succ _) h.kept.drawn⟩, h.fix⟩

/-- A region's own flag falls first: the rest goes on from there. -/
theorem After.use {us : List (Nat × Flag)} {a : AVal} {new : List Cont} {rs : List Nat} {v : Value} {w' : World} {K1 K' : Know} {H' : Nat → Option Hd} (hle : K.le K1) (hfix : Fix F K K1)
    (h : After F K1 H w (flagsM m us) nx ⟨a, new, [], rs⟩ v w' K' H') : After F K H w m nx ⟨a, new, us, rs⟩ v w' K' H' :=
  ⟨hle.trans h.le, h.hle, h.hnew, h.rep, h.mem, h.ok, h.kept, hfix.trans h.fix⟩

variable (hok : WOk F K w) (hm : MRel F K H w m) (hev : ∀ x, Rep K H (ev x) (ρ x)) (hfr : ∀ q, k q → ∀ i, i < q.new.length → H (nx + i) = none)
include hok hm hev hfr

omit hok hm hev in
theorem gives_alloc {q : Q} (hk : k q) {v : Value} {w' : World} (h : (H nx = none) → ∃ K' H', After F K H w m nx q v w' K' H') (hn : 0 < q.new.length) : Gives P F K H w m nx k (.ok (.value v) w') := by
  obtain ⟨K', H', h⟩ := h (by simpa using hfr q hk 0 hn)
  exact ⟨q, K', H', hk, h⟩

theorem q_move (o : Oper) {x : Operand} (ho : o.op = .move x ∨ o.op = .assign x) (h : match ev x with
    | .nilc => (match elemTy P o.type with
      | some t => k ⟨.reg nx false, [.sl t []], [], []⟩
      | none => k (.pure .nilc))
    | v => k (.pure v)) : Gives P F K H w m nx k ((execOp ρ o).run P w) := by
  have hrun : (execOp ρ o).run P w = .ok (.value (ρ x)) w := by
    rcases ho with ho | ho <;> simp [execOp, ho]
  rw [hrun]
  have hx := hev x
  split at h
  · rename_i he
    rw [he] at hx
    have hx' := hx
    simp only [Rep] at hx
    split at h
    · rename_i t ht
      refine gives_alloc hfr h (fun hf => ?_) (by simp)
      let hd : Hd := ⟨none, t.size, 0, 0⟩
      refine ⟨K, upd H nx hd, .refl K, hle_upd hf, ?_, ?_, ?_, hok, .refl F w, .refl F K⟩
      · intro r h1 h2
        by_cases e' : r = nx
        · subst e'; simp
        · rw [upd_ne _ _ _ _ e'] at h2; exact absurd h1 h2
      · simp only [Rep]
        exact ⟨hd, upd_same _ _ _, by rw [hx]; rfl, by simp [hd]⟩
      · exact hm.new nx hf (.sl t []) hd ⟨rfl, rfl, ⟨Nat.le_refl _, Nat.zero_le _⟩, .inl ⟨rfl, rfl⟩⟩ (fun b hb => by cases hb)
    · exact gives_pure hok hm hx' h
  · exact gives_pure hok hm hx h

omit hev in
theorem q_alloc (o : Oper) {e : TypeId} (ho : o.op = .alloc e) (h : match P.underlying e with
    | some (.array n a) => (match tyOf P 8 a with
      | some t => if awpQ.zeroOkArr P e t n then k ⟨.aptr nx, [.sl t (List.replicate n t.zero)], [], []⟩ else False
      | none => False)
    | _ => (match tyOf P 8 e with
      | some t => if zeroOk P e t then k ⟨.ptr nx 0, [.box (zeroA t)], [], []⟩ else False
      | none => if nilMapT P e then k ⟨.ptr nx 0, [.box [.unk]], [], []⟩ else False)) : Gives P F K H w m nx k ((execOp ρ o).run P w) := by
  have hrun : ∀ i v, P.info? e = some i → i.zero = some v → (execOp ρ o).run P w = .ok (.value (.pointer (some ⟨w.heap.size, 0, none⟩))) (w.alloc (.cells v.cells e)) := by
    intro i v hi hz
    simp only [execOp, ho]
    refine q_value ?_
    simp only [Instr.alloc, Sem.run_bind, r_zero hi hz, Result.andThen_ok, newVar, r_newRow]
    rfl
  have box : ∀ t, (if zeroOk P e t = true then k ⟨.ptr nx 0, [.box (zeroA t)], [], []⟩ else False) → Gives P F K H w m nx k ((execOp ρ o).run P w) := by
    intro t h
    split at h
    · rename_i hz
      obtain ⟨i, v, hi, hv, hc⟩ := zeroOk_spec hz
      rw [hrun i v hi hv]
      refine gives_alloc hfr h (fun hf => ?_) (by simp)
      let hd : Hd := ⟨some w.heap.size, 0, 0, 0⟩
      refine ⟨K, _, after_alloc hok hm hf v.cells e (.box (zeroA t)) hd rfl ?_ _ _ ?_ []⟩
      · exact ⟨w.heap.size, v.cells, e, (0, 0), rfl, alloc_new w _, by rw [hc]; exact zeroA_rep t⟩
      · simp only [Rep]
        exact ⟨hd, w.heap.size, upd_same _ _ _, rfl, rfl⟩
    · exact absurd h id
  split at h
  · rename_i n a hu
    split at h
    · rename_i t ht
      split at h
      · rename_i hz
        have hzn := (zeroOkArr_both hz).1
        obtain ⟨i, v, hi, hv, hc⟩ := zeroOkArr_spec hz
        rw [hrun i v hi hv]
        refine gives_alloc hfr h (fun hf => ?_) (by simp)
        let hd : Hd := ⟨some w.heap.size, t.size, n, n⟩
        have hel := ElemsL.replicate (zeroV_rep (K := K) t) n
        refine ⟨K, _, after_alloc hok hm hf v.cells e (.sl t (List.replicate n t.zero)) hd rfl ?_ _ _ ?_ []⟩
        · refine ⟨rfl, by simp [hd], ⟨Nat.le_refl _, by show n ≤ _; omega⟩, .inr ⟨w.heap.size, v.cells, e, (0, 0), rfl, alloc_new w _, ?_, ?_⟩⟩
          · have := hel.1
            rw [← hc] at this
            simp at this
            simp [hd, this]
          · have := hel.elems (rest := [])
            rw [← hc] at this
            simpa using this
        · simp only [Rep]
          exact ⟨hd, w.heap.size, upd_same _ _ _, rfl, rfl, rfl⟩
      · exact absurd h id
    · exact absurd h id
  · split at h
    · exact box _ h
    · split at h
      · rename_i hz
        unfold nilMapT at hz
        split at hz
        · rename_i i hi
          split at hz
          · rename_i hzv
            rw [hrun i _ hi hzv]
            refine gives_alloc hfr h (fun hf => ?_) (by simp)
            let hd : Hd := ⟨some w.heap.size, 0, 0, 0⟩
            refine ⟨K, _, after_alloc hok hm hf (Value.map none).cells e (.box [.unk]) hd rfl ?_ _ _ ?_ []⟩
            · exact ⟨w.heap.size, (Value.map none).cells, e, (0, 0), rfl, alloc_new w _, .cons (by simp [Rep]) .nil⟩
            · simp only [Rep]
              exact ⟨hd, w.heap.size, upd_same _ _ _, rfl, rfl⟩
          · rename_i hzv
            rw [hrun i _ hi hzv]
            refine gives_alloc hfr h (fun hf => ?_) (by simp)
            let hd : Hd := ⟨some w.heap.size, 0, 0, 0⟩
            refine ⟨K, _, after_alloc hok hm hf (Value.pointer none).cells e (.box [.unk]) hd rfl ?_ _ _ ?_ []⟩
            · exact ⟨w.heap.size, (Value.pointer none).cells, e, (0, 0), rfl, alloc_new w _, .cons (by simp [Rep]) .nil⟩
            · simp only [Rep]
              exact ⟨hd, w.heap.size, upd_same _ _ _, rfl, rfl⟩
          · rename_i hzv
            rw [hrun i _ hi hzv]
            refine gives_alloc hfr h (fun hf => ?_) (by simp)
            let hd : Hd := ⟨some w.heap.size, 0, 0, 0⟩
            refine ⟨K, _, after_alloc hok hm hf Value.nilFunc.cells e (.box [.unk]) hd rfl ?_ _ _ ?_ []⟩
            · exact ⟨w.heap.size, Value.nilFunc.cells, e, (0, 0), rfl, alloc_new w _, .cons (by simp [Rep]) .nil⟩
            · simp only [Rep]
              exact ⟨hd, w.heap.size, upd_same _ _ _, rfl, rfl⟩
          · cases hz
        · cases hz
      · exact absurd h id

theorem q_box (o : Oper) {e : TypeId} {x : Operand} (ho : o.op = .box e x) (h : match (typed P e (ev x)).parts with
    | some cells => k ⟨.ptr nx 0, [.box cells], [], []⟩
    | none => False) : Gives P F K H w m nx k ((execOp ρ o).run P w) := by
  split at h
  · rename_i cells hp
    have hx := parts_rep hp (typed_rep (P := P) (t := e) (hev x))
    simp only [execOp, ho]
    rw [q_value (x := .pointer (some ⟨w.heap.size, 0, none⟩)) (w' := w.alloc (.cells (ρ x).cells e)) rfl]
    refine gives_alloc hfr h (fun hf => ?_) (by simp)
    let hd : Hd := ⟨some w.heap.size, 0, 0, 0⟩
    refine ⟨K, _, after_alloc hok hm hf (ρ x).cells e (.box cells) hd rfl ?_ _ _ ?_ []⟩
    · exact ⟨w.heap.size, _, e, (0, 0), rfl, alloc_new w _, RepL.mono (.refl K) (hle_upd hf) _ _ hx⟩
    · simp only [Rep]
      exact ⟨hd, w.heap.size, upd_same _ _ _, rfl, rfl⟩
  · exact absurd h id

theorem q_makeSlice (o : Oper) {t : TypeId} {l c : Operand} (ho : o.op = .makeSlice t l c) (h : match P.underlying t, ev l, ev c with
    | some (.slice e), .int .i64 a, .int .i64 b => (match tyOf P 8 e with
      | some ty => if zeroOk P e ty ∧ (((P.info? e).map (·.bytes)).getD 0) ≤ 64 then (0 ≤ a ∧ a = b ∧ a ≤ (big : Int)) ∧ k (newSl nx ty (List.replicate a.toNat ty.zero) true [] []) else False
      | none => False)
    | _, _, _ => False) : Gives P F K H w m nx k ((execOp ρ o).run P w) := by
  split at h
  · rename_i e a b hu hl hc
    have r1 := rep_int (hl ▸ hev l)
    have r2 := rep_int (hc ▸ hev c)
    split at h
    · rename_i ty hty
      split at h
      · rename_i hz
        obtain ⟨⟨h0, rfl, hb⟩, h⟩ := h
        obtain ⟨i, v, hi, hv, hcz⟩ := zeroOk_spec hz.1
        obtain ⟨i', de, hi', hsz, _, _⟩ := tyOf_info 8 e ty hty
        rw [hi] at hi'; cases hi'
        have hby : i.bytes ≤ 64 := by have := hz.2; rw [hi] at this; simpa using this
        have hbig : (big : Int) = 1099511627776 := rfl
        have hbyt : (i.bytes : Int) * a ≤ 281474976710656 := by
          have h1 : (i.bytes : Int) * a ≤ 64 * a := Int.mul_le_mul_of_nonneg_right (by omega) h0
          omega
        have hrun := run_make (P := P) w t e i v hu hi hv .i64 .i64 a a h0 (Int.le_refl _) hbyt (by omega)
        simp only [execOp, ho, r1, r2]
        rw [q_value hrun]
        refine gives_alloc hfr h (fun hf => ?_) (by simp [newSl])
        have hel := ElemsL.replicate (zeroV_rep (K := K) ty) a.toNat
        have hcells : madeCells v.cells (a.toNat * i.size) = ((List.replicate a.toNat (zeroV ty)).flatten ++ []).toArray := by
          have hvs : v.cells.size = ty.size := by
            have := DenRep.length ty _ _ (zeroV_rep (K := K) ty)
            rw [← hcz] at this
            simpa using this
          apply Array.ext_getElem?
          intro j
          rw [hsz]
          by_cases hj : j < a.toNat * ty.size
          · have hpos := ty.size_pos
            have hdiv : j / ty.size < a.toNat := Nat.div_lt_of_lt_mul (by rw [Nat.mul_comm]; exact hj)
            have hmod : j % ty.size < ty.size := Nat.mod_lt _ hpos
            have hright : ((List.replicate a.toNat (zeroV ty)).flatten ++ []).toArray[j]? = v.cells[j % ty.size]? := by
              rw [List.append_nil]
              have h1 : (List.replicate a.toNat (zeroV ty)).flatten.toArray[j]? = (List.replicate a.toNat (zeroV ty)).flatten[j]? := by simp
              rw [h1, flat_get (zeroV ty) ty.size (DenRep.length ty _ _ (zeroV_rep (K := K) ty)) a.toNat j hj, ← hcz]
              simp
            rw [hright]
            have hlt : j % ty.size < v.cells.size := by rw [hvs]; exact hmod
            simp [madeCells, hj, hvs, getElem!_pos v.cells (j % ty.size) hlt]
          · rw [Array.getElem?_eq_none (by rw [size_madeCells]; omega), Array.getElem?_eq_none (by
              have := hel.1
              simp only [List.length_replicate] at this
              simp only [List.append_nil, List.size_toArray, this]; omega)]
        rw [hcells]
        have hlen : (List.replicate a.toNat ty.zero).length = a.toNat := by simp
        have := after_row (nx := nx) hok hm hf e hel (rest := []) a.toNat (by simp) (by omega) (by rw [List.append_nil, hel.1, hlen]; exact Nat.le_refl _) true (fun _ => by simp) []
        obtain ⟨H', hA⟩ := this
        rw [hlen] at hA
        exact ⟨K, H', hA⟩
      · exact absurd h id
    · exact absurd h id
  · exact absurd h id
end
end Go.Abs
end

section
/- Composite values and append. -/
namespace Go.Abs
section
variable {P : Program} {F : Nat → Prop} {K : Know} {H : Nat → Option Hd} {w : World} {m : Mm} {nx : Nat} {k : Q → Prop} {ev : Operand → AVal} {ρ : Operand → Value}

/-! ### filling cells in -/

theorem foldl_splice (off : Nat) : ∀ (l : List Value) (i : Nat) (cs : Array Value), (l.zipIdx i).foldl (fun cs (c, j) => cs.setIfInBounds (off + j) c) cs = splice cs (off + i) l
  | [], _, _ => rfl
  | c :: l, i, cs => by
    rw [List.zipIdx_cons, List.foldl_cons, foldl_splice off l (i + 1), splice, Nat.add_assoc]

theorem array_splice (off : Nat) (v : Value) (cs : Array Value) : v.cells.zipIdx.foldl (fun cs (c, j) => cs.setIfInBounds (off + j) c) cs = splice cs off v.cells.toList := by
  rw [← Array.foldl_toList, Array.toList_zipIdx, foldl_splice, Nat.add_zero]

theorem splice_list (cs : Array Value) (o : Nat) (vs : List Value) (h : o + vs.length ≤ cs.size) : (splice cs o vs).toList = cs.toList.take o ++ vs ++ cs.toList.drop (o + vs.length) := by
  apply List.ext_getElem?
  intro i
  rw [Array.getElem?_toList, splice_get cs o vs i h]
  by_cases h1 : i < o
  · rw [if_neg (by omega), List.getElem?_append_left (by simp; omega), List.getElem?_append_left (by simp; omega), List.getElem?_take_of_lt h1]
    simp
  · by_cases h2 : i < o + vs.length
    · rw [if_pos (by omega), List.getElem?_append_left (by simp; omega), List.getElem?_append_right (by simp; omega)]
      congr 1
      simp; omega
    · rw [if_neg (by omega), List.getElem?_append_right (by simp; omega), List.getElem?_drop]
      simp only [List.length_append, List.length_take, Array.length_toList]
      rw [Array.getElem?_toList]
      congr 1
      omega

/-- The struct's places. -/
theorem places_mapM : ∀ (fs : List Field), (∀ f ∈ fs, ∃ i, P.info? f.type = some i) → fs.mapM (fun f => (P.info? f.type).map fun i => (f.offset, i.size)) = some (fs.map fun f => (f.offset, sizeT P f.type))
  | [], _ => rfl
  | f :: fs, h => by
    obtain ⟨i, hi⟩ := h f (by simp)
    have ih := places_mapM fs (fun g hg => h g (by simp [hg]))
    rw [List.mapM_cons, ih, hi]
    simp [sizeT, hi]

theorem fields_info {d : Nat} : ∀ (fs : List Field) (o : Nat) (ty : Ty), tyOf.fields P d fs o = some ty → ∀ f ∈ fs, ∃ i, P.info? f.type = some i
  | [], _, _, h, f, hf => by simp at hf
  | [g], o, ty, h, f, hf => by
    simp only [List.mem_singleton] at hf
    subst hf
    have h : (if f.offset = o then tyOf P d f.type else none) = some ty := h
    split at h
    · obtain ⟨i, _, hi, _⟩ := tyOf_info d _ _ h
      exact ⟨i, hi⟩
    · cases h
  | g :: g' :: fs, o, ty, h, f, hf => by
    have h : (if g.offset = o then (match tyOf P d g.type with
      | some x => match tyFields (tyOf P d) (g' :: fs) (o + x.size) with
        | some y => some (.pair x y)
        | none => none
      | none => none) else none) = some ty := h
    split at h
    · split at h
      · rename_i a ha
        split at h
        · rename_i b hb
          rcases List.mem_cons.1 hf with rfl | hf
          · obtain ⟨i, _, hi, _⟩ := tyOf_info d _ _ ha
            exact ⟨i, hi⟩
          · exact fields_info (g' :: fs) _ _ hb f hf
        · cases h
      · cases h
    · cases h

variable (hok : WOk F K w) (hm : MRel F K H w m) (hev : ∀ x, Rep K H (ev x) (ρ x)) (hfr : ∀ q, k q → ∀ i, i < q.new.length → H (nx + i) = none)
include hev

/-- The parts of a struct laid over its cells. -/
theorem fill_struct {t : TypeId} {fs : Array Field} (hu : P.underlying t = some (.struct fs)) : ∀ (ps : List (Nat × Operand)) (cells : List AVal) (cs : Array Value) (out : List AVal), RepL K H cells cs.toList → fillA P ev t cells ps = some out →
    ∃ cs', Instr.fill (((fs.toList.map fun f => (f.offset, sizeT P f.type)).toArray)[·]?) cs (ps.map fun u => (u.1, ρ u.2)) = some cs' ∧ RepL K H out cs'.toList
  | [], cells, cs, out, hr, h => by
    simp only [fillA, Option.some.injEq] at h
    subst h
    exact ⟨cs, rfl, hr⟩
  | (i, x) :: ps, cells, cs, out, hr, h => by
    simp only [fillA] at h
    split at h
    · rename_i off size hf
      split at h
      · rename_i as has
        split at h
        · rename_i hc
          obtain ⟨fs', fl, hu', hfl, rfl, hz, hs⟩ := fieldT_spec hf
          rw [hu] at hu'
          cases hu'
          have hx := parts_rep has (typed_rep (P := P) (t := fillA.fldTy P t i) (hev x))
          have hlen := RepL.length hx
          have hlc := RepL.length hr
          simp only [Array.length_toList] at hlen hlc
          have hbound : fl.offset + (ρ x).cells.toList.length ≤ cs.size := by
            rw [Array.length_toList, hlen, hc.1]; omega
          have hr' : RepL K H (cells.take fl.offset ++ as ++ cells.drop (fl.offset + size)) (splice cs fl.offset (ρ x).cells.toList).toList := by
            rw [splice_list cs _ _ hbound]
            have e : fl.offset + (ρ x).cells.toList.length = fl.offset + size := by rw [Array.length_toList, hlen, hc.1]
            rw [e]
            exact RepL.append (RepL.append (RepL.take _ hr) hx) (RepL.drop _ hr)
          obtain ⟨cs', h1, h2⟩ := fill_struct hu ps _ _ out hr' h
          refine ⟨cs', ?_, h2⟩
          have hplace : ((fs.toList.map fun f => (f.offset, sizeT P f.type)).toArray)[i]? = some (fl.offset, sizeT P fl.type) := by
            simp [hfl]
          simp only [List.map_cons, Instr.fill, hplace]
          rw [if_neg ?_]
          · rw [array_splice]; exact h1
          · simp only [Bool.or_eq_true, decide_eq_true_eq, not_or]
            refine ⟨by rw [hlen, hc.1, hs]; simp, by rw [hlen, hc.1]; omega⟩
        · cases h
      · cases h
    · cases h

include hok hm in
theorem q_build (o : Oper) {t : TypeId} {ps : Array (Nat × Operand)} (ho : o.op = .build t ps) (h : match P.underlying t with
    | some (.array n e) => (match tyOf P 8 e with
      | some ty => if awpQ.zeroOkArr P t ty n ∧ ps.toList.length = 0 then k (.pure (.arrv ty (List.replicate n ty.zero))) else False
      | none => False)
    | _ => (match tyOf P 8 t with
    | some ty => if zeroOk P t ty && aggT P t then (match fillA P ev t (zeroA ty) ps.toList with
      | some cells => k (.pure (.agg cells))
      | none => False) else False
    | none => buildX P ev t ps.toList (fun v => k (.pure v)))) : Gives P F K H w m nx k ((execOp ρ o).run P w) := by
  have str : (match tyOf P 8 t with
    | some ty => if (zeroOk P t ty && aggT P t) = true then (match fillA P ev t (zeroA ty) ps.toList with
      | some cells => k (.pure (.agg cells))
      | none => False) else False
    | none => buildX P ev t ps.toList (fun v => k (.pure v))) → (∀ n e, P.underlying t ≠ some (.array n e)) → Gives P F K H w m nx k ((execOp ρ o).run P w) := by
    intro h hna
    split at h
    · rename_i ty hty
      split at h
      · rename_i hz
        simp only [Bool.and_eq_true] at hz
        split at h
        · rename_i cells hc
          obtain ⟨i, v, hi, hv, hcz⟩ := zeroOk_spec hz.1
          obtain ⟨d, hd⟩ := aggT_under hz.2
          cases d <;> simp [aggT, hd] at hz
          case array n e => exact absurd hd (hna n e)
          case struct fs =>
            obtain ⟨cs', h1, h2⟩ := fill_struct hev hd ps.toList (zeroA ty) v.cells cells (by rw [hcz]; exact zeroA_rep ty) hc
            have hinfo : ∀ f ∈ fs.toList, ∃ i, P.info? f.type = some i := by
              have hty' := hty
              unfold tyOf at hty'
              rw [hi, hd] at hty'
              simp only at hty'
              split at hty'
              · rename_i a ha
                exact fields_info fs.toList 0 a ha
              · cases hty'
            have hb : P.built t (ps.map fun (i, x) => (i, ρ x)).toList = some cs' := by
              unfold Program.built
              rw [hi, hd]
              simp only [hv, places_mapM fs.toList hinfo]
              rw [← h1]
              congr 1
              simp
            have hrun := run_build w t (ps.map fun (i, x) => (i, ρ x)) cs' hb
            simp only [execOp, ho]
            rw [q_value hrun]
            exact gives_pure hok hm (by simp only [Rep]; exact ⟨_, rfl, h2⟩) h
          all_goals simp_all
        · exact absurd h id
      · exact absurd h id
    · unfold buildX at h
      split at h
      · rename_i i fs hi hd
        split at h
        · rename_i v hv
          split at h
          · rename_i hf
            split at h
            · rename_i cells hc
              have hz : RepL K H (v.cells.toList.map constA1) v.cells.toList := by
                generalize v.cells.toList = l
                induction l with
                | nil => exact .nil
                | cons a l ih => exact .cons (constA1_rep a) ih
              obtain ⟨cs', h1, h2⟩ := fill_struct hev hd ps.toList _ v.cells cells hz hc
              have hinfo : ∀ f ∈ fs.toList, ∃ i, P.info? f.type = some i := by
                have go : ∀ (l : List Field), infosOk P l = true → ∀ f ∈ l, ∃ i, P.info? f.type = some i := by
                  intro l
                  induction l with
                  | nil => intro _ f hf; simp at hf
                  | cons a l ih =>
                    intro h f hf
                    simp only [infosOk, Bool.and_eq_true] at h
                    rcases List.mem_cons.1 hf with rfl | hf
                    · exact Option.isSome_iff_exists.1 h.1
                    · exact ih h.2 f hf
                exact go _ hf
              have hb : P.built t (ps.map fun (i, x) => (i, ρ x)).toList = some cs' := by
                unfold Program.built
                rw [hi, hd]
                simp only [hv, places_mapM fs.toList hinfo]
                rw [← h1]
                congr 1
                simp
              have hrun := run_build w t (ps.map fun (i, x) => (i, ρ x)) cs' hb
              simp only [execOp, ho]
              rw [q_value hrun]
              exact gives_pure hok hm (by simp only [Rep]; exact ⟨_, rfl, h2⟩) h
            · exact absurd h id
          · exact absurd h id
        · exact absurd h id
      · exact absurd h id
  split at h
  · rename_i n e hu
    split at h
    · rename_i ty hty
      split at h
      · rename_i hz
        obtain ⟨i, v, hi, hv, hcz⟩ := zeroOkArr_spec hz.1
        obtain ⟨ie, _, hie, _⟩ := tyOf_info 8 e ty hty
        have hps : ps.toList = [] := List.eq_nil_of_length_eq_zero hz.2
        have hb : P.built t (ps.map fun (i, x) => (i, ρ x)).toList = some v.cells := by
          unfold Program.built
          rw [hi, hu]
          simp only [hv, hie]
          simp [hps, Instr.fill]
        have hrun := run_build w t (ps.map fun (i, x) => (i, ρ x)) v.cells hb
        simp only [execOp, ho]
        rw [q_value hrun]
        refine gives_pure hok hm ?_ h
        have hel := ElemsL.replicate (zeroV_rep (K := K) ty) n
        simp only [Rep]
        refine ⟨v.cells, rfl, ?_, ?_⟩
        · have := hel.1
          rw [← hcz] at this
          simpa using this
        · have := hel.elems (rest := [])
          rw [← hcz] at this
          simpa using this
      · exact absurd h id
    · exact absurd h id
  · rename_i hx
    exact str h (fun n e he => hx n e he)
end
end Go.Abs
end

section
/- Rows written out, and append. -/
namespace Go.Abs
section
variable {P : Program} {F : Nat → Prop} {K : Know} {H : Nat → Option Hd} {w : World} {m : Mm} {nx : Nat} {k : Q → Prop} {ev : Operand → AVal} {ρ : Operand → Value}

theorem fill_row (hm : MRel F K H w m) (hev : ∀ x, Rep K H (ev x) (ρ x)) {Kp : Know} (hle : K.le Kp) {e : TypeId} {ty : Ty} : ∀ (ps : List (Nat × Operand)) (i : Nat) (cells : List (List AVal)) (rs : List (Nat × Flag)) (l : List ty.den) (cs : Array Value),
    partsL P m ev e i ps = some (cells, rs) → wholeL ty cells = some l →
    (∀ r f hd b cs e fz, (r, f) ∈ rs → H r = some hd → hd.base = some b → w.heap[b]? = some (.cells cs e fz) → Kp.cells b = some cs) → cs.size = (i + ps.length) * ty.size →
    ∃ cs' rest, Instr.fill (fun i => some (i * ty.size, ty.size)) cs (ps.map fun u => (u.1, ρ u.2)) = some cs' ∧ cs'.toList = cs.toList.take (i * ty.size) ++ rest ∧ ElemsL Kp ty l rest ∧ l.length = ps.length
  | [], i, cells, rs, l, cs, hp, hw, _, hs => by
    simp only [partsL, Option.some.injEq, Prod.mk.injEq] at hp
    obtain ⟨rfl, rfl⟩ := hp
    simp only [wholeL, Option.some.injEq] at hw
    subst hw
    refine ⟨cs, [], rfl, ?_, ElemsL.nil, rfl⟩
    rw [List.append_nil, List.take_of_length_le]
    simp at hs ⊢; omega
  | (j, x) :: ps, i, cells, rs, l, cs, hp, hw, hB, hs => by
    simp only [partsL] at hp
    split at hp
    · rename_i hij
      subst hij
      split at hp
      · rename_i v r1 hv
        split at hp
        · rename_i as rest r2 has hrest
          simp only [Option.some.injEq, Prod.mk.injEq] at hp
          obtain ⟨rfl, rfl⟩ := hp
          simp only [wholeL] at hw
          split at hw
          · rename_i y ys hy hys
            cases hw
            have hx : Rep Kp H v (ρ x) := (view_rep hm hle H (.refl H) 6).1 _ _ _ _ hv (fun r f hd b cs e fz h1 => hB r f hd b cs e fz (by simp [h1])) (typed_rep (P := P) (t := e) (hev x))
            have hxp := parts_rep has hx
            have hden := whole_rep hy hxp
            have hlen := DenRep.length ty _ _ hden
            simp only [Array.length_toList] at hlen
            have hb : i * ty.size + (ρ x).cells.toList.length ≤ cs.size := by
              rw [Array.length_toList, hlen, hs]
              simp only [List.length_cons]
              have : (i + 1) * ty.size ≤ (i + (ps.length + 1)) * ty.size := Nat.mul_le_mul_right _ (by omega)
              rw [Nat.add_mul] at this
              omega
            obtain ⟨cs', rest', h1, h2, h3, h4⟩ := fill_row hm hev hle ps (i + 1) rest r2 ys (splice cs (i * ty.size) (ρ x).cells.toList) hrest hys (fun r f hd b cs e fz h1 => hB r f hd b cs e fz (by simp [h1]))
              (by rw [splice_size, hs]; congr 1; simp; omega)
            refine ⟨cs', (ρ x).cells.toList ++ rest', ?_, ?_, ElemsL.cons hden h3, by simp [h4]⟩
            · simp only [List.map_cons, Instr.fill]
              rw [if_neg ?_]
              · rw [array_splice]; exact h1
              · simp only [Bool.or_eq_true, decide_eq_true_eq, not_or]
                refine ⟨by rw [hlen]; simp, by simp at hb; omega⟩
            · rw [h2, splice_list cs _ _ hb]
              have e1 : (i + 1) * ty.size = (cs.toList.take (i * ty.size) ++ (ρ x).cells.toList).length := by
                rw [List.length_append, List.length_take, Array.length_toList, Array.length_toList, hlen, Nat.add_mul, Nat.min_eq_left (by simp at hb; omega)]
                omega
              rw [List.take_append_of_le_length (by omega), e1, List.take_length, List.append_assoc]
          · cases hw
        · cases hp
      · cases hp
    · cases hp

/-- The slice's elements in memory. -/
theorem elemsA_rep (hm : MRel F K H w m) (hk : Knows K w) {t : Ty} {y : AVal} {x : Value} {ys : List t.den} {rs : List Nat} (h : elemsA m t y = some (ys, rs)) (hy : Rep K H y x) :
    ∃ base cap, x = .slice base ys.length cap ∧ (ys = [] ∨ ∃ b off cs e fz, base = some ⟨b, off, none⟩ ∧ w.heap[b]? = some (.cells cs e fz) ∧ Elems K t ys cs off) := by
  unfold elemsA at h
  split at h
  · simp only [Option.some.injEq, Prod.mk.injEq] at h
    obtain ⟨rfl, rfl⟩ := h
    simp only [Rep] at hy
    exact ⟨none, 0, hy, .inl rfl⟩
  · split at h
    · simp only [Option.some.injEq, Prod.mk.injEq] at h
      obtain ⟨rfl, rfl⟩ := h
      simp only [Rep] at hy
      exact ⟨none, 0, hy, .inl rfl⟩
    · cases h
  · rename_i t' l f
    split at h
    · rename_i ht
      subst ht
      simp only [Option.some.injEq, Prod.mk.injEq] at h
      obtain ⟨rfl, rfl⟩ := h
      simp only [Rep] at hy
      obtain ⟨base, cap, e1, e2, e3, e4⟩ := hy
      refine ⟨base, cap, e1, ?_⟩
      rcases e4 with e4 | ⟨b, off, arr, e4, e5, e6⟩
      · exact .inl e4
      · obtain ⟨e, fz, hh⟩ := hk.1 b arr e5
        exact .inr ⟨b, off, arr, e, fz, e4, hh, e6⟩
    · cases h
  · rename_i r f
    split at h
    · rename_i t' l g hmr
      split at h
      · rename_i ht
        subst ht
        split at h
        · cases h
        · rename_i hg
          simp only [Option.some.injEq, Prod.mk.injEq] at h
          obtain ⟨rfl, rfl⟩ := h
          simp only [Rep] at hy
          obtain ⟨hd, h1, e1, e2⟩ := hy
          have hc := hm.cont r _ g hd hmr hg h1
          refine ⟨hd.base.map fun b => ⟨b, 0, none⟩, hd.cap, by rw [e1, hc.2.1], ?_⟩
          obtain ⟨c1, c2, c3, c4⟩ := hc
          rcases c4 with ⟨c4, c5⟩ | ⟨b, cs, e, fz, g1, g2, g3, g4⟩
          · exact .inl (List.eq_nil_of_length_eq_zero (by omega))
          · exact .inr ⟨b, 0, cs, e, fz, by rw [g1]; rfl, g2, g4⟩
      · cases h
    · cases h
  · rename_i r lo len f
    split at h
    · rename_i t' l g hmr
      split at h
      · rename_i ht
        subst ht
        split at h
        · cases h
        · rename_i hg
          simp only [Option.some.injEq, Prod.mk.injEq] at h
          obtain ⟨rfl, rfl⟩ := h
          simp only [Rep] at hy
          obtain ⟨hd, cap, base, h1, e1, e2, e3, e4, e5, e6⟩ := hy
          have hc := hm.cont r _ g hd hmr hg h1
          obtain ⟨c1, c2, c3, c4⟩ := hc
          have hlen : ((l.drop lo).take len).length = len := by simp; omega
          refine ⟨base, cap, by rw [hlen]; exact e1, ?_⟩
          rcases e6 with e6 | ⟨b, e6, e7⟩
          · exact .inl (List.eq_nil_of_length_eq_zero (by omega))
          · rcases c4 with ⟨c4, c5⟩ | ⟨b', cs, e, fz, g1, g2, g3, g4⟩
            · rw [c4] at e6; cases e6
            · rw [e6] at g1; cases g1
              refine .inr ⟨b, lo * hd.sz, cs, e, fz, e7, g2, fun i hi => ?_⟩
              rw [List.getElem_take, List.getElem_drop]
              have := g4 (lo + i) (by omega)
              rw [Nat.zero_add, Nat.add_mul] at this
              rw [c1]
              exact this
      · cases h
    · cases h
  · cases h

theorem append_zero {t e ty : TypeId} (ht : P.underlying t = some (.slice e)) {i : TypeInfo} (hi : P.info? e = some i) (b b' : Option Addr) (n c c' : Nat) (h : n ≤ c) :
    (Builtin.append_ #[t, t] ty #[.slice b n c, .slice b' 0 c']).run P w = .ok (.slice b n c) w := by
  have hf : ∀ w, (Builtin.firstCells i.size 0 (.slice b' 0 c')).run P w = .ok #[] w := by
    intro w
    cases b' <;> simp [Builtin.firstCells, loadCells, loadCellsFrom]
  simp only [Builtin.append_]
  cases b <;> simp [r_under ht, r_size hi, Builtin.lenOf, h, hf, storeCells]

theorem append_room {t e ty : TypeId} (ht : P.underlying t = some (.slice e)) {i : TypeInfo} (hi : P.info? e = some i) (g n c : Nat) (cur : Array Value) (eb : TypeId) (hg : w.heap[g]? = some (.cells cur eb (0, 0)))
    (a : Addr) (mm cc : Nat) (news : List Value) (hl : news.length = mm * i.size) (hnews : ∀ j u, news[j]? = some u → w.cell? (a.add j) = some u) (h1 : ∀ u ∈ news, u.oneCell' = true)
    (hroom : n + mm ≤ c) (hfit : n * i.size + news.length ≤ cur.size) :
    ∃ w', (Builtin.append_ #[t, t] ty #[.slice (some ⟨g, 0, none⟩) n c, .slice (some a) mm cc]).run P w = .ok (.slice (some ⟨g, 0, none⟩) (n + mm) c) w' ∧ Upd w w' g (splice cur (n * i.size) news) eb := by
  have hf := run_firstCells_some (P := P) w i.size mm a mm cc news hl hnews
  obtain ⟨w', h2, h3⟩ := Abs.run_storeCells P g (n * i.size) eb news w cur 0 hg (by omega) (fun v hv => one_of' (h1 v hv))
  refine ⟨w', ?_, by simpa using h3⟩
  have hadd : (⟨g, 0, none⟩ : Addr).add (n * i.size) = ⟨g, n * i.size, none⟩ := by rw [add_none]; simp
  simp only [Builtin.append_]
  simp [r_under ht, r_size hi, Builtin.lenOf, hroom, hf, hadd, h2]

variable (hok : WOk F K w) (hm : MRel F K H w m) (hev : ∀ x, Rep K H (ev x) (ρ x)) (hfr : ∀ q, k q → ∀ i, i < q.new.length → H (nx + i) = none)
include hok hm

/-- A nil slice, as a region of one's own. -/
theorem after_nil (hf : H nx = none) (t : Ty) (full : Bool) (rs : List Nat) : ∃ H', After F K H w m nx (newSl nx t [] full rs []) (.slice none 0 0) w K H' := by
  let hd : Hd := ⟨none, t.size, 0, 0⟩
  refine ⟨upd H nx hd, .refl K, hle_upd hf, ?_, ?_, ?_, hok, .refl F w, .refl F K⟩
  · intro r h1 h2
    by_cases e' : r = nx
    · subst e'; simp [newSl]
    · rw [upd_ne _ _ _ _ e'] at h2; exact absurd h1 h2
  · simp only [Rep, newSl]
    exact ⟨hd, upd_same _ _ _, rfl, fun _ => rfl⟩
  · exact hm.new nx hf (.sl t []) hd ⟨rfl, rfl, ⟨Nat.le_refl _, Nat.zero_le _⟩, .inl ⟨rfl, rfl⟩⟩ (fun b hb => by cases hb)

omit hok hm in
theorem news_of {t : Ty} {ys : List t.den} {cs : Array Value} {b off : Nat} {e : TypeId} {fz : Nat × Nat} (hh : w.heap[b]? = some (.cells cs e fz)) (he : Elems K t ys cs off) (hne : ys ≠ []) :
    ElemsL K t ys (slab cs off (ys.length * t.size)) ∧ ∀ j u, (slab cs off (ys.length * t.size))[j]? = some u → w.cell? ((⟨b, off, none⟩ : Addr).add j) = some u := by
  refine ⟨he.elemsL (he.bound hne), fun j u hj => ?_⟩
  have hlt : j < ys.length * t.size := by
    rcases Nat.lt_or_ge j (ys.length * t.size) with h | h
    · exact h
    · rw [List.getElem?_eq_none (by simp [slab]; omega)] at hj; cases hj
  rw [slab_get hlt] at hj
  rw [add_none, heap_cell hh]
  exact hj

omit hok hm in
theorem grown_max {need old : Nat} {e : TypeId} (h : need ≤ 9223372036854775807) : grownCap w need old e ≤ 9223372036854775807 := grownCap_le_maxLen w need old e h
/-- A grown row. -/
theorem after_grown (hf : H nx = none) (e : TypeId) {t : Ty} {l : List t.den} {cs : List Value} (hl : ElemsL K t l cs) (z : Value) (hz : z.cells.size = t.size) (cap : Nat) (hcap : l.length ≤ cap) (hmax : cap ≤ 9223372036854775807) (rs : List Nat) (arr : Array Value)
    (harr : arr = cs.toArray ++ Builtin.zeroCells z.cells (cap - l.length)) : ∃ H', After F K H w m nx (newSl nx t l false rs []) (.slice (some ⟨w.heap.size, 0, none⟩) l.length cap) (w.drew.alloc (.cells arr e)) K H' := by
  have e1 : arr = (cs ++ (Builtin.zeroCells z.cells (cap - l.length)).toList).toArray := by rw [harr]; simp
  have hsz : cap * t.size ≤ (cs ++ (Builtin.zeroCells z.cells (cap - l.length)).toList).length := by
    have h2 : (Builtin.zeroCells z.cells (cap - l.length)).toList.length = (cap - l.length) * t.size := by rw [Array.length_toList, size_zeroCells, hz]
    rw [List.length_append, hl.1, h2, ← Nat.add_mul]
    exact Nat.mul_le_mul_right _ (by omega)
  obtain ⟨H', hA⟩ := after_row (nx := nx) (hok.heap (w' := w.drew) rfl) (hm.heap (w' := w.drew) rfl) hf e hl (rest := (Builtin.zeroCells z.cells (cap - l.length)).toList) cap hcap hmax hsz false (by simp) rs
  rw [e1]
  exact ⟨H', After.drew hA⟩

include hev hfr in
theorem q_buildSlice (o : Oper) {t : TypeId} {n : Nat} {ps : Array (Nat × Operand)} (ho : o.op = .buildSlice t n ps) (h : match P.underlying t with
    | some (.slice e) => (match tyOf P 8 e with
      | some ty => if zeroOk P e ty ∧ ps.size = n ∧ n * ty.size ≤ 16777216 then (match partsL P m ev e 0 ps.toList with
        | some (cells, rs) => (match wholeL ty cells with
          | some l => k (newSl nx ty l true (nums rs) (frzAll rs))
          | none => False)
        | none => False) else False
      | none => False)
    | _ => False) : Gives P F K H w m nx k ((execOp ρ o).run P w) := by
  split at h
  · rename_i e hu
    split at h
    · rename_i ty hty
      split at h
      · rename_i hz
        obtain ⟨hz1, hz2, hz3⟩ := hz
        split at h
        · rename_i cells rs hp
          split at h
          · rename_i l hl
            obtain ⟨i, v, hi, hv, hcz⟩ := zeroOk_spec hz1
            obtain ⟨i', de, hi', hsz, _, _⟩ := tyOf_info 8 e ty hty
            rw [hi] at hi'; cases hi'
            have hrs : ∀ r f, (r, f) ∈ rs → f ≠ .dead ∧ ∃ c, m r = some (c, f) ∧ c.isCells = true := by
              have : ∀ (ps : List (Nat × Operand)) (i : Nat) cells rs, partsL P m ev e i ps = some (cells, rs) → ∀ r f, (r, f) ∈ rs → f ≠ .dead ∧ ∃ c, m r = some (c, f) ∧ c.isCells = true := by
                intro ps
                induction ps with
                | nil => intro i cells rs h r f hrf; simp only [partsL, Option.some.injEq, Prod.mk.injEq] at h; obtain ⟨_, rfl⟩ := h; simp at hrf
                | cons u ps ih =>
                  intro i cells rs h r f hrf
                  obtain ⟨j, x⟩ := u
                  simp only [partsL] at h
                  split at h
                  · split at h
                    · rename_i v' r1 hv'
                      split at h
                      · rename_i as rest r2 has hrest
                        simp only [Option.some.injEq, Prod.mk.injEq] at h
                        obtain ⟨_, rfl⟩ := h
                        rcases List.mem_append.1 hrf with hh | hh
                        · exact (view_reads m 6).1 _ _ _ hv' r f hh
                        · exact ih _ _ _ hrest r f hh
                      · cases h
                    · cases h
                  · cases h
              exact this _ _ _ _ hp
            obtain ⟨hmF, _⟩ := hm.freeze hok.knows rs hrs
            obtain ⟨hokF, hfix⟩ := hok.frozen hm rs hrs
            have hB : ∀ r f hd b cs e fz, (r, f) ∈ rs → H r = some hd → hd.base = some b → w.heap[b]? = some (.cells cs e fz) → (K.plus w (bases H rs)).cells b = some cs :=
              fun r f hd b cs e fz h1 h2 h3 h4 => plus_new (bases_mem h1 h2 h3) hok.knows h4
            have hvs : v.cells.size = ty.size := by
              have := DenRep.length ty _ _ (zeroV_rep (K := K) ty)
              rw [← hcz] at this
              simpa using this
            obtain ⟨cs', rest, h1, h2, h3, h4⟩ := fill_row hm hev (K.le_plus w (bases H rs)) ps.toList 0 cells rs l ((Array.range (n * ty.size)).map fun j => (if n * ty.size = 0 then #[] else v.cells)[j % (if n * ty.size = 0 then #[] else v.cells).size]!) hp hl hB
              (by simp [hz2])
            have hn : l.length = n := by rw [h4]; simpa using hz2
            simp only [Nat.zero_mul, List.take_zero, List.nil_append] at h2
            have hfill : Instr.fill (fun i => some (i * ty.size, ty.size)) ((Array.range (n * ty.size)).map fun j => (if n * ty.size = 0 then #[] else v.cells)[j % (if n * ty.size = 0 then #[] else v.cells).size]!) (ps.map fun (i, x) => (i, ρ x)).toList = some cs' := by
              rw [← h1]; congr 1; simp
            have hrun : (Instr.buildSlice t n (ps.map fun (i, x) => (i, ρ x))).run P w = .ok (.slice (some ⟨w.heap.size, 0, none⟩) n n) (w.alloc (.cells cs' e)) := by
              simp only [Instr.buildSlice, Sem.run_bind, r_under hu, Result.andThen_ok, r_size hi, hsz]
              rw [if_neg (by omega)]
              by_cases hn0 : n * ty.size = 0
              · simp only [hn0, if_true] at hfill ⊢
                simp only [Sem.run_bind, Sem.run_pure, Result.andThen_ok, hfill, r_newRow]
              · simp only [hn0, if_false] at hfill ⊢
                simp only [Sem.run_bind, r_zero hi hv, Sem.run_pure, Result.andThen_ok, hfill, r_newRow]
            simp only [execOp, ho]
            rw [q_value hrun]
            refine gives_alloc hfr h (fun hf => ?_) (by simp [newSl])
            have harr : cs' = (rest ++ []).toArray := by
              rw [List.append_nil, ← h2]
            obtain ⟨H', hA⟩ := after_row (nx := nx) hokF hmF hf e h3 (rest := []) n (by omega) (by have := ty.size_pos; have := Nat.le_mul_of_pos_right n this; omega) (by rw [List.append_nil, h3.1, hn]; exact Nat.le_refl _) true (fun _ => hn.symm) (nums rs)
            rw [← harr, hn] at hA
            exact ⟨_, H', After.use (K.le_plus w _) hfix hA⟩
          · exact absurd h id
        · exact absurd h id
      · exact absurd h id
    · exact absurd h id
  · exact absurd h id

omit hok hm in
/-- The operands of an append. -/
theorem append_args {c : Call} {x y : Operand} {t : TypeId} (ha : c.args.toList = [x, y]) (ht : c.argTypes.toList = [t, t]) : c.args.map ρ = #[ρ x, ρ y] ∧ c.argTypes = #[t, t] := by
  refine ⟨?_, ?_⟩
  · apply Array.toList_inj.1; simp [ha]
  · apply Array.toList_inj.1; simp [ht]

include hev hfr in
theorem q_append (o : Oper) {c : Call} {x y : Operand} {t u : TypeId} (ho : o.op = .call c) (hc : c.callee = .builtin .append) (ha : c.args.toList = [x, y]) (ht : c.argTypes.toList = [t, u])
    (h : appendA P nx m t u (ev x) (ev y) k) : Gives P F K H w m nx k ((execOp ρ o).run P w) := by
  have hx := hev x
  have hy := hev y
  unfold appendA at h
  split at h
  · rename_i e e' hu hu'
    split at h
    · rename_i htu
      subst htu
      split at h
      · rename_i ty hty
        split at h
        · rename_i hz
          split at h
          · rename_i ys rs hys
            obtain ⟨i, v, hi, hv, hcz⟩ := zeroOk_spec hz.2
            obtain ⟨i', de, hi', hsz, _, _⟩ := tyOf_info 8 e ty hty
            rw [hi] at hi'; cases hi'
            have hby : i.bytes ≤ 64 := by have := hz.1; rw [hi] at this; simpa using this
            have hvs : v.cells.size = ty.size := by
              have := DenRep.length ty _ _ (zeroV_rep (K := K) ty)
              rw [← hcz] at this
              simpa using this
            obtain ⟨basey, capy, ey, hey⟩ := elemsA_rep hm hok.knows hys hy
            obtain ⟨e1, e2⟩ := append_args (ρ := ρ) ha ht
            have hbig : big = 1099511627776 := rfl
            rw [call_builtin o ho hc, e1, e2]
            simp only [builtin]
            -- a nil slice
            have nilcase : ρ x = .slice none 0 0 → ys.length ≤ big → k (newSl nx ty ys false rs []) → Gives P F K H w m nx k ((do pure (Next.value (← Builtin.append_ #[t, t] o.type #[ρ x, ρ y])) : Sem Next).run P w) := by
              intro ex hlen hk
              rw [ex, ey]
              rcases Decidable.em (ys = []) with h0 | h0
              · subst h0
                have := append_zero (P := P) (w := w) (ty := o.type) hu hi none basey 0 0 capy (Nat.le_refl _)
                rw [List.length_nil, q_value this]
                exact gives_alloc hfr hk (fun hf => ⟨K, after_nil hok hm hf ty false rs⟩) (by simp [newSl])
              · rcases hey with hey | ⟨b, off, cs, eb, fz, h1, h2, h3⟩
                · exact absurd hey h0
                · subst h1
                  obtain ⟨hel, hcell⟩ := news_of h2 h3 h0
                  have hpos : 0 < ys.length := by cases ys with | nil => exact absurd rfl h0 | cons a l => simp
                  have hmul : ys.length * i.bytes ≤ 1099511627776 * 64 := Nat.mul_le_mul (by omega) hby
                  have := run_append_nil (P := P) w t o.type e i v hu hi hv ⟨b, off, none⟩ ys.length capy _ (by rw [hel.1, hsz]) hcell hpos (by omega) (by omega)
                  rw [q_value this]
                  exact gives_alloc hfr hk (fun hf => ⟨K, after_grown hok hm hf e hel v hvs _ (grownCap_ge w _ _ _) (grown_max (by omega)) rs _ rfl⟩) (by simp [newSl])
            -- one whose capacity is its length
            have fullcase : ∀ (l : List ty.den) (base : Option Addr), ρ x = .slice base l.length l.length → (l = [] ∨ ∃ b off cs eb fz, base = some ⟨b, off, none⟩ ∧ w.heap[b]? = some (.cells cs eb fz) ∧ Elems K ty l cs off) →
                l.length + ys.length ≤ big → 0 < ys.length → ∀ rs', k (newSl nx ty (l ++ ys) false rs' []) → Gives P F K H w m nx k ((do pure (Next.value (← Builtin.append_ #[t, t] o.type #[ρ x, ρ y])) : Sem Next).run P w) := by
              intro l base ex hl hlen hpos rs' hk
              rw [ex, ey]
              have h0 : ys ≠ [] := by intro e0; rw [e0] at hpos; simp at hpos
              rcases hey with hey | ⟨b, off, cs, eb, fz, h1, h2, h3⟩
              · exact absurd hey h0
              · subst h1
                obtain ⟨hel, hcell⟩ := news_of h2 h3 h0
                have hmul : (l.length + ys.length) * i.bytes ≤ 1099511627776 * 64 := Nat.mul_le_mul (by omega) hby
                have hfit := growslice_fits (need := l.length + ys.length) (old := l.length) (bytes := i.bytes) (by omega) (by omega)
                have grow : ∀ (bx : Addr) (olds : List Value), base = some bx → ElemsL K ty l olds → (∀ j v, olds[j]? = some v → w.cell? (bx.add j) = some v) → Gives P F K H w m nx k ((do pure (Next.value (← Builtin.append_ #[t, t] o.type #[.slice base l.length l.length, .slice (some ⟨b, off, none⟩) ys.length capy])) : Sem Next).run P w) := by
                  intro bx olds hbx hol hoc
                  rw [hbx]
                  have := run_append_grow (P := P) w t o.type e i v hu hi hv bx l.length l.length olds (by rw [hol.1, hsz]) hoc ⟨b, off, none⟩ ys.length capy _ (by rw [hel.1, hsz]) hcell (by omega) (by omega) hfit
                  rw [q_value this]
                  refine gives_alloc hfr hk (fun hf => ?_) (by simp [newSl])
                  obtain ⟨H', hA⟩ := after_grown (nx := nx) hok hm hf e (hol.append hel) v hvs (grownCap w (l.length + ys.length) l.length e) (by rw [List.length_append]; exact grownCap_ge w _ _ _) (grown_max (by omega)) rs' _ rfl
                  rw [List.length_append] at hA
                  refine ⟨K, H', ?_⟩
                  have e3 : (olds ++ slab cs off (ys.length * ty.size)).toArray = olds.toArray ++ (slab cs off (ys.length * ty.size)).toArray := by simp
                  rw [e3] at hA
                  exact hA
                rcases hl with hl | ⟨b2, off2, cs2, eb2, fz2, g1, g2, g3⟩
                · subst hl
                  cases base with
                  | none =>
                    have hpos' := hpos
                    have hmul' : ys.length * i.bytes ≤ 1099511627776 * 64 := Nat.mul_le_mul (by simp at hlen; omega) hby
                    have := run_append_nil (P := P) w t o.type e i v hu hi hv ⟨b, off, none⟩ ys.length capy _ (by rw [hel.1, hsz]) hcell hpos (by simp at hlen; omega) (by omega)
                    simp only [List.length_nil]
                    rw [q_value this]
                    exact gives_alloc hfr hk (fun hf => ⟨K, after_grown hok hm hf e hel v hvs _ (grownCap_ge w _ _ _) (grown_max (by omega)) rs' _ rfl⟩) (by simp [newSl])
                  | some bx => exact grow bx [] rfl ElemsL.nil (fun j v hj => by simp at hj)
                · rcases Decidable.em (l = []) with hl0 | hl0
                  · subst hl0
                    exact grow _ [] g1 ElemsL.nil (fun j v hj => by simp at hj)
                  · obtain ⟨hel2, hcell2⟩ := news_of g2 g3 hl0
                    exact grow _ _ g1 hel2 hcell2
            split at h
            · rename_i he
              rw [he] at hx; simp only [Rep] at hx
              exact nilcase hx h.1 h.2
            · rename_i t' he
              split at h
              · rw [he] at hx; simp only [Rep] at hx
                exact nilcase hx h.1 h.2
              · exact absurd h id
            · rename_i t' l he
              split at h
              · rename_i ht'
                subst ht'
                obtain ⟨h1, h2, h3⟩ := h
                rw [he] at hx; simp only [Rep] at hx
                obtain ⟨base, cap, g1, g2, g3, g4⟩ := hx
                have g3 := g3 rfl
                subst g3
                refine fullcase l base g1 ?_ h1 h2 rs h3
                rcases g4 with g4 | ⟨b, off, arr, g4, g5, g6⟩
                · exact .inl g4
                · obtain ⟨eb, fz, hh⟩ := hok.knows.1 b arr g5
                  exact .inr ⟨b, off, arr, eb, fz, g4, hh, g6⟩
              · exact absurd h id
            · rename_i r f he
              split at h
              · rename_i t' l hmr
                split at h
                · rename_i ht'
                  subst ht'
                  obtain ⟨hlen, h⟩ := h
                  rw [he] at hx; simp only [Rep] at hx
                  obtain ⟨hd, g1, g2, g3⟩ := hx
                  have hcr := hm.cont r _ .own hd hmr (by simp) g1
                  obtain ⟨c1, c2, c3, c4⟩ := hcr
                  have hfl : flagsM m [(r, Flag.dead)] = upd m r (.sl t' l, .dead) := by simp [flagsM, flagM, hmr]
                  have hmd : MRel F K H w (flagsM m [(r, Flag.dead)]) := by
                    rw [hfl]; exact hm.flag r _ .own .dead hmr (by simp) (by simp)
                  rcases c4 with ⟨c4, c5⟩ | ⟨b, cs, eb, fz, k1, k2, k3, k4⟩
                  · -- nil
                    have hl0 : l = [] := List.eq_nil_of_length_eq_zero (by omega)
                    subst hl0
                    have hd0 : hd.len = 0 := by omega
                    rw [g2, c4, c5, hd0, ey]
                    simp only [Option.map_none]
                    rcases Decidable.em (ys = []) with h0 | h0
                    · subst h0
                      have := append_zero (P := P) (w := w) (ty := o.type) hu hi none basey 0 0 capy (Nat.le_refl _)
                      rw [List.length_nil, q_value this]
                      refine gives_alloc hfr h (fun hf => ?_) (by simp [newSl])
                      obtain ⟨H', hA⟩ := after_nil (nx := nx) hok hmd hf t' false (r :: rs)
                      exact ⟨K, H', After.use (.refl K) (.refl F K) hA⟩
                    · rcases hey with hey | ⟨b, off, cs, eb, fz, h1, h2, h3⟩
                      · exact absurd hey h0
                      · subst h1
                        obtain ⟨hel, hcell⟩ := news_of h2 h3 h0
                        have hpos : 0 < ys.length := by cases ys with | nil => exact absurd rfl h0 | cons a l => simp
                        have hmul' : ys.length * i.bytes ≤ 1099511627776 * 64 := Nat.mul_le_mul (by simp at hlen; omega) hby
                        have := run_append_nil (P := P) w t o.type e i v hu hi hv ⟨b, off, none⟩ ys.length capy _ (by rw [hel.1, hsz]) hcell hpos (by simp at hlen; omega) (by omega)
                        rw [q_value this]
                        refine gives_alloc hfr h (fun hf => ?_) (by simp [newSl])
                        obtain ⟨H', hA⟩ := after_grown (nx := nx) hok hmd hf e hel v hvs _ (grownCap_ge w ys.length 0 e) (grown_max (by simp at hlen; omega)) (r :: rs) _ rfl
                        exact ⟨K, H', After.use (.refl K) (.refl F K) hA⟩
                  · -- a row
                    obtain ⟨o1, o2, o3, ocl⟩ := hm.own r _ hd b hmr g1 k1
                    obtain ⟨cs0, e0, o4⟩ := ocl rfl
                    rw [k2] at o4
                    cases o4
                    rw [g2, k1, ey]
                    simp only [Option.map_some]
                    have hln : hd.len = l.length := c2
                    rcases Decidable.em (ys = []) with h0 | h0
                    · subst h0
                      have := append_zero (P := P) (w := w) (ty := o.type) hu hi (some ⟨b, 0, none⟩) basey hd.len hd.cap capy c3.1
                      rw [List.length_nil, q_value this]
                      refine gives_alloc hfr h (fun hf => ?_) (by simp [newSl])
                      refine ⟨K, upd H nx hd, .refl K, hle_upd hf, ?_, ?_, ?_, hok, .refl F w, .refl F K⟩
                      · intro r' q1 q2
                        by_cases e' : r' = nx
                        · subst e'; simp [newSl]
                        · rw [upd_ne _ _ _ _ e'] at q2; exact absurd q1 q2
                      · simp only [Rep, newSl]
                        exact ⟨hd, upd_same _ _ _, by rw [k1]; rfl, by simp⟩
                      · simp only [Q.mm, newSl, newM]
                        refine hmd.new nx hf _ hd ?_ (fun b' hb' => ?_)
                        · rw [List.append_nil]
                          exact ⟨c1, c2, c3, .inr ⟨b, cs, eb, (0, 0), k1, k2, k3, k4⟩⟩
                        · rw [k1] at hb'; cases hb'
                          refine ⟨o1, o2, o3, fun _ => ⟨cs, eb, k2⟩, fun r' c' hd' q1 q2 q3 => ?_⟩
                          rw [hfl] at q1
                          by_cases e' : r' = r
                          · subst e'; rw [upd_same] at q1; cases q1
                          · rw [upd_ne _ _ _ _ e'] at q1
                            exact e' (hm.inj r' r c' _ hd' hd b q1 hmr q2 g1 q3 k1)
                    · rcases hey with hey | ⟨by', offy, csy, eby, fzy, h1, h2, h3⟩
                      · exact absurd hey h0
                      · subst h1
                        obtain ⟨hel, hcell⟩ := news_of h2 h3 h0
                        by_cases hroom : hd.len + ys.length ≤ hd.cap
                        · have hfit : hd.len * i.size + (slab csy offy (ys.length * t'.size)).length ≤ cs.size := by
                            rw [hel.1, hsz, ← Nat.add_mul]
                            exact Nat.le_trans (Nat.mul_le_mul_right _ hroom) k3
                          obtain ⟨w', hr, hup⟩ := append_room (P := P) (w := w) (ty := o.type) hu hi b hd.len hd.cap cs eb k2 ⟨by', offy, none⟩ ys.length capy _ (by rw [hel.1, hsz]) hcell (elemsL_one hel) hroom hfit
                          rw [q_value hr]
                          refine gives_alloc hfr h (fun hf => ?_) (by simp [newSl])
                          let hd' : Hd := ⟨some b, t'.size, (l ++ ys).length, hd.cap⟩
                          have hkept := hup.kept (F := F) o1
                          have hold : ∀ r' c' f' hd2 b2, flagsM m [(r, Flag.dead)] r' = some (c', f') → f' ≠ .dead → H r' = some hd2 → hd2.base = some b2 → b2 ≠ b := by
                            intro r' c' f' hd2 b2 q1 q2 q3 q4 q5
                            subst q5
                            rw [hfl] at q1
                            by_cases e' : r' = r
                            · subst e'; rw [upd_same] at q1; cases q1; exact q2 rfl
                            · rw [upd_ne _ _ _ _ e'] at q1
                              cases f' with
                              | dead => exact q2 rfl
                              | own => exact e' (hm.inj r' r c' _ hd2 hd b2 q1 hmr q3 g1 q4 k1)
                              | frz =>
                                obtain ⟨cs', g⟩ := hm.frz r' c' hd2 b2 q1 q3 q4
                                rw [o2] at g; cases g
                          have hmw : MRel F K H w' (flagsM m [(r, Flag.dead)]) := hmd.world (fun r' c' f' hd2 b2 q1 q2 q3 q4 => hup.other b2 (hold r' c' f' hd2 b2 q1 q2 q3 q4))
                          have hokw : WOk F K w' := by
                            refine ⟨⟨fun b2 cs2 hc2 => ?_, fun b2 p hp => ?_⟩, fun b2 hb2 => by rw [hup.size]; exact hok.lt b2 hb2, hok.inv, hok.apart⟩
                            · obtain ⟨e2', fz2, q⟩ := hok.knows.1 b2 cs2 hc2
                              have hne : b2 ≠ b := by intro e'; subst e'; rw [o2] at hc2; cases hc2
                              exact ⟨e2', fz2, by rw [hup.other b2 hne]; exact q⟩
                            · obtain ⟨o', q, hp'⟩ := hok.knows.2 b2 p hp
                              have hne : b2 ≠ b := by intro e'; subst e'; rw [o3] at hp; cases hp
                              exact ⟨o', by rw [hup.other b2 hne]; exact q, hp'⟩
                          have hol := k4.elemsL (by
                            rw [Nat.zero_add]
                            exact Nat.le_trans (Nat.mul_le_mul_right _ (by omega)) k3)
                          have hsp : (splice cs (hd.len * i.size) (slab csy offy (ys.length * t'.size))) = (slab cs 0 (l.length * t'.size) ++ slab csy offy (ys.length * t'.size) ++ cs.toList.drop (hd.len * i.size + (slab csy offy (ys.length * t'.size)).length)).toArray := by
                            apply Array.toList_inj.1
                            rw [splice_list cs _ _ hfit]
                            simp [slab, hln, hsz]
                          refine ⟨K, upd H nx hd', .refl K, hle_upd hf, ?_, ?_, ?_, hokw, hkept, .refl F K⟩
                          · intro r' q1 q2
                            by_cases e' : r' = nx
                            · subst e'; simp [newSl]
                            · rw [upd_ne _ _ _ _ e'] at q2; exact absurd q1 q2
                          · simp only [Rep, newSl]
                            exact ⟨hd', upd_same _ _ _, by simp [hd', hln], by simp⟩
                          · simp only [Q.mm, newSl, newM]
                            refine hmw.new nx hf _ hd' ?_ (fun b' hb' => ?_)
                            · refine ⟨rfl, rfl, by simp [hd']; omega, .inr ⟨b, _, eb, (0, 0), rfl, hup.here, ?_, ?_⟩⟩
                              · rw [splice_size]; exact k3
                              · rw [hsp]
                                exact (hol.append hel).elems
                            · cases hb'
                              exact ⟨o1, o2, o3, fun _ => ⟨_, eb, hup.here⟩, fun r' c' hd2 q1 q2 q3 => hold r' c' .own hd2 b q1 (by simp) q2 q3 rfl⟩
                        · have hol := k4.elemsL (by
                            rw [Nat.zero_add]
                            exact Nat.le_trans (Nat.mul_le_mul_right _ (by omega)) k3)
                          have hoc : ∀ j u, (slab cs 0 (l.length * t'.size))[j]? = some u → w.cell? ((⟨b, 0, none⟩ : Addr).add j) = some u := by
                            intro j u hj
                            have hlt : j < l.length * t'.size := by
                              rcases Nat.lt_or_ge j (l.length * t'.size) with hh | hh
                              · exact hh
                              · rw [List.getElem?_eq_none (by simp [slab]; omega)] at hj; cases hj
                            rw [slab_get hlt] at hj
                            rw [add_none, heap_cell k2]
                            exact hj
                          have hmul : (hd.len + ys.length) * i.bytes ≤ 1099511627776 * 64 := Nat.mul_le_mul (by omega) hby
                          have hfit := growslice_fits (need := hd.len + ys.length) (old := hd.cap) (bytes := i.bytes) (by omega) (by omega)
                          have := run_append_grow (P := P) w t o.type e i v hu hi hv ⟨b, 0, none⟩ hd.len hd.cap _ (by rw [hol.1, hsz, hln]) hoc ⟨by', offy, none⟩ ys.length capy _ (by rw [hel.1, hsz]) hcell (by omega) (by omega) hfit
                          rw [q_value this]
                          refine gives_alloc hfr h (fun hf => ?_) (by simp [newSl])
                          obtain ⟨H', hA⟩ := after_grown (nx := nx) hok hmd hf e (hol.append hel) v hvs (grownCap w (hd.len + ys.length) hd.cap e) (by rw [List.length_append, ← hln]; exact grownCap_ge w _ _ _) (grown_max (by omega)) (r :: rs) _ rfl
                          refine ⟨K, H', After.use (.refl K) (.refl F K) ?_⟩
                          have e3 : (slab cs 0 (l.length * t'.size) ++ slab csy offy (ys.length * t'.size)).toArray = (slab cs 0 (l.length * t'.size)).toArray ++ (slab csy offy (ys.length * t'.size)).toArray := by simp
                          rw [e3, List.length_append, ← hln] at hA
                          rw [← hln]
                          exact hA
                · exact absurd h id
              · exact absurd h id
            · rename_i r lo len he
              split at h
              · rename_i t' l g hmr
                split at h
                · rename_i ht'
                  subst ht'
                  split at h
                  · exact absurd h id
                  · rename_i hg
                    obtain ⟨h1, h2, h3⟩ := h
                    rw [he] at hx
                    have hsub : elemsA m t' (.sub r lo len true) = some ((l.drop lo).take len, [r]) := by
                      simp [elemsA, hmr, hg]
                    obtain ⟨base, cap, q1, q2⟩ := elemsA_rep hm hok.knows hsub hx
                    simp only [Rep] at hx
                    obtain ⟨hd, cap', base', p1, p2, p3, p4, p5, p6, p7⟩ := hx
                    rw [q1] at p2
                    simp only [Value.slice.injEq] at p2
                    obtain ⟨rfl, p2, rfl⟩ := p2
                    have hcap : cap = len := p6 (by simp)
                    have q1' : ρ x = .slice base ((l.drop lo).take len).length ((l.drop lo).take len).length := by rw [q1, p2, hcap]
                    refine fullcase ((l.drop lo).take len) base q1' q2 (by rw [p2]; exact h1) h2 (r :: rs) ?_
                    exact h3
                · exact absurd h id
              · exact absurd h id
            · exact absurd h id
          · exact absurd h id
        · exact absurd h id
      · exact absurd h id
    · exact absurd h id
  · exact absurd h id
end
end Go.Abs
end

section
/- Calls by contract. -/
namespace Go.Abs

/-- A function keeps a contract, at these arguments (and the regions handed over with them). -/
def ASpec (P : Program) (f : FuncId) (args : List AVal) (AM : List Cont) (k : AVal → List Cont → Prop) : Prop :=
  ∀ (F : Nat → Prop) (K : Know) (H : Nat → Option Hd) (w : World) (vs : List Value), WOk F K w → RepL K H args vs → MRel F K H w (newM (fun _ => none) 0 AM) → (∀ r, AM.length ≤ r → H r = none) →
    Calls P f vs.toArray w (fun e w' => ∃ v r RM K' H', e = .returned v ∧ k r RM ∧ K.le K' ∧ Rep K' H' r v ∧ MRel F K' H' w' (newM (fun _ => none) 0 RM) ∧ (∀ r, RM.length ≤ r → H' r = none) ∧
      WOk F K' w' ∧ Kept F w w' ∧ Fix F K K' ∧ AM.length ≤ RM.length ∧ ∀ r, r < AM.length → H' r = H r)

/-- Every contract of the table is kept. -/
structure Good (P : Program) (Γ : Env) : Prop where
  spec : ∀ f c, Γ f = some c → ∀ as cs k, c.run as cs k → ASpec P f as cs k
  call : ∀ f c, Γ f = some c → ∀ args w, (callFunc f args).run P w = .ok (.enter f args) w

theorem newM_get : ∀ (cs : List Cont) (m : Mm) (n r : Nat), newM m n cs r = if h : n ≤ r ∧ r < n + cs.length then some (cs[r - n]'(by omega), .own) else m r
  | [], m, n, r => by
    rw [dif_neg (by simp only [List.length_nil]; omega)]; rfl
  | c :: cs, m, n, r => by
    simp only [newM]
    rw [newM_get cs]
    by_cases h : n + 1 ≤ r ∧ r < n + 1 + cs.length
    · rw [dif_pos h, dif_pos (by simp; omega)]
      have e : r - n = (r - (n + 1)) + 1 := by omega
      simp only [e, List.getElem_cons_succ]
    · rw [dif_neg h]
      by_cases hr : r = n
      · subst hr
        rw [upd_same, dif_pos (by simp)]
        simp
      · rw [upd_ne _ _ _ _ hr, dif_neg (by simp; omega)]

mutual
theorem flat_rep {K K' : Know} {H : Nat → Option Hd} : ∀ (a : AVal) (v : Value), a.flat = true → Rep K H a v → Rep K' H a v
  | .bool _, _, _, h => by simpa [Rep] using h
  | .int _ _, _, _, h => by simpa [Rep] using h
  | .reg _ _, _, _, h => by simp only [Rep] at h ⊢; exact h
  | .mref _, _, _, h => by simp only [Rep] at h ⊢; exact h
  | .agg cs, v, hf, h => by
    simp only [Rep] at h ⊢
    obtain ⟨c, h1, h2⟩ := h
    exact ⟨c, h1, flat_repL cs _ (by simpa [AVal.flat] using hf) h2⟩
  | .tup cs, v, hf, h => by
    simp only [Rep] at h ⊢
    obtain ⟨c, h1, h2⟩ := h
    exact ⟨c, h1, flat_repL cs _ (by simpa [AVal.flat] using hf) h2⟩
  | .unk, _, hf, _ => by simp [AVal.flat] at hf
  | .nilc, _, hf, _ => by simp [AVal.flat] at hf
  | .nils _, _, hf, _ => by simp [AVal.flat] at hf
  | .imm _ _ _, _, hf, _ => by simp [AVal.flat] at hf
  | .sub _ _ _ _, _, hf, _ => by simp [AVal.flat] at hf
  | .ptr _ _, _, hf, _ => by simp [AVal.flat] at hf
  | .eptr _ _ _, _, hf, _ => by simp [AVal.flat] at hf
  | .aptr _, _, hf, _ => by simp [AVal.flat] at hf
  | .iptr _, _, hf, _ => by simp [AVal.flat] at hf
  | .arrv _ _, _, hf, _ => by simp [AVal.flat] at hf
  | .fn _ _ _, _, hf, _ => by simp [AVal.flat] at hf
  | .nilfn, _, hf, _ => by simp [AVal.flat] at hf
  | .yieldv, _, hf, _ => by simp [AVal.flat] at hf
  | .sem _, _, hf, _ => by simp [AVal.flat] at hf
theorem flat_repL {K K' : Know} {H : Nat → Option Hd} : ∀ (as : List AVal) (vs : List Value), flatL as = true → RepL K H as vs → RepL K' H as vs
  | [], _, _, h => by simpa [RepL] using h
  | a :: as, vs, hf, h => by
    simp only [flatL, Bool.and_eq_true] at hf
    simp only [RepL] at h ⊢
    obtain ⟨c, cs', h1, h2, h3⟩ := h
    exact ⟨c, cs', h1, flat_rep a c hf.1 h2, flat_repL as cs' hf.2 h3⟩
end

theorem flat_den {K K' : Know} : ∀ (t : Ty) (x : t.den) (cs : List Value), t.flat = true → DenRep K t x cs → DenRep K' t x cs
  | .int _, _, _, _, h => h
  | .bool, _, _, _, h => h
  | .slice _, _, _, hf, _ => by simp [Ty.flat] at hf
  | .pair a b, _, _, hf, h => by
    simp only [Ty.flat, Bool.and_eq_true] at hf
    obtain ⟨c1, c2, h1, h2, h3⟩ := h
    exact ⟨c1, c2, h1, flat_den a _ _ hf.1 h2, flat_den b _ _ hf.2 h3⟩

mutual
theorem mapRL_length : ∀ (ρ : Nat → Nat) (as : List AVal), (mapRL ρ as).length = as.length
  | _, [] => rfl
  | ρ, a :: as => by simp [mapRL, mapRL_length ρ as]
theorem mapR_rep {K : Know} {H H' : Nat → Option Hd} {ρ : Nat → Nat} (hs : ∀ r hd, H r = some hd → H' (ρ r) = some hd) : ∀ (a : AVal) (v : Value), Rep K H a v → Rep K H' (a.mapR ρ) v
  | .unk, _, _ => by simp [Rep, AVal.mapR]
  | .bool _, _, h => by simpa [Rep, AVal.mapR] using h
  | .int _ _, _, h => by simpa [Rep, AVal.mapR] using h
  | .nilc, _, h => by simpa [Rep, AVal.mapR] using h
  | .nils _, _, h => by simpa [Rep, AVal.mapR] using h
  | .nilfn, _, h => by simpa [Rep, AVal.mapR] using h
  | .imm _ _ _, _, h => by simp only [Rep, AVal.mapR] at h ⊢; exact h
  | .arrv _ _, _, h => by simp only [Rep, AVal.mapR] at h ⊢; exact h
  | .yieldv, _, h => by simp only [Rep, AVal.mapR] at h ⊢; exact h
  | .sem _, _, h => by simp only [Rep, AVal.mapR] at h ⊢; exact h
  | .reg r f, v, h => by
    simp only [Rep, AVal.mapR] at h ⊢
    obtain ⟨hd, h1, h2⟩ := h
    exact ⟨hd, hs _ _ h1, h2⟩
  | .mref r, v, h => by
    simp only [Rep, AVal.mapR] at h ⊢
    obtain ⟨hd, b, h1, h2⟩ := h
    exact ⟨hd, b, hs _ _ h1, h2⟩
  | .sub r lo len f, v, h => by
    simp only [Rep, AVal.mapR] at h ⊢
    obtain ⟨hd, c, b, h1, h2⟩ := h
    exact ⟨hd, c, b, hs _ _ h1, h2⟩
  | .ptr r o, v, h => by
    simp only [Rep, AVal.mapR] at h ⊢
    obtain ⟨hd, b, h1, h2⟩ := h
    exact ⟨hd, b, hs _ _ h1, h2⟩
  | .eptr r i o, v, h => by
    simp only [Rep, AVal.mapR] at h ⊢
    obtain ⟨hd, b, h1, h2⟩ := h
    exact ⟨hd, b, hs _ _ h1, h2⟩
  | .aptr r, v, h => by
    simp only [Rep, AVal.mapR] at h ⊢
    obtain ⟨hd, b, h1, h2⟩ := h
    exact ⟨hd, b, hs _ _ h1, h2⟩
  | .iptr cs, v, h => by
    simp only [Rep, AVal.mapR] at h ⊢
    obtain ⟨b, off, arr, h1, h2, h3⟩ := h
    refine ⟨b, off, arr, h1, h2, ?_⟩
    rw [mapRL_length]
    exact mapR_repL hs cs _ h3
  | .agg cs, v, h => by
    simp only [Rep, AVal.mapR] at h ⊢
    obtain ⟨c, h1, h2⟩ := h
    exact ⟨c, h1, mapR_repL hs cs _ h2⟩
  | .tup cs, v, h => by
    simp only [Rep, AVal.mapR] at h ⊢
    obtain ⟨c, h1, h2⟩ := h
    exact ⟨c, h1, mapR_repL hs cs _ h2⟩
  | .fn f a b, v, h => by
    simp only [Rep, AVal.mapR] at h ⊢
    obtain ⟨fi, ca, h1, h2, h3⟩ := h
    exact ⟨fi, ca, h1, mapR_repL hs a _ h2, mapR_repL hs b _ h3⟩
theorem mapR_repL {K : Know} {H H' : Nat → Option Hd} {ρ : Nat → Nat} (hs : ∀ r hd, H r = some hd → H' (ρ r) = some hd) : ∀ (as : List AVal) (vs : List Value), RepL K H as vs → RepL K H' (mapRL ρ as) vs
  | [], _, h => by simpa [RepL, mapRL] using h
  | a :: as, vs, h => by
    simp only [RepL, mapRL] at h ⊢
    obtain ⟨c, cs', h1, h2, h3⟩ := h
    exact ⟨c, cs', h1, mapR_rep hs a c h2, mapR_repL hs as cs' h3⟩
end

theorem mapRC_length (ρ : Nat → Nat) : ∀ (cs : List Cont), (mapRC ρ cs).length = cs.length
  | [] => rfl
  | c :: cs => by simp [mapRC, mapRC_length ρ cs]
theorem mapRC_get (ρ : Nat → Nat) : ∀ (cs : List Cont) (i : Nat) (h : i < cs.length), (mapRC ρ cs)[i]'(by rw [mapRC_length]; exact h) = cs[i].mapR ρ
  | [], i, h => by simp at h
  | c :: cs, 0, h => rfl
  | c :: cs, i + 1, h => by simp only [mapRC, List.getElem_cons_succ]; exact mapRC_get ρ cs i (by simpa using h)
theorem shiftC_length (n : Nat) (cs : List Cont) : (shiftC n cs).length = cs.length := mapRC_length _ cs
theorem shiftC_get (n : Nat) (cs : List Cont) (i : Nat) (h : i < cs.length) : (shiftC n cs)[i]'(by rw [shiftC_length]; exact h) = cs[i].shift n := mapRC_get _ cs i h

mutual
/-- A value without references to regions is one whatever the regions. -/
theorem noM_rep {K : Know} {H H' : Nat → Option Hd} : ∀ (a : AVal) (v : Value), a.noM = true → Rep K H a v → Rep K H' a v
  | .unk, _, _, _ => by simp [Rep]
  | .bool _, _, _, h => by simpa [Rep] using h
  | .int _ _, _, _, h => by simpa [Rep] using h
  | .nilc, _, _, h => by simpa [Rep] using h
  | .nils _, _, _, h => by simpa [Rep] using h
  | .nilfn, _, _, h => by simpa [Rep] using h
  | .imm _ _ _, _, _, h => by simp only [Rep] at h ⊢; exact h
  | .arrv _ _, _, _, h => by simp only [Rep] at h ⊢; exact h
  | .yieldv, _, _, h => by simp only [Rep] at h ⊢; exact h
  | .sem _, _, _, h => by simp only [Rep] at h ⊢; exact h
  | .reg _ _, _, hn, _ => by simp [AVal.noM] at hn
  | .mref _, _, hn, _ => by simp [AVal.noM] at hn
  | .sub _ _ _ _, _, hn, _ => by simp [AVal.noM] at hn
  | .ptr _ _, _, hn, _ => by simp [AVal.noM] at hn
  | .eptr _ _ _, _, hn, _ => by simp [AVal.noM] at hn
  | .aptr _, _, hn, _ => by simp [AVal.noM] at hn
  | .iptr cs, v, hn, h => by
    simp only [Rep] at h ⊢
    obtain ⟨b, off, arr, h1, h2, h3⟩ := h
    exact ⟨b, off, arr, h1, h2, noML_rep cs _ (by simpa [AVal.noM] using hn) h3⟩
  | .agg cs, v, hn, h => by
    simp only [Rep] at h ⊢
    obtain ⟨c, h1, h2⟩ := h
    exact ⟨c, h1, noML_rep cs _ (by simpa [AVal.noM] using hn) h2⟩
  | .tup cs, v, hn, h => by
    simp only [Rep] at h ⊢
    obtain ⟨c, h1, h2⟩ := h
    exact ⟨c, h1, noML_rep cs _ (by simpa [AVal.noM] using hn) h2⟩
  | .fn f a b, v, hn, h => by
    simp only [AVal.noM, Bool.and_eq_true] at hn
    simp only [Rep] at h ⊢
    obtain ⟨fi, ca, h1, h2, h3⟩ := h
    exact ⟨fi, ca, h1, noML_rep a _ hn.1 h2, noML_rep b _ hn.2 h3⟩
theorem noML_rep {K : Know} {H H' : Nat → Option Hd} : ∀ (as : List AVal) (vs : List Value), noML as = true → RepL K H as vs → RepL K H' as vs
  | [], _, _, h => by simpa [RepL] using h
  | a :: as, vs, hn, h => by
    simp only [noML, Bool.and_eq_true] at hn
    simp only [RepL] at h ⊢
    obtain ⟨c, cs', h1, h2, h3⟩ := h
    exact ⟨c, cs', h1, noM_rep a c hn.1 h2, noML_rep as cs' hn.2 h3⟩
end

theorem flatC_get : ∀ (cs : List Cont) (i : Nat) (h : i < cs.length), flatC cs = true → flatC [cs[i]] = true
  | [], i, h, _ => by simp at h
  | .sl t l :: cs, 0, h, hf => by simp only [flatC, Bool.and_eq_true, List.getElem_cons_zero] at hf ⊢; exact ⟨hf.1, trivial⟩
  | .box c :: cs, 0, h, hf => by simp only [flatC, Bool.and_eq_true, List.getElem_cons_zero] at hf ⊢; exact ⟨hf.1, trivial⟩
  | .mp mk l clk :: cs, 0, h, hf => by simp [flatC]
  | .it m a b c :: cs, _, h, hf => by simp [flatC] at hf
  | .sl t l :: cs, i + 1, h, hf => by
    simp only [flatC, Bool.and_eq_true] at hf
    simp only [List.getElem_cons_succ]
    exact flatC_get cs i (by simpa using h) hf.2
  | .box c :: cs, i + 1, h, hf => by
    simp only [flatC, Bool.and_eq_true] at hf
    simp only [List.getElem_cons_succ]
    exact flatC_get cs i (by simpa using h) hf.2
  | .mp mk l clk :: cs, i + 1, h, hf => by
    simp only [flatC] at hf
    simp only [List.getElem_cons_succ]
    exact flatC_get cs i (by simpa using h) hf

theorem cont_mapR {K : Know} {H H' : Nat → Option Hd} {w : World} {ρ : Nat → Nat} {hd : Hd} {c : Cont} (hs : ∀ r hd, H r = some hd → H' (ρ r) = some hd) (h : ContRel K H w hd c) : ContRel K H' w hd (c.mapR ρ) := by
  cases c with
  | box cells =>
    obtain ⟨b, cs, e, fz, h1, h2, h3⟩ := h
    exact ⟨b, cs, e, fz, h1, h2, mapR_repL hs cells _ h3⟩
  | sl t l => exact h
  | mp mk l clk => exact h
  | it m since seen last =>
    obtain ⟨h1, h2, h3, b, mb, h4, h5, h6⟩ := h
    refine ⟨h1, h2, h3, b, mb, h4, h5, fun r hr => ?_⟩
    cases m with
    | none => cases hr
    | some r0 =>
      cases hr
      obtain ⟨hm, g1, g2⟩ := h6 r0 rfl
      exact ⟨hm, hs _ _ g1, g2⟩
theorem cont_shift {K : Know} {H H' : Nat → Option Hd} {w : World} {n : Nat} {hd : Hd} {c : Cont} (hs : ∀ r hd, H r = some hd → H' (r + n) = some hd) (h : ContRel K H w hd c) : ContRel K H' w hd (c.shift n) := cont_mapR hs h
theorem isCells_mapR (c : Cont) (ρ : Nat → Nat) : (c.mapR ρ).isCells = c.isCells := by cases c <;> rfl
theorem cont_flat {K K' : Know} {H : Nat → Option Hd} {w : World} {hd : Hd} {c : Cont} (hf : flatC [c] = true) (h : ContRel K H w hd c) : ContRel K' H w hd c := by
  cases c with
  | box cells =>
    obtain ⟨b, cs, e, fz, h1, h2, h3⟩ := h
    exact ⟨b, cs, e, fz, h1, h2, flat_repL cells _ (by simpa [flatC] using hf) h3⟩
  | sl t l =>
    obtain ⟨h1, h2, h3, h4⟩ := h
    refine ⟨h1, h2, h3, ?_⟩
    rcases h4 with h4 | ⟨b, cs, e, fz, g1, g2, g3, g4⟩
    · exact .inl h4
    · exact .inr ⟨b, cs, e, fz, g1, g2, g3, fun i hi => flat_den t _ _ (by simpa [flatC] using hf) (g4 i hi)⟩
  | mp mk l clk => exact h
  | it m a b c => simp [flatC] at hf

/-- The caller's handles and those of what came back. -/
def hjoin (H HR : Nat → Option Hd) (n len : Nat) : Nat → Option Hd := fun r => if n ≤ r ∧ r < n + len then HR (r - n) else H r

section
variable {P : Program} {F : Nat → Prop} {K : Know} {H : Nat → Option Hd} {w : World} {m : Mm} {nx : Nat}

theorem hjoin_shift {HR : Nat → Option Hd} {n len : Nat} (hz : ∀ r, len ≤ r → HR r = none) : ∀ r hd, HR r = some hd → hjoin H HR n len (r + n) = some hd := by
  intro r hd h
  have hlt : r < len := by
    rcases Nat.lt_or_ge r len with h' | h'
    · exact h'
    · rw [hz r h'] at h; cases h
  simp only [hjoin]
  rw [if_pos (by omega)]
  simpa using h
theorem hle_hjoin {HR : Nat → Option Hd} {n len : Nat} (hf : ∀ i, i < len → H (n + i) = none) : HLe H (hjoin H HR n len) := by
  intro r hd h
  simp only [hjoin]
  by_cases hc : n ≤ r ∧ r < n + len
  · have := hf (r - n) (by omega)
    rw [show n + (r - n) = r by omega] at this
    rw [this] at h; cases h
  · rw [if_neg hc]; exact h

/-- The caller's regions and those of what came back, side by side. -/
theorem MRel.join {HR : Nat → Option Hd} {RM : List Cont} (h : MRel F K H w m) (hR : MRel F K HR w (newM (fun _ => none) 0 RM)) (hz : ∀ r, RM.length ≤ r → HR r = none) (hf : ∀ i, i < RM.length → H (nx + i) = none)
    {N : Nat} (hold : ∀ r c f hd b, m r = some (c, f) → f ≠ .dead → H r = some hd → hd.base = some b → b < N) (hnew : ∀ r c hd b, newM (fun _ => none) 0 RM r = some (c, .own) → HR r = some hd → hd.base = some b → N ≤ b) :
    MRel F K (hjoin H HR nx RM.length) w (newM m nx (shiftC nx RM)) := by
  have hsh := hjoin_shift (H := H) (n := nx) hz
  have hle : HLe H (hjoin H HR nx RM.length) := hle_hjoin hf
  have look : ∀ {r c f hd}, newM m nx (shiftC nx RM) r = some (c, f) → hjoin H HR nx RM.length r = some hd →
      (∃ c0, nx ≤ r ∧ r < nx + RM.length ∧ newM (fun _ => none) 0 RM (r - nx) = some (c0, .own) ∧ c = c0.shift nx ∧ f = .own ∧ HR (r - nx) = some hd) ∨ (¬ (nx ≤ r ∧ r < nx + RM.length) ∧ m r = some (c, f) ∧ H r = some hd) := by
    intro r c f hd h1 h2
    rw [newM_get] at h1
    simp only [hjoin] at h2
    by_cases hc : nx ≤ r ∧ r < nx + RM.length
    · rw [dif_pos (by rw [shiftC_length]; exact hc)] at h1
      rw [if_pos hc] at h2
      simp only [Option.some.injEq, Prod.mk.injEq] at h1
      refine .inl ⟨RM[r - nx]'(by omega), hc.1, hc.2, ?_, ?_, h1.2.symm, h2⟩
      · rw [newM_get, dif_pos (by omega)]; simp
      · rw [← h1.1, shiftC_get]
    · rw [dif_neg (by rw [shiftC_length]; exact hc)] at h1
      rw [if_neg hc] at h2
      exact .inr ⟨hc, h1, h2⟩
  refine ⟨?_, ?_, ?_, ?_⟩
  · intro r c f hd h1 h2 h3
    rcases look h1 h3 with ⟨c0, _, _, g1, rfl, _, g2⟩ | ⟨_, g1, g2⟩
    · exact cont_shift hsh (hR.cont _ c0 .own hd g1 (by simp) g2)
    · exact (h.cont r c f hd g1 h2 g2).mono (.refl K) hle (fun _ _ => rfl)
  · intro r c hd b h1 h2 h3
    rcases look h1 h2 with ⟨c0, _, _, g1, rfl, _, g2⟩ | ⟨_, g1, g2⟩
    · obtain ⟨k1, k2, k3, k4⟩ := hR.own _ c0 hd b g1 g2 h3
      exact ⟨k1, k2, k3, fun hc => k4 (by rw [← hc]; exact (isCells_mapR c0 _).symm)⟩
    · exact h.own r c hd b g1 g2 h3
  · intro r c hd b h1 h2 h3
    rcases look h1 h2 with ⟨c0, _, _, g1, rfl, g, g2⟩ | ⟨_, g1, g2⟩
    · cases g
    · exact h.frz r c hd b g1 g2 h3
  · intro r1 r2 c1 c2 hd1 hd2 b h1 h2 h3 h4 h5 h6
    rcases look h1 h3 with ⟨d1, q1, q1', g1, rfl, _, g2⟩ | ⟨q1, g1, g2⟩
    · rcases look h2 h4 with ⟨d2, q2, q2', g3, rfl, _, g4⟩ | ⟨q2, g3, g4⟩
      · have := hR.inj _ _ d1 d2 hd1 hd2 b g1 g3 g2 g4 h5 h6
        omega
      · have a1 := hnew _ d1 hd1 b g1 g2 h5
        have a2 := hold r2 c2 .own hd2 b g3 (by simp) g4 h6
        omega
    · rcases look h2 h4 with ⟨d2, q2, q2', g3, rfl, _, g4⟩ | ⟨q2, g3, g4⟩
      · have a1 := hnew _ d2 hd2 b g3 g4 h6
        have a2 := hold r1 c1 .own hd1 b g1 (by simp) g2 h5
        omega
      · exact h.inj r1 r2 c1 c2 hd1 hd2 b g1 g3 g2 g4 h5 h6

variable {k : Q → Prop} {ev : Operand → AVal} {ρ : Operand → Value} {Γ : Env}

theorem typedL_rep (P : Program) : ∀ (ts : List TypeId) (as : List AVal) (vs : List Value), RepL K H as vs → RepL K H (typedL P ts as) vs
  | [], as, vs, h => by cases as <;> simpa [typedL] using h
  | t :: ts, [], vs, h => by simpa [typedL] using h
  | t :: ts, a :: as, vs, h => by
    obtain ⟨c, cs, rfl, h1, h2⟩ := h.inv
    exact .cons (typed_rep h1) (typedL_rep P ts as cs h2)

theorem q_call (hG : Good P Γ) (hok : WOk F K w) (hm : MRel F K H w m) (hev : ∀ x, Rep K H (ev x) (ρ x)) (hfr : ∀ q, k q → ∀ i, i < q.new.length → H (nx + i) = none)
    (o : Oper) {c : Call} {g : Operand} {f : FuncId} {first cap : List AVal} (ho : o.op = .call c) (hc : c.callee = .value g) (hg : ev g = .fn (.func f) first cap)
    (h : callA Γ nx m f (first ++ typedL P c.argTypes.toList (c.args.toList.map ev) ++ cap) k) : Gives P F K H w m nx k ((execOp ρ o).run P w) := by
  unfold callA at h
  split at h
  · rename_i vs rs ct hv hct
    split at h
    rotate_left
    · exact h.elim
    rename_i hnm
    have hgv := hev g
    rw [hg] at hgv
    simp only [Rep] at hgv
    obtain ⟨fi, ca, e1, h1, h2⟩ := hgv
    have hargs : RepL K H (first ++ typedL P c.argTypes.toList (c.args.toList.map ev) ++ cap) (fi ++ c.args.map ρ ++ ca).toList := by
      have := RepL.append (RepL.append h1 (typedL_rep P c.argTypes.toList _ _ (repL_map hev c.args.toList))) h2
      simpa using this
    have hrun : (execOp ρ o).run P w = .ok (.enter f (fi ++ c.args.map ρ ++ ca)) w := by
      simp only [execOp, ho, resolve, hc, e1, Deferred.ofValue, Sem.run_bind, Sem.run_pure, Result.andThen_ok, invoke]
      exact hG.call f ct hct _ _
    rw [hrun]
    refine ⟨rfl, ?_⟩
    have hrs : ∀ r f, (r, f) ∈ rs → f ≠ .dead ∧ ∃ c, m r = some (c, f) ∧ c.isCells = true := (view_reads m 6).2 _ _ _ hv
    let Kp := K.plus w (bases H rs)
    have hB : ∀ r f hd b cs e fz, (r, f) ∈ rs → H r = some hd → hd.base = some b → w.heap[b]? = some (.cells cs e fz) → Kp.cells b = some cs :=
      fun r f hd b cs e fz h1 h2 h3 h4 => plus_new (bases_mem h1 h2 h3) hok.knows h4
    have hvs := noML_rep (H' := fun _ => none) _ _ hnm.1 ((view_rep hm (K.le_plus w (bases H rs)) H (.refl H) 6).2 _ _ _ _ hv hB hargs).1
    obtain ⟨hokF, hfix⟩ := hok.frozen hm rs hrs
    obtain ⟨hmF, _⟩ := hm.freeze hok.knows rs hrs
    let Fc : Nat → Prop := fun b => b < w.heap.size ∧ K.inv b = none
    have hFc : ∀ b, F b → Fc b := fun b hb => ⟨hok.lt b hb, by
      cases hi : K.inv b with
      | none => rfl
      | some p => exact absurd hb (hok.inv b p hi)⟩
    have hinvc : ∀ b p, Kp.inv b = some p → ¬ Fc b := by
      intro b p hp hb
      have h1 : K.inv b = some p := hp
      rw [hb.2] at h1; cases h1
    have hokc : WOk Fc Kp w := ⟨hokF.knows, fun b hb => hb.1, hinvc, hokF.apart⟩
    have hm0 : MRel Fc Kp (fun _ => none) w (newM (fun _ => none) 0 []) := by
      refine ⟨?_, ?_, ?_, ?_⟩
      · intro r c f hd h; cases h
      · intro r c hd b h; cases h
      · intro r c hd b h; cases h
      · intro r r' c c' hd hd' b h; cases h
    have hspec := hG.spec f ct hct vs [] _ h Fc Kp (fun _ => none) w (fi ++ c.args.map ρ ++ ca).toList hokc hvs hm0 (fun _ _ => rfl)
    rw [show (fi ++ c.args.map ρ ++ ca).toList.toArray = fi ++ c.args.map ρ ++ ca from rfl] at hspec
    refine Calls.mono hspec ?_
    rintro e w' ⟨v, r, RM, K', HR, rfl, hk, hle, hrep, hmR, hz, hok', hkept, hfix', _⟩
    have hf : ∀ i, i < RM.length → H (nx + i) = none := fun i hi => hfr _ hk i (by simpa [shiftC_length] using hi)
    have hsh := hjoin_shift (H := H) (n := nx) hz
    have hreg_inv : ∀ r c f hd b, m r = some (c, f) → f ≠ .dead → H r = some hd → hd.base = some b → Fc b := by
      intro r c f hd b q1 q2 q3 q4
      refine ⟨base_lt hm q1 q2 q3 q4, ?_⟩
      cases f with
      | dead => exact absurd rfl q2
      | own => exact (hm.own r c hd b q1 q3 q4).2.2.1
      | frz =>
        obtain ⟨cs, g⟩ := hm.frz r c hd b q1 q3 q4
        cases hi : K.inv b with
        | none => rfl
        | some p => have := hok.apart b p hi; rw [g] at this; cases this
    have hnewb : ∀ r c hd b, newM (fun _ => none) 0 RM r = some (c, .own) → HR r = some hd → hd.base = some b → w.heap.size ≤ b := by
      intro r c hd b q1 q2 q3
      obtain ⟨g1, g2, g3, g4⟩ := hmR.own r c hd b q1 q2 q3
      rcases Nat.lt_or_ge b w.heap.size with h' | h'
      · refine absurd ⟨h', ?_⟩ g1
        cases hi : K.inv b with
        | none => rfl
        | some p =>
          have := hle.inv b p hi
          rw [g3] at this; cases this
      · exact h'
    have hkeptF : Kept F w w' := hkept.mono hFc
    have hnew : ∀ r', H r' = none → hjoin H HR nx RM.length r' ≠ none → nx ≤ r' ∧ r' < nx + (shiftC nx RM).length := by
      intro r' q1 q2
      simp only [hjoin] at q2
      by_cases hcnd : nx ≤ r' ∧ r' < nx + RM.length
      · rw [shiftC_length]; exact hcnd
      · rw [if_neg hcnd] at q2; exact absurd q1 q2
    by_cases hfl : (r.flat && flatC RM) = true
    · -- what came back holds no part of what was handed over
      rw [if_pos hfl] at hk
      simp only [Bool.and_eq_true] at hfl
      have hmR' : MRel F K HR w' (newM (fun _ => none) 0 RM) := by
        refine ⟨?_, ?_, ?_, ?_⟩
        · intro r' c' f' hd q1 q2 q3
          refine cont_flat ?_ (hmR.cont r' c' f' hd q1 q2 q3)
          rw [newM_get] at q1
          split at q1
          · rename_i hcc
            simp only [Option.some.injEq, Prod.mk.injEq] at q1
            rw [← q1.1]
            exact flatC_get RM _ _ hfl.2
          · cases q1
        · intro r' c' hd b q1 q2 q3
          obtain ⟨g1, g2, g3, g4⟩ := hmR.own r' c' hd b q1 q2 q3
          refine ⟨fun hb => g1 (hFc b hb), ?_, ?_, g4⟩
          · cases hcc : K.cells b with
            | none => rfl
            | some cs =>
              have := hle.cells b cs ((K.le_plus w _).cells b cs hcc)
              rw [g2] at this; cases this
          · cases hi : K.inv b with
            | none => rfl
            | some p => have := hle.inv b p hi; rw [g3] at this; cases this
        · intro r' c' hd b q1 q2 q3
          rw [newM_get] at q1
          split at q1
          · cases q1
          · cases q1
        · exact hmR.inj
      have hokw : WOk F K w' := by
        refine ⟨⟨fun b cs hb => hok'.knows.1 b cs (hle.cells b cs ((K.le_plus w _).cells b cs hb)), fun b p hb => hok'.knows.2 b p (hle.inv b p hb)⟩, fun b hb => Nat.lt_of_lt_of_le (hok.lt b hb) hkept.size, hok.inv, hok.apart⟩
      have hmw : MRel F K H w' m := hm.world (fun r' c' f' hd b q1 q2 q3 q4 => hkept.block b (hreg_inv r' c' f' hd b q1 q2 q3 q4))
      refine ⟨v, _, K, hjoin H HR nx RM.length, rfl, hk, .refl K, hle_hjoin hf, hnew, mapR_rep hsh r v (flat_rep r v hfl.1 hrep), ?_, hokw, hkeptF, .refl F K⟩
      exact hmw.join hmR' hz hf (fun r' c' f' hd b q1 q2 q3 q4 => (hreg_inv r' c' f' hd b q1 q2 q3 q4).1) hnewb
    · rw [if_neg hfl] at hk
      have hownF : ∀ r' c' hd b, flagsM m (frzAll rs) r' = some (c', .own) → H r' = some hd → hd.base = some b → Fc b := by
        intro r' c' hd b q1 q2 q3
        rw [frz_get] at q1
        cases hmr : m r' with
        | none => rw [hmr] at q1; cases q1
        | some x =>
          obtain ⟨c2, g2⟩ := x
          rw [hmr] at q1
          simp only [Option.some.injEq, Prod.mk.injEq] at q1
          refine hreg_inv r' c2 g2 hd b hmr ?_ q2 q3
          intro e
          subst e
          have := q1.2
          split at this
          · cases this
          · cases this
      have hmw : MRel F Kp H w' (flagsM m (frzAll rs)) := hmF.world (fun r' c' f' hd b q1 q2 q3 q4 => by
        refine hkept.block b ?_
        rw [frz_get] at q1
        cases hmr : m r' with
        | none => rw [hmr] at q1; cases q1
        | some x =>
          obtain ⟨c2, g2⟩ := x
          rw [hmr] at q1
          simp only [Option.some.injEq, Prod.mk.injEq] at q1
          refine hreg_inv r' c2 g2 hd b hmr ?_ q3 q4
          intro e
          subst e
          by_cases hmem : (r', Flag.own) ∈ rs
          · obtain ⟨_, c3, hc3, _⟩ := hrs r' _ hmem
            rw [hmr] at hc3; cases hc3
          · rw [if_neg hmem] at q1
            exact q2 q1.2.symm)
      have hmk : MRel F K' H w' (flagsM m (frzAll rs)) := hmw.know hle (fun r' c' hd b q1 q2 q3 => by
        have hb := hownF r' c' hd b q1 q2 q3
        obtain ⟨_, g2, g3, _⟩ := hmw.own r' c' hd b q1 q2 q3
        have := hfix' b hb
        rw [g2, g3] at this
        exact this)
      have hmR' : MRel F K' HR w' (newM (fun _ => none) 0 RM) := by
        refine ⟨hmR.cont, ?_, hmR.frz, hmR.inj⟩
        intro r' c' hd b q1 q2 q3
        obtain ⟨g1, g2, g3, g4⟩ := hmR.own r' c' hd b q1 q2 q3
        exact ⟨fun hb => g1 (hFc b hb), g2, g3, g4⟩
      have hokw : WOk F K' w' := by
        refine ⟨hok'.knows, fun b hb => Nat.lt_of_lt_of_le (hok.lt b hb) hkept.size, fun b p hb hF => hok'.inv b p hb (hFc b hF), hok'.apart⟩
      have hfixF : Fix F K K' := fun b hb => by
        have h1 := hfix b hb
        have h2 := hfix' b (hFc b hb)
        exact ⟨h2.1.trans h1.1, h2.2.trans h1.2⟩
      refine ⟨v, _, K', hjoin H HR nx RM.length, rfl, hk, (K.le_plus w _).trans hle, hle_hjoin hf, hnew, mapR_rep hsh r v hrep, ?_, hokw, hkeptF, hfixF⟩
      refine hmk.join hmR' hz hf (N := w.heap.size) (fun r' c' f' hd b q1 q2 q3 q4 => ?_) hnewb
      rcases Nat.lt_or_ge b w.heap.size with h' | h'
      · exact h'
      · exfalso
        rw [frz_get] at q1
        cases hmr : m r' with
        | none => rw [hmr] at q1; cases q1
        | some x =>
          obtain ⟨c2, g2⟩ := x
          rw [hmr] at q1
          simp only [Option.some.injEq, Prod.mk.injEq] at q1
          have : Fc b := by
            refine hreg_inv r' c2 g2 hd b hmr ?_ q3 q4
            intro e
            subst e
            by_cases hmem : (r', Flag.own) ∈ rs
            · obtain ⟨_, c3, hc3, _⟩ := hrs r' _ hmem
              rw [hmr] at hc3; cases hc3
            · rw [if_neg hmem] at q1
              exact q2 q1.2.symm
          have := this.1
          omega
  · exact absurd h id
end
end Go.Abs
end

section
/- Memories: what their operations do. -/
namespace Go.Abs
section
variable {P : Program} {w : World}

theorem memoT_spec {t : TypeId} (h : memoT P t = true) : ∃ kt vt f i kd, P.underlying t = some (.map kt vt) ∧ P.underlying kt = some (.struct #[f]) ∧ f.offset = 0 ∧ f.name ≠ "_" ∧ P.underlying f.type = some (.int kd) ∧ P.info? vt = some i ∧ i.zero = some (.int .i64 0) ∧ intsT P kt 1 = true := by
  unfold memoT at h
  split at h
  · rename_i kt vt ht
    simp only [Bool.and_eq_true] at h
    obtain ⟨⟨h1, h2⟩, h3⟩ := h
    split at h2
    · rename_i fs hfs
      obtain ⟨l⟩ := fs
      unfold oneInt at h2
      split at h2
      · rename_i f hf
        simp only [Bool.and_eq_true, decide_eq_true_eq] at h2
        obtain ⟨⟨a1, a2⟩, a3⟩ := h2
        split at a3
        · rename_i kd hk
          split at h3
          · rename_i i hi
            split at h3
            · rename_i hz
              simp only at hf
              subst hf
              exact ⟨kt, vt, f, i, kd, ht, hfs, a1, a2, hk, hi, hz, h1⟩
            · cases h3
          · cases h3
        · cases a3
      · cases h2
    · cases h2
  · cases h

theorem run_checkKey_n {kt : TypeId} {f : Field} {kd : IntKind} (hu : P.underlying kt = some (.struct #[f])) (ho : f.offset = 0) (hn : f.name ≠ "_") (hf : P.underlying f.type = some (.int kd)) (em : Bool) (a : Int) (n : Nat) :
    (Instr.checkKey em (n + 1 + 1) kt (.agg #[.int .i64 a])).run P w = .ok () w := by
  have hag : aggT P f.type = false := by simp [aggT, hf]
  have p1 : (part f.type #[.int .i64 a] f.offset).run P w = .ok (.int .i64 a) w := by
    simp only [part, Sem.run_bind, r_isAgg hf, Result.andThen_ok, hag, ho]
    simp
  have c1 : (Instr.checkKey em (n + 1) f.type (.int .i64 a)).run P w = .ok () w := by
    simp [Instr.checkKey, run_underlying hf]
  rw [Instr.checkKey]
  simp [run_underlying hu, hn, Sem.run_bind, p1, c1]
theorem run_checkKey_one {kt : TypeId} {f : Field} {kd : IntKind} (hu : P.underlying kt = some (.struct #[f])) (ho : f.offset = 0) (hn : f.name ≠ "_") (hf : P.underlying f.type = some (.int kd)) (em : Bool) (a : Int) :
    (Instr.checkKey em 10000 kt (.agg #[.int .i64 a])).run P w = .ok () w := run_checkKey_n hu ho hn hf em a 9998

theorem run_equal_one {kt : TypeId} (hT : intsT P kt 1 = true) (a b : Int) : (Op.equal kt (.agg #[.int .i64 a]) (.agg #[.int .i64 b])).run P w = .ok (a == b) w := by
  unfold intsT at hT
  split at hT
  · rename_i fs hu
    simp only [Bool.and_eq_true, Bool.not_eq_true', decide_eq_true_eq] at hT
    obtain ⟨⟨⟨g1, g2⟩, g3⟩, g4⟩ := hT
    have hfo : P.fieldsOf kt = fs := by simp [Program.fieldsOf, hu]
    have heq := eqFields_ints (P := P) (w := w) 9998 #[.int .i64 a] #[.int .i64 b] fs.toList 0 [(.i64, a, b)] g4 (by simpa using g1) (by simp) (by simp)
    unfold Op.equal Op.maxDepth
    rw [run_equalIn_struct w 9999 kt _ _ (by rw [hfo]; exact hu) g2, hfo, heq]
    simp
  · cases hT

theorem run_find_one {kt : TypeId} (hT : intsT P kt 1 = true) {spec : Int → Int} (a : Int) : ∀ (es : List MapEntry) (i : Nat), (∀ e ∈ es, ∃ a, e.key = .agg #[.int .i64 a] ∧ e.val = .int .i64 (spec a)) →
    (Instr.findAsking kt (.agg #[.int .i64 a]) es i).run P w = .ok none w ∨ ∃ j e, (Instr.findAsking kt (.agg #[.int .i64 a]) es i).run P w = .ok (some (i + j, .int .i64 (spec a))) w ∧ es[j]? = some e ∧ e.key = .agg #[.int .i64 a]
  | [], i, _ => .inl (by simp [Instr.findAsking])
  | e :: es, i, h => by
    obtain ⟨b, hk, hv⟩ := h e (by simp)
    unfold Instr.findAsking
    rw [hk]
    simp only [Sem.run_bind, run_equal_one hT, Result.andThen_ok]
    cases hab : (a == b) with
    | true =>
      have : a = b := by simpa using hab
      subst this
      exact .inr ⟨0, e, by simp [hv], rfl, hk⟩
    | false =>
      rcases run_find_one hT a es (i + 1) (fun e he => h e (List.mem_cons_of_mem _ he)) with h1 | ⟨j, e', h1, h2, h3⟩
      · exact .inl (by simpa using h1)
      · exact .inr ⟨j + 1, e', by simpa [Nat.add_assoc, Nat.add_comm 1 j] using h1, by simpa using h2, h3⟩

theorem run_findKey_one {kt : TypeId} {f : Field} (hu : P.underlying kt = some (.struct #[f])) (x : Value) (es : List MapEntry) : (Instr.findKey kt x es).run P w = (Instr.findAsking kt x es).run P w :=
  run_findKey_eq w (by simp [hu]) x es

theorem run_getMap {b : Nat} {es : Array MapEntry} {clock : Nat} (h : w.heap[b]? = some (.map es clock)) : (getObj b).run P w = .ok (.map es clock) w := by
  simp [getObj, Sem.run, h]

theorem run_lookup_one {t : TypeId} (hT : memoT P t = true) {spec : Int → Int} {b : Nat} {o : Obj} (hb : w.heap[b]? = some o) (ho : MemoObj spec o) (a : Int) :
    ∃ hit : Bool, ∀ w2 : World, w2.heap = w.heap → (Instr.lookup t (.map (some b)) (.agg #[.int .i64 a]) true).run P w2 = .ok (.tuple #[.int .i64 (cond hit (spec a) 0), .bool hit]) w2 := by
  obtain ⟨kt, vt, f, i, kd, h1, h2, h3, h4, h5, h6, h7, h8⟩ := memoT_spec hT
  obtain ⟨es, clock, rfl, hes⟩ := ho
  have key : ∀ (hit : Bool), (∀ w2 : World, (Instr.findAsking kt (.agg #[.int .i64 a]) es.toList).run P w2 = .ok none w2 ∧ hit = false ∨ (∃ j, (Instr.findAsking kt (.agg #[.int .i64 a]) es.toList).run P w2 = .ok (some (j, .int .i64 (spec a))) w2) ∧ hit = true) →
      ∀ w2 : World, w2.heap = w.heap → (Instr.lookup t (.map (some b)) (.agg #[.int .i64 a]) true).run P w2 = .ok (.tuple #[.int .i64 (cond hit (spec a) 0), .bool hit]) w2 := by
    intro hit hh w2 hw
    have hb2 : w2.heap[b]? = some (.map es clock) := by rw [hw]; exact hb
    unfold Instr.lookup
    simp only [Sem.run_bind, run_underlying h1, Result.andThen_ok, run_getMap hb2, Sem.run_pure, run_checkKey_one h2 h3 h4 h5, run_findKey_one h2]
    rcases hh w2 with ⟨h, rfl⟩ | ⟨⟨j, h⟩, rfl⟩
    · rw [h]
      simp [r_zero h6 h7]
    · rw [h]
      simp
  -- the same answer in every world
  have same : ∀ (l : List MapEntry) (i : Nat), (∀ e ∈ l, ∃ a, e.key = .agg #[.int .i64 a] ∧ e.val = .int .i64 (spec a)) → ∃ hit : Bool, ∀ w2 : World, (Instr.findAsking kt (.agg #[.int .i64 a]) l i).run P w2 = .ok none w2 ∧ hit = false ∨ (∃ j, (Instr.findAsking kt (.agg #[.int .i64 a]) l i).run P w2 = .ok (some (j, .int .i64 (spec a))) w2) ∧ hit = true := by
    intro l
    induction l with
    | nil => intro i _; exact ⟨false, fun w2 => .inl ⟨by simp [Instr.findAsking], rfl⟩⟩
    | cons e l ih =>
      intro i hl
      obtain ⟨b', hk, hv⟩ := hl e (by simp)
      cases hab : (a == b') with
      | true =>
        have : a = b' := by simpa using hab
        subst this
        refine ⟨true, fun w2 => .inr ⟨⟨i, ?_⟩, rfl⟩⟩
        unfold Instr.findAsking
        rw [hk]
        simp [Sem.run_bind, run_equal_one h8, hv]
      | false =>
        obtain ⟨hit, hh⟩ := ih (i + 1) (fun e he => hl e (List.mem_cons_of_mem _ he))
        refine ⟨hit, fun w2 => ?_⟩
        unfold Instr.findAsking
        rw [hk]
        simp only [Sem.run_bind, run_equal_one h8, Result.andThen_ok, hab]
        simpa using hh w2
  obtain ⟨hit, hh⟩ := same es.toList 0 hes
  exact ⟨hit, key hit hh⟩

theorem run_setMap {b : Nat} {es es' : Array MapEntry} {c c' : Nat} (h : w.heap[b]? = some (.map es c)) : (setObj b (.map es' c')).run P w = .ok () (w.putObj b (.map es' c')) := by
  simp [setObj, Sem.run, h, World.putObj]

theorem run_keyStays (a : Int) (w : World) : (Instr.keyThatStays (.agg #[.int .i64 a]) (.agg #[.int .i64 a])).run P w = .ok (.agg #[.int .i64 a]) w := by
  have : Instr.sameBits 10000 (.agg #[.int .i64 a]) (.agg #[.int .i64 a]) = true := by simp [Instr.sameBits]
  simp [Instr.keyThatStays, this]

theorem run_mapUpdate_one {t : TypeId} (hT : memoT P t = true) {spec : Int → Int} {b : Nat} {o : Obj} (hb : w.heap[b]? = some o) (ho : MemoObj spec o) (a : Int) :
    ∃ o', MemoObj spec o' ∧ (Instr.mapUpdate t (.map (some b)) (.agg #[.int .i64 a]) (.int .i64 (spec a))).run P w = .ok () (w.putObj b o') := by
  obtain ⟨kt, vt, f, i, kd, h1, h2, h3, h4, h5, h6, h7, h8⟩ := memoT_spec hT
  obtain ⟨es, clock, rfl, hes⟩ := ho
  unfold Instr.mapUpdate
  simp only [Sem.run_bind, run_underlying h1, Result.andThen_ok, run_getMap hb, run_checkKey_one h2 h3 h4 h5, run_findKey_one h2]
  rcases run_find_one (w := w) h8 a es.toList 0 hes with h | ⟨j, e, h, hj, hk⟩
  · refine ⟨.map (es.push { key := .agg #[.int .i64 a], val := .int .i64 (spec a), born := clock }) (clock + 1), ⟨_, _, rfl, fun e he => ?_⟩, ?_⟩
    · simp only [Array.toList_push, List.mem_append, List.mem_singleton] at he
      rcases he with he | rfl
      · exact hes e he
      · exact ⟨a, rfl, rfl⟩
    · rw [h]
      simp [run_setMap hb]
  · have hj' : es[j]? = some e := by simpa using hj
    refine ⟨.map (es.modify j fun e => { e with key := .agg #[.int .i64 a], val := .int .i64 (spec a) }) clock, ⟨_, _, rfl, fun e' he => ?_⟩, ?_⟩
    · obtain ⟨n, hn, rfl⟩ := List.getElem_of_mem he
      have hn' : n < es.size := by simpa using hn
      rw [Array.getElem_toList, Array.getElem_modify]
      split
      · exact ⟨a, rfl, rfl⟩
      · exact hes _ (by simp)
    · rw [h]
      simp [hj', hk, Sem.run_bind, run_keyStays, run_setMap hb]

theorem run_delete_one {t u ty : TypeId} (hT : memoT P t = true) {spec : Int → Int} {b : Nat} {o : Obj} (hb : w.heap[b]? = some o) (ho : MemoObj spec o) (a : Int) :
    ∃ o', MemoObj spec o' ∧ (Builtin.delete_ #[t, u] ty #[.map (some b), .agg #[.int .i64 a]]).run P w = .ok (.tuple #[]) (w.putObj b o') := by
  obtain ⟨kt, vt, f, i, kd, h1, h2, h3, h4, h5, h6, h7, h8⟩ := memoT_spec hT
  obtain ⟨es, clock, rfl, hes⟩ := ho
  unfold Builtin.delete_
  have e1 : (#[t, u] : Array TypeId)[0]? = some t := rfl
  have e2 : (#[Value.map (some b), .agg #[.int .i64 a]] : Array Value)[0]? = some (.map (some b)) := rfl
  have e3 : (#[Value.map (some b), .agg #[.int .i64 a]] : Array Value)[1]? = some (.agg #[.int .i64 a]) := rfl
  simp only [e1, e2, e3, Sem.run_bind, run_underlying h1, Result.andThen_ok, run_getMap hb, run_checkKey_one h2 h3 h4 h5, run_findKey_one h2]
  rcases run_find_one (w := w) h8 a es.toList 0 hes with h | ⟨j, e, h, hj, hk⟩
  · refine ⟨.map es clock, ⟨_, _, rfl, hes⟩, ?_⟩
    rw [h]
    simp [run_setMap hb]
  · refine ⟨.map (es.eraseIdxIfInBounds j) clock, ⟨_, _, rfl, fun e' he => hes e' ?_⟩, ?_⟩
    · simp only [Array.toList_eraseIdxIfInBounds] at he
      exact List.mem_of_mem_eraseIdx he
    · rw [h]
      simp [run_setMap hb]
end
end Go.Abs
end

section
/- Maps of one's own: what their operations do. -/
namespace Go.Abs
section
variable {P : Program} {w : World}

theorem vals_den {K : Know} : ∀ (t : Ty) (x : t.den) (cs : List Value), t.ints = true → DenRep K t x cs → cs = t.vals x
  | .int k, n, cs, _, h => h
  | .bool, _, _, hi, _ => by simp [Ty.ints] at hi
  | .slice _, _, _, hi, _ => by simp [Ty.ints] at hi
  | .pair a b, x, cs, hi, h => by
    simp only [Ty.ints, Bool.and_eq_true] at hi
    obtain ⟨c1, c2, rfl, h1, h2⟩ := h
    rw [vals_den a _ _ hi.1 h1, vals_den b _ _ hi.2 h2]
    rfl
theorem den_vals {K : Know} : ∀ (t : Ty) (x : t.den), t.ints = true → DenRep K t x (t.vals x)
  | .int k, n, _ => rfl
  | .bool, _, hi => by simp [Ty.ints] at hi
  | .slice _, _, hi => by simp [Ty.ints] at hi
  | .pair a b, x, hi => by
    simp only [Ty.ints, Bool.and_eq_true] at hi
    exact ⟨_, _, rfl, den_vals a _ hi.1, den_vals b _ hi.2⟩

/-- Two keys' parts, side by side. -/
def Ty.zip : (t : Ty) → t.den → t.den → List (IntKind × Int × Int)
  | .int k, a, b => [(k, a, b)]
  | .pair s t, a, b => s.zip a.1 b.1 ++ t.zip a.2 b.2
  | _, _, _ => []
theorem zip_spec : ∀ (t : Ty) (x y : t.den), t.ints = true → t.vals x = (t.zip x y).map (fun u => Value.int u.1 u.2.1) ∧ t.vals y = (t.zip x y).map (fun u => Value.int u.1 u.2.2) ∧ t.beq x y = (t.zip x y).all (fun u => u.2.1 == u.2.2) ∧ (t.zip x y).length = t.size
  | .int k, a, b, _ => by
    refine ⟨rfl, rfl, ?_, rfl⟩
    show beqI a b = _
    simp [Ty.zip, beqI]
  | .bool, _, _, hi => by simp [Ty.ints] at hi
  | .slice _, _, _, hi => by simp [Ty.ints] at hi
  | .pair s t, x, y, hi => by
    simp only [Ty.ints, Bool.and_eq_true] at hi
    obtain ⟨a1, a2, a3, a4⟩ := zip_spec s x.1 y.1 hi.1
    obtain ⟨b1, b2, b3, b4⟩ := zip_spec t x.2 y.2 hi.2
    refine ⟨?_, ?_, ?_, ?_⟩
    · show s.vals x.1 ++ t.vals x.2 = _
      rw [a1, b1]; simp [Ty.zip]
    · show s.vals y.1 ++ t.vals y.2 = _
      rw [a2, b2]; simp [Ty.zip]
    · show (s.beq x.1 y.1 && t.beq x.2 y.2) = _
      rw [a3, b3]; simp [Ty.zip]
    · simp [Ty.zip, Ty.size, a4, b4]

theorem beq_eq : ∀ (t : Ty) (x y : t.den), t.ints = true → (t.beq x y = true ↔ x = y)
  | .int k, a, b, _ => by
    show beqI a b = true ↔ _
    exact @beq_iff_eq Int _ _ a b
  | .bool, _, _, hi => by simp [Ty.ints] at hi
  | .slice _, _, _, hi => by simp [Ty.ints] at hi
  | .pair s t, x, y, hi => by
    simp only [Ty.ints, Bool.and_eq_true] at hi
    show (s.beq x.1 y.1 && t.beq x.2 y.2) = true ↔ _
    rw [Bool.and_eq_true, beq_eq s _ _ hi.1, beq_eq t _ _ hi.2]
    constructor
    · exact fun ⟨h1, h2⟩ => Prod.ext h1 h2
    · intro h; subst h; exact ⟨rfl, rfl⟩

theorem mapT_spec {t : TypeId} {mk : MK} (h : mapT P t = some mk) : ∃ kt vt i, P.underlying t = some (.map kt vt) ∧ mk.kt.ints = true ∧ P.underlying vt = some (.int mk.kv) ∧ P.info? vt = some i ∧ i.zero = some (.int mk.kv 0) ∧
    ((mk.agg = true ∧ ∃ fs, P.underlying kt = some (.struct fs) ∧ intsT P kt mk.kt.size = true) ∨ (mk.agg = false ∧ ∃ k k', P.underlying kt = some (.int k) ∧ mk.kt = .int k')) := by
  unfold mapT at h
  split at h
  · rename_i kt vt ht
    split at h
    · rename_i ty kv i hty hv hi
      split at h
      · rename_i kz z hz
        split at h
        · rename_i hc
          simp only [Option.some.injEq] at h
          subst h
          simp only [Bool.and_eq_true, decide_eq_true_eq] at hc
          obtain ⟨⟨⟨c1, c2⟩, c3⟩, c4⟩ := hc
          subst c2
          subst c3
          refine ⟨kt, vt, i, ht, c1, hv, hi, hz, ?_⟩
          unfold keyOkT at c4
          split at c4
          · rename_i fs hfs
            exact .inl ⟨by simp [aggT, hfs], fs, hfs, c4⟩
          · rename_i k hk
            refine .inr ⟨by simp [aggT, hk], k, k, hk, ?_⟩
            simp only [tyOf, hk] at hty
            split at hty <;> simp_all
          · cases c4
        · cases h
      · cases h
    · cases h
  · cases h

theorem ofA_rep {K : Know} {H : Nat → Option Hd} {mk : MK} (hi : mk.kt.ints = true) {a : AVal} {v : Value} {x : mk.kt.den} (h : mk.ofA a = some x) (hr : Rep K H a v) : v = mk.key x := by
  unfold MK.ofA at h
  unfold MK.key
  cases hg : mk.agg with
  | true =>
    rw [hg] at h
    simp only at h ⊢
    split at h
    · rename_i cs
      simp only [Rep] at hr
      obtain ⟨c, rfl, h2⟩ := hr
      rw [← vals_den _ _ _ hi (whole_rep h h2)]
    · cases h
  | false =>
    rw [hg] at h
    simp only at h ⊢
    have := vals_den _ _ _ hi (whole_rep (cs := [v]) h (.cons hr .nil))
    rw [← this]
    rfl

theorem toA_rep {K : Know} {H : Nat → Option Hd} {mk : MK} (hi : mk.kt.ints = true) (x : mk.kt.den) : Rep K H (mk.toA x) (mk.key x) := by
  have h := repL_cells (H := H) mk.kt x _ (den_vals (K := K) mk.kt x hi)
  unfold MK.toA MK.key
  cases hg : mk.agg with
  | true => simp only [Rep]; exact ⟨_, rfl, h⟩
  | false =>
    simp only
    have hl := Ty.cells_length mk.kt x
    have hp := mk.kt.size_pos
    cases hc : mk.kt.cells x with
    | nil => rw [hc] at hl; simp at hl; omega
    | cons c r =>
      rw [hc] at h
      obtain ⟨v, vs, e, h1, _⟩ := h.inv
      rw [e]
      exact h1

theorem run_checkFields {em : Bool} {n : Nat} {cs : Array Value} : ∀ (fs : List Field) (i : Nat) (l : List (IntKind × Int)), intsT.go P fs i = true → fs.length = l.length → cs.toList.drop i = l.map (fun u => Value.int u.1 u.2) →
    (forIn fs PUnit.unit (fun f _ => (do
      if f.name ≠ "_" then
        Instr.checkKey em (n + 1) f.type (← part f.type cs f.offset)
      pure (ForInStep.yield PUnit.unit) : Sem (ForInStep PUnit)))).run P w = .ok PUnit.unit w
  | [], i, l, _, _, _ => by simp
  | f :: fs, i, l, hf, hl, hc => by
    cases l with
    | nil => simp at hl
    | cons u l =>
      simp only [intsT.go, Bool.and_eq_true, decide_eq_true_eq] at hf
      obtain ⟨⟨⟨h1, h2⟩, h3⟩, h4⟩ := hf
      cases hu : P.underlying f.type with
      | none => rw [hu] at h3; simp at h3
      | some de =>
        rw [hu] at h3
        cases de <;> simp at h3
        rename_i kd
        have hag : aggT P f.type = false := by simp [aggT, hu]
        simp only [List.map_cons] at hc
        have e1 : cs[i]? = some (.int u.1 u.2) := by
          have h4 : (cs.toList.drop i)[0]? = some (.int u.1 u.2) := by rw [hc]; rfl
          rw [List.getElem?_drop] at h4
          simpa using h4
        have nx : cs.toList.drop (i + 1) = l.map (fun u => Value.int u.1 u.2) := by rw [← List.drop_drop, hc]; rfl
        have p1 : (part f.type cs f.offset).run P w = .ok (.int u.1 u.2) w := by
          simp only [part, Sem.run_bind, r_isAgg hu, Result.andThen_ok, hag, h1]
          simp [e1]
        have c1 : (Instr.checkKey em (n + 1) f.type (.int u.1 u.2)).run P w = .ok () w := by
          simp [Instr.checkKey, run_underlying hu]
        have ih := run_checkFields (em := em) (n := n) fs (i + 1) l h4 (by simpa using hl) nx
        rw [List.forIn_cons, Sem.run_bind]
        have hstep : (do
            if f.name ≠ "_" then
              Instr.checkKey em (n + 1) f.type (← part f.type cs f.offset)
            pure (ForInStep.yield PUnit.unit) : Sem (ForInStep PUnit)).run P w = .ok (ForInStep.yield PUnit.unit) w := by
          simp [h2, Sem.run_bind, p1, c1]
        rw [hstep]
        simp only [Result.andThen_ok]
        exact ih

theorem intsT_fields {t : TypeId} {n : Nat} (h : intsT P t n = true) : ∃ fs, P.underlying t = some (.struct fs) ∧ fs.size = n ∧ P.stoodInHeld t = false ∧ intsT.go P fs.toList 0 = true := by
  unfold intsT at h
  split at h
  · rename_i fs hu
    simp only [Bool.and_eq_true, Bool.not_eq_true', decide_eq_true_eq] at h
    obtain ⟨⟨⟨g1, g2⟩, g3⟩, g4⟩ := h
    exact ⟨fs, hu, g1, g2, g4⟩
  · cases h

theorem run_checkKey_mk {mk : MK} {kt : TypeId} (hi : mk.kt.ints = true)
    (hc : (mk.agg = true ∧ ∃ fs, P.underlying kt = some (.struct fs) ∧ intsT P kt mk.kt.size = true) ∨ (mk.agg = false ∧ ∃ k k', P.underlying kt = some (.int k) ∧ mk.kt = .int k')) (em : Bool) (x : mk.kt.den) :
    (Instr.checkKey em 10000 kt (mk.key x)).run P w = .ok () w := by
  rcases hc with ⟨ha, fs, hu, hT⟩ | ⟨ha, k, k', hu, hk⟩
  · obtain ⟨fs', hu', h1, h2, h3⟩ := intsT_fields hT
    rw [hu] at hu'
    cases hu'
    obtain ⟨z1, z2, z3, z4⟩ := zip_spec mk.kt x x hi
    unfold MK.key
    rw [ha]
    rw [Instr.checkKey]
    simp only [Sem.run_bind, run_underlying hu, Result.andThen_ok]
    rw [← Array.forIn_toList]
    have := run_checkFields (P := P) (w := w) (em := em) (n := 9998) (cs := (mk.kt.vals x).toArray) fs.toList 0 ((mk.kt.zip x x).map fun u => (u.1, u.2.1)) h3 (by simp [z4, h1]) (by simp [z1])
    simp at this ⊢
    rw [this]
    rfl
  · obtain ⟨agg, kty, kv⟩ := mk
    simp only at ha hk
    subst ha
    subst hk
    have : ∀ n, (Instr.checkKey em (n + 1) kt (.int k' x)).run P w = .ok () w := by
      intro n
      simp [Instr.checkKey, run_underlying hu]
    exact this 9999

def mfind (mk : MK) (x : mk.kt.den) : MEnts mk.kt → Nat → Option (Nat × Value)
  | [], _ => none
  | e :: r, i => if mk.kt.beq x e.2.1 then some (i, .int mk.kv e.2.2) else mfind mk x r (i + 1)

theorem run_findKey_mk {mk : MK} {kt : TypeId} (hi : mk.kt.ints = true)
    (hc : (mk.agg = true ∧ ∃ fs, P.underlying kt = some (.struct fs) ∧ intsT P kt mk.kt.size = true) ∨ (mk.agg = false ∧ ∃ k k', P.underlying kt = some (.int k) ∧ mk.kt = .int k')) (x : mk.kt.den) (l : MEnts mk.kt) :
    (Instr.findKey kt (mk.key x) (l.map mk.ent)).run P w = .ok (mfind mk x l 0) w := by
  rcases hc with ⟨ha, fs, hu, hT⟩ | ⟨ha, k, k', hu, hk⟩
  · rw [run_findKey_eq w (by simp [hu])]
    obtain ⟨fs', hu', h1, h2, h3⟩ := intsT_fields hT
    rw [hu] at hu'
    cases hu'
    have eqr : ∀ y : mk.kt.den, (Op.equal kt (mk.key x) (mk.key y)).run P w = .ok (mk.kt.beq x y) w := by
      intro y
      obtain ⟨z1, z2, z3, z4⟩ := zip_spec mk.kt x y hi
      have hfo : P.fieldsOf kt = fs := by simp [Program.fieldsOf, hu]
      unfold MK.key
      rw [ha]
      simp only
      unfold Op.equal Op.maxDepth
      have heq := eqFields_ints (P := P) (w := w) 9998 (mk.kt.vals x).toArray (mk.kt.vals y).toArray fs.toList 0 (mk.kt.zip x y) h3 (by simp [z4, h1]) (by simp [z1]) (by simp [z2])
      rw [run_equalIn_struct w 9999 kt _ _ (by rw [hfo]; exact hu) h2, hfo, heq, z3]
    have go : ∀ (l : MEnts mk.kt) (i : Nat), (Instr.findAsking kt (mk.key x) (l.map mk.ent) i).run P w = .ok (mfind mk x l i) w := by
      intro l
      induction l with
      | nil => intro i; simp [Instr.findAsking, mfind]
      | cons e r ih =>
        intro i
        simp only [List.map_cons, Instr.findAsking, MK.ent, Sem.run_bind, eqr, Result.andThen_ok, mfind]
        cases hb : mk.kt.beq x e.2.1 with
        | true => simp
        | false => simpa using ih (i + 1)
    exact go l 0
  · obtain ⟨agg, kty, kv⟩ := mk
    simp only at ha hk
    subst ha
    subst hk
    have go : ∀ (l : MEnts (.int k')) (i : Nat), Instr.findNow (.int k) (.int k' x) (l.map (MK.ent ⟨false, .int k', kv⟩)) i = some (mfind ⟨false, .int k', kv⟩ x l i) := by
      intro l
      induction l with
      | nil => intro i; rfl
      | cons e r ih =>
        intro i
        have hb : Ty.beq (.int k') x e.2.1 = beqI x e.2.1 := rfl
        simp only [List.map_cons, Instr.findNow, MK.ent, MK.key, Ty.vals, List.headD_cons, Instr.sameNow, if_true, mfind, hb, beqI]
        cases hx : (@BEq.beq Int _ x e.2.1) with
        | true => simp
        | false => simpa using ih (i + 1)
    have e : (MK.key ⟨false, .int k', kv⟩ x) = .int k' x := rfl
    simp only [Instr.findKey, Sem.run_bind, run_underlying hu, Result.andThen_ok, e, go l 0]
    simp

theorem mfind_none {mk : MK} {x : mk.kt.den} : ∀ {l : MEnts mk.kt} {i : Nat}, mfind mk x l i = none → mhas mk.kt l x = false
  | [], _, _ => rfl
  | e :: r, i, h => by
    simp only [mfind] at h
    split at h
    · cases h
    · rename_i hb
      have := mfind_none h
      simp only [mhas] at this ⊢
      simp [hb, this]
theorem mfind_some {mk : MK} {x : mk.kt.den} : ∀ {l : MEnts mk.kt} {i p : Nat} {v : Value}, mfind mk x l i = some (p, v) → ∃ j e, p = i + j ∧ l[j]? = some e ∧ mk.kt.beq x e.2.1 = true ∧ v = .int mk.kv (mval mk.kt l x) ∧ mhas mk.kt l x = true ∧ mdel mk.kt x l = l.eraseIdx j ∧
    ∀ n, mputL mk.kt x n l = l.set j (e.1, x, n)
  | [], _, _, _, h => by simp [mfind] at h
  | e :: r, i, p, v, h => by
    simp only [mfind] at h
    split at h
    · rename_i hb
      simp only [Option.some.injEq, Prod.mk.injEq] at h
      obtain ⟨rfl, rfl⟩ := h
      exact ⟨0, e, rfl, rfl, hb, by simp [mval, hb], by simp [mhas, hb], by simp [mdel, hb], fun n => by simp [mputL, hb]⟩
    · rename_i hb
      obtain ⟨j, e', h1, h2, h3, h4, h5, h6, h7⟩ := mfind_some h
      refine ⟨j + 1, e', by omega, by simpa using h2, h3, by simp [mval, hb, h4], ?_, by simp [mdel, hb, h6], fun n => by simp [mputL, hb, h7]⟩
      simp only [mhas, List.any_cons] at h5 ⊢
      simp [h5]

theorem run_lookup_mk {t : TypeId} {mk : MK} (hT : mapT P t = some mk) {b : Nat} {l : MEnts mk.kt} {clk : Nat} (hb : w.heap[b]? = some (.map (l.map mk.ent).toArray clk)) (x : mk.kt.den) (ck : Bool) :
    (Instr.lookup t (.map (some b)) (mk.key x) ck).run P w = .ok (if ck then .tuple #[.int mk.kv (mval mk.kt l x), .bool (mhas mk.kt l x)] else .int mk.kv (mval mk.kt l x)) w := by
  obtain ⟨kt, vt, i, h1, h2, h3, h4, h5, h6⟩ := mapT_spec hT
  unfold Instr.lookup
  simp only [Sem.run_bind, run_underlying h1, Result.andThen_ok, run_getMap hb, Sem.run_pure, run_checkKey_mk h2 h6, run_findKey_mk h2 h6]
  cases hf : mfind mk x l 0 with
  | none =>
    have hh := mfind_none hf
    have hv : mval mk.kt l x = 0 := by
      clear hf hb
      induction l with
      | nil => rfl
      | cons e r ih =>
        simp only [mhas, List.any_cons, Bool.or_eq_false_iff] at hh
        simp only [mval, hh.1, Bool.false_eq_true, if_false]
        exact ih hh.2
    simp [r_zero h4 h5, hh, hv]
  | some u =>
    obtain ⟨p, v⟩ := u
    obtain ⟨j, e, g1, g2, g3, g4, g5, _⟩ := mfind_some hf
    simp [g4, g5]

theorem sameBits_ints : ∀ (l : List (IntKind × Int × Int)) (n : Nat), l.all (fun u => u.2.1 == u.2.2) = true → ((l.map (fun u => Value.int u.1 u.2.1)).zip (l.map (fun u => Value.int u.1 u.2.2))).all (fun (x, y) => Instr.sameBits n x y) = true
  | [], _, _ => rfl
  | u :: l, n, h => by
    simp only [List.all_cons, Bool.and_eq_true] at h
    simp only [List.map_cons, List.zip_cons_cons, List.all_cons, Bool.and_eq_true]
    refine ⟨?_, sameBits_ints l n h.2⟩
    cases n <;> simp [Instr.sameBits] <;> simpa using h.1

theorem run_keyStays_mk {mk : MK} (hi : mk.kt.ints = true) (hk : mk.agg = false → ∃ k', mk.kt = .int k') {x y : mk.kt.den} (h : mk.kt.beq x y = true) : (Instr.keyThatStays (mk.key y) (mk.key x)).run P w = .ok (mk.key x) w := by
  have e := (beq_eq mk.kt x y hi).1 h
  subst e
  have : Instr.sameBits 10000 (mk.key x) (mk.key x) = true := by
    unfold MK.key
    obtain ⟨z1, z2, z3, z4⟩ := zip_spec mk.kt x x hi
    cases hg : mk.agg with
    | true =>
      simp only [Instr.sameBits]
      rw [z3] at h
      have := sameBits_ints (mk.kt.zip x x) 9999 h
      rw [← z1, ← z2] at this
      simpa using this
    | false =>
      obtain ⟨k', e⟩ := hk hg
      obtain ⟨agg, kty, kv⟩ := mk
      simp only at e
      subst e
      simp only [Ty.vals, Instr.sameBits, List.headD_cons, beq_self_eq_true, Bool.true_and]
      exact @beq_self_eq_true Int _ _ x
  simp [Instr.keyThatStays, this]

theorem run_mapUpdate_mk {t : TypeId} {mk : MK} (hT : mapT P t = some mk) {b : Nat} {l : MEnts mk.kt} {clk : Nat} (hb : w.heap[b]? = some (.map (l.map mk.ent).toArray clk)) (x : mk.kt.den) (n : Int) :
    (Instr.mapUpdate t (.map (some b)) (mk.key x) (.int mk.kv n)).run P w = .ok () (w.putObj b (.map ((mput mk.kt l clk x n).map mk.ent).toArray (mclk mk.kt l clk x))) := by
  obtain ⟨kt, vt, i, h1, h2, h3, h4, h5, h6⟩ := mapT_spec hT
  unfold Instr.mapUpdate
  simp only [Sem.run_bind, run_underlying h1, Result.andThen_ok, run_getMap hb, run_checkKey_mk h2 h6, run_findKey_mk h2 h6]
  cases hf : mfind mk x l 0 with
  | none =>
    have hh := mfind_none hf
    simp only [mput, mclk, hh, Bool.false_eq_true, if_false]
    rw [run_setMap hb]
    simp [MK.ent]
  | some u =>
    obtain ⟨p, v⟩ := u
    obtain ⟨j, e, g1, g2, g3, g4, g5, g6, g7⟩ := mfind_some hf
    have g1' : p = j := by omega
    subst g1'
    have hj : (l.map mk.ent).toArray[p]? = some (mk.ent e) := by simp [g2]
    have hks := run_keyStays_mk (P := P) (w := w) h2 (fun ha => by
      rcases h6 with ⟨h, _⟩ | ⟨_, k, k', _, hk⟩
      · rw [ha] at h; cases h
      · exact ⟨k', hk⟩) g3
    simp only [mput, mclk, g5, if_true, hj, Option.map_some, Option.getD_some, Sem.run_bind]
    rw [show (mk.ent e).key = mk.key e.2.1 from rfl, hks]
    simp only [Result.andThen_ok]
    rw [run_setMap hb, g7]
    congr 3
    apply Array.ext'
    rw [Array.toList_modify]
    simp only []
    rw [List.map_set]
    apply List.ext_getElem?
    intro q
    rw [List.getElem?_modify, List.getElem?_set]
    by_cases e' : p = q
    · subst e'
      have hlt : p < l.length := by
        rcases Nat.lt_or_ge p l.length with h | h
        · exact h
        · rw [List.getElem?_eq_none h] at g2; cases g2
      rw [List.getElem?_eq_getElem hlt] at g2
      cases g2
      simp [hlt, MK.ent]
    · simp [e']

theorem map_erase {α β : Type} (f : α → β) : ∀ (l : List α) (i : Nat), (l.map f).eraseIdx i = (l.eraseIdx i).map f
  | [], _ => rfl
  | _ :: _, 0 => rfl
  | a :: l, i + 1 => by simp [map_erase f l i]

theorem run_delete_mk {t u ty : TypeId} {mk : MK} (hT : mapT P t = some mk) {b : Nat} {l : MEnts mk.kt} {clk : Nat} (hb : w.heap[b]? = some (.map (l.map mk.ent).toArray clk)) (x : mk.kt.den) :
    (Builtin.delete_ #[t, u] ty #[.map (some b), mk.key x]).run P w = .ok (.tuple #[]) (w.putObj b (.map ((mdel mk.kt x l).map mk.ent).toArray clk)) := by
  obtain ⟨kt, vt, i, h1, h2, h3, h4, h5, h6⟩ := mapT_spec hT
  unfold Builtin.delete_
  have e1 : (#[t, u] : Array TypeId)[0]? = some t := rfl
  have e2 : (#[Value.map (some b), mk.key x] : Array Value)[0]? = some (.map (some b)) := rfl
  have e3 : (#[Value.map (some b), mk.key x] : Array Value)[1]? = some (mk.key x) := rfl
  simp only [e1, e2, e3, Sem.run_bind, run_underlying h1, Result.andThen_ok, run_getMap hb, run_checkKey_mk h2 h6, run_findKey_mk h2 h6]
  cases hf : mfind mk x l 0 with
  | none =>
    have hh := mfind_none hf
    have hd : mdel mk.kt x l = l := by
      clear hf hb
      induction l with
      | nil => rfl
      | cons e r ih =>
        simp only [mhas, List.any_cons, Bool.or_eq_false_iff] at hh
        simp only [mdel, hh.1, Bool.false_eq_true, if_false]
        rw [ih hh.2]
    simp [run_setMap hb, hd]
  | some u =>
    obtain ⟨p, v⟩ := u
    obtain ⟨j, e, g1, g2, g3, g4, g5, g6, g7⟩ := mfind_some hf
    have g1' : p = j := by omega
    subst g1'
    simp [run_setMap hb, g6, map_erase]
end

/-- A block that holds no cells is turned. -/
theorem heap_put {w : World} {l : Nat} {o o' : Obj} (h : w.heap[l]? = some o) (b : Nat) : (w.putObj l o').heap[b]? = if b = l then some o' else w.heap[b]? := by
  by_cases e : b = l
  · subst e
    rw [if_pos rfl]
    exact World.putObj_heap_same (lt_of_heap h)
  · rw [if_neg e]
    exact World.putObj_heap_other e

theorem kept_put {G : Nat → Prop} {w : World} {l : Nat} {o o' : Obj} (h : w.heap[l]? = some o) (hG : ¬ G l) : Kept G w (w.putObj l o') :=
  ⟨rfl, rfl, rfl, by simp, fun b hb => by
    rw [heap_put h, if_neg (fun (e : b = l) => hG (e ▸ hb))], Nat.le_refl _⟩

theorem ok_put {F : Nat → Prop} {K : Know} {w : World} {l : Nat} {o o' : Obj} (hok : WOk F K w) (h : w.heap[l]? = some o) (ho : ∀ cs e fz, o ≠ .cells cs e fz) (hi : K.inv l = none) : WOk F K (w.putObj l o') := by
  refine ⟨⟨fun b cs hc => ?_, fun b p hp => ?_⟩, fun b hb => ?_, hok.inv, hok.apart⟩
  · obtain ⟨e, fz, h1⟩ := hok.knows.1 b cs hc
    refine ⟨e, fz, ?_⟩
    rw [heap_put h, if_neg]
    · exact h1
    · intro e'
      subst e'
      rw [h] at h1
      exact ho _ _ _ (Option.some.inj h1)
  · obtain ⟨o2, h1, h2⟩ := hok.knows.2 b p hp
    refine ⟨o2, ?_, h2⟩
    rw [heap_put h, if_neg]
    · exact h1
    · intro e'
      subst e'
      rw [hi] at hp
      cases hp
  · have := hok.lt b hb
    simpa using this


/-- A region of one's own that is no row of cells holds something else from now on. -/
theorem put_region {F : Nat → Prop} {K : Know} {H : Nat → Option Hd} {w : World} {m : Mm} (hok : WOk F K w) (hm : MRel F K H w m) {r : Nat} {c c' : Cont} {hd : Hd} {b : Nat} {o o' : Obj} (hmr : m r = some (c, .own)) (hr : H r = some hd) (hb : hd.base = some b)
    (hh : w.heap[b]? = some o) (ho : ∀ cs e fz, o ≠ .cells cs e fz) (hcc : c'.isCells = false) (hc : ContRel K H (w.putObj b o') hd c') :
    MRel F K H (w.putObj b o') (upd m r (c', .own)) ∧ WOk F K (w.putObj b o') ∧ Kept F w (w.putObj b o') := by
  obtain ⟨o1, o2, o3, _⟩ := hm.own r c hd b hmr hr hb
  refine ⟨hm.turn r c c' hd b hmr hr hb (fun b' hb' => ?_) (fun h => by rw [hcc] at h; cases h) hc, ok_put hok hh ho o3, kept_put hh o1⟩
  rw [heap_put hh, if_neg hb']
end Go.Abs
end

section
/- Computations that only read. -/
set_option linter.unusedVariables false
namespace Go.Abs

/-- It leaves the world alone, and looks at nothing but the heap and the program. -/
def Still {α : Type} : Sem α → Prop
  | .pure _ => True
  | .load _ _ k => ∀ v, Still (k v)
  | .program k => ∀ p, Still (k p)
  | .shape _ k => ∀ s, Still (k s)
  | .getObj _ k => ∀ o, Still (k o)
  | .halt _ => True
  | _ => False

theorem still_bind {α β : Type} : ∀ (s : Sem α) {f : α → Sem β}, Still s → (∀ a, Still (f a)) → Still (s.bind f)
  | .pure a, f, _, h => h a
  | .load m a k, f, hs, h => fun v => still_bind (k v) (hs v) h
  | .program k, f, hs, h => fun p => still_bind (k p) (hs p) h
  | .halt x, f, _, _ => trivial
  | .store .., _, hs, _ => hs.elim
  | .new .., _, hs, _ => hs.elim
  | .shape r k, f, hs, h => fun s => still_bind (k s) (hs s) h
  | .freeze .., _, hs, _ => hs.elim
  | .frozen .., _, hs, _ => hs.elim
  | .getObj r k, f, hs, h => fun o => still_bind (k o) (hs o) h
  | .setObj .., _, hs, _ => hs.elim
  | .choose .., _, hs, _ => hs.elim
  | .sys .., _, hs, _ => hs.elim
  | .mark .., _, hs, _ => hs.elim
theorem still_bind' {α β : Type} {s : Sem α} {f : α → Sem β} (hs : Still s) (h : ∀ a, Still (f a)) : Still (s >>= f) := still_bind s hs h

theorem still_run {α : Type} {P : Program} : ∀ (s : Sem α) {w w' : World} {a : α}, Still s → s.run P w = .ok a w' → w' = w ∧ ∀ n, s.run P { w with drawn := n } = .ok a { w with drawn := n }
  | .pure a, w, w', b, _, h => by
    simp only [Sem.run, Result.ok.injEq] at h
    obtain ⟨rfl, rfl⟩ := h
    exact ⟨rfl, fun n => by simp [Sem.run]⟩
  | .load m a k, w, w', b, hs, h => by
    unfold Sem.run at h
    have hc : ∀ n, World.cell? { w with drawn := n } a = w.cell? a := fun n => rfl
    have hf : ∀ n, World.farLoad P { w with drawn := n } a (m == .atomic) = World.farLoad P w a (m == .atomic) := fun n => by
      unfold World.farLoad; rfl
    cases hv : w.cell? a with
    | some v =>
      rw [hv] at h
      obtain ⟨h1, h2⟩ := still_run (k v) (hs v) h
      refine ⟨h1, fun n => ?_⟩
      unfold Sem.run
      rw [hc, hv]
      exact h2 n
    | none =>
      rw [hv] at h
      simp only at h
      cases hl : World.farLoad P w a (m == .atomic) with
      | ok x =>
        rw [hl] at h
        obtain ⟨v, l⟩ := x
        obtain ⟨h1, h2⟩ := still_run (k v) (hs v) h
        refine ⟨h1, fun n => ?_⟩
        unfold Sem.run
        rw [hc, hv]
        simp only
        rw [hf, hl]
        exact h2 n
      | error e =>
        rw [hl] at h
        simp at h
  | .program k, w, w', b, hs, h => by
    simp only [Sem.run] at h
    obtain ⟨h1, h2⟩ := still_run (k P) (hs P) h
    exact ⟨h1, fun n => by simp only [Sem.run]; exact h2 n⟩
  | .halt x, w, w', b, _, h => by simp [Sem.run] at h
  | .store .., _, _, _, hs, _ => hs.elim
  | .new .., _, _, _, hs, _ => hs.elim
  | .shape r k, w, w', b, hs, h => by
    simp only [Sem.run] at h
    obtain ⟨h1, h2⟩ := still_run (k (w.shape? r)) (hs _) h
    exact ⟨h1, fun n => by simp only [Sem.run]; exact h2 n⟩
  | .freeze .., _, _, _, hs, _ => hs.elim
  | .frozen .., _, _, _, hs, _ => hs.elim
  | .getObj r k, w, w', b, hs, h => by
    unfold Sem.run at h
    cases ho : w.heap[r]? with
    | none => rw [ho] at h; simp at h
    | some o =>
      rw [ho] at h
      cases o <;> simp only at h <;> (try (exact absurd h (by simp)))
      all_goals
        obtain ⟨h1, h2⟩ := still_run _ (hs _) h
        refine ⟨h1, fun n => ?_⟩
        unfold Sem.run
        show (match w.heap[r]? with | _ => _) = _
        simp only [ho]
        exact h2 n
  | .setObj .., _, _, _, hs, _ => hs.elim
  | .choose .., _, _, _, hs, _ => hs.elim
  | .sys .., _, _, _, hs, _ => hs.elim
  | .mark .., _, _, _, hs, _ => hs.elim

theorem still_program : Still (program : Sem Program) := fun p => trivial
theorem still_underlying (t : TypeId) : Still (underlying t) := by
  refine still_bind' still_program (fun p => ?_)
  split
  · trivial
  · trivial
theorem still_typeInfo (t : TypeId) : Still (typeInfo t) := by
  refine still_bind' still_program (fun p => ?_)
  split
  · trivial
  · trivial
theorem still_sizeOf (t : TypeId) : Still (sizeOf t) := still_bind' (still_typeInfo t) (fun _ => trivial)
theorem still_isAgg (t : TypeId) : Still (isAgg t) := by
  refine still_bind' (still_underlying t) (fun d => ?_)
  split <;> trivial
theorem still_load (a : Addr) : Still (load a) := fun v => trivial
theorem still_cellsFrom (a : Addr) : ∀ (n i : Nat) (acc : Array Value), Still (loadCellsFrom a i n acc)
  | 0, _, _ => trivial
  | n + 1, i, acc => still_bind' (still_load _) (fun v => still_cellsFrom a n (i + 1) _)
theorem still_loadVar (t : TypeId) (a : Addr) : Still (loadVar t a) := by
  refine still_bind' (still_isAgg t) (fun b => ?_)
  split
  · exact still_bind' (still_sizeOf t) (fun n => still_bind' (still_cellsFrom a n 0 _) (fun _ => trivial))
  · exact still_load a
theorem still_sureAddr (v : Value) : Still (Instr.sureAddr v) := by
  unfold Instr.sureAddr
  split <;> trivial
theorem still_loadAt (t : TypeId) (v : Value) : Still (Instr.loadAt t v) := still_bind' (still_sureAddr v) (fun a => still_loadVar t a)
theorem still_noView (a : Addr) : Still (noView a) := by
  unfold noView
  refine still_bind' ?_ (fun _ => ?_)
  · unfold viewAt
    refine still_bind' (fun s => trivial) (fun s => ?_)
    split
    · trivial
    · refine still_bind' (fun o => trivial) (fun o => ?_)
      split <;> trivial
  · split <;> trivial
theorem still_byteOf (a : Addr) : Still (byteOf a) := by
  unfold byteOf
  split
  · trivial
  · refine still_bind' still_program (fun p => still_bind' (still_noView a) (fun _ => still_bind' (fun s => trivial) (fun s => ?_)))
    split
    · dsimp only
      split
      · trivial
      · split <;> trivial
    · trivial
theorem still_partAt (a : Addr) (n m : Nat) : Still (partAt a n m) := by
  unfold partAt
  exact still_bind' (still_byteOf a) (fun _ => still_bind' (still_byteOf _) (fun _ => trivial))
theorem still_fieldAt (s : TypeId) (v : Value) (f : Nat) : Still (Instr.fieldAt s v f) := by
  unfold Instr.fieldAt
  refine still_bind' (still_underlying s) (fun d => ?_)
  split
  · split
    · refine still_bind' (still_sureAddr v) (fun a => still_bind' ?_ (fun _ => trivial))
      unfold fieldPlace
      refine still_bind' (still_sizeOf _) (fun _ => ?_)
      split
      · exact still_partAt _ _ _
      · trivial
    · trivial
  · trivial
theorem still_extract (v : Value) (i : Nat) : Still (Instr.extract v i) := by
  unfold Instr.extract
  split
  · split <;> trivial
  · trivial
end Go.Abs
end

section
/- The operations that write. -/
namespace Go.Abs

structure AfterE (F : Nat → Prop) (K : Know) (H : Nat → Option Hd) (w : World) (m : Mm) (wr : W) (w' : World) : Prop where
  mem : MRel F K H w' (setM m wr.set)
  ok : WOk F K w'
  kept : Kept F w w'

def GivesE (F : Nat → Prop) (K : Know) (H : Nat → Option Hd) (w : World) (m : Mm) (k : W → Prop) : Result Next → Prop
  | .ok (.value _) w' => ∃ wr, k wr ∧ AfterE F K H w m wr w'
  | .ok .skip w' => ∃ wr, k wr ∧ AfterE F K H w m wr w'
  | _ => False

section
variable {P : Program} {F : Nat → Prop} {K : Know} {H : Nat → Option Hd} {w : World} {m : Mm} {k : W → Prop} {ev : Operand → AVal} {ρ : Operand → Value}

theorem WOk.upd (hok : WOk F K w) {w' : World} {b : Nat} {cs : Array Value} {e : TypeId} (h : Upd w w' b cs e) (h1 : K.cells b = none) (h2 : K.inv b = none) : WOk F K w' := by
  refine ⟨⟨fun b2 cs2 hc2 => ?_, fun b2 p hp => ?_⟩, fun b2 hb2 => by rw [h.size]; exact hok.lt b2 hb2, hok.inv, hok.apart⟩
  · obtain ⟨e2', fz2, q⟩ := hok.knows.1 b2 cs2 hc2
    have hne : b2 ≠ b := by intro e'; subst e'; rw [h1] at hc2; cases hc2
    exact ⟨e2', fz2, by rw [h.other b2 hne]; exact q⟩
  · obtain ⟨o', q, hp'⟩ := hok.knows.2 b2 p hp
    have hne : b2 ≠ b := by intro e'; subst e'; rw [h2] at hp; cases hp
    exact ⟨o', by rw [h.other b2 hne]; exact q, hp'⟩

/-- A write into a region of one's own. -/
theorem after_write (hok : WOk F K w) (hm : MRel F K H w m) {r : Nat} {c c' : Cont} {hd : Hd} {b : Nat} (hmr : m r = some (c, .own)) (hr : H r = some hd) (hb : hd.base = some b) {w' : World} {cs : Array Value} {e : TypeId} (h : Upd w w' b cs e)
    (hc : ContRel K H w' hd c') (rs : List Nat) : AfterE F K H w m ⟨[(r, (c', .own))], rs⟩ w' := by
  obtain ⟨o1, o2, o3, _⟩ := hm.own r c hd b hmr hr hb
  exact ⟨hm.turn r c c' hd b hmr hr hb h.other (fun _ => ⟨cs, e, h.here⟩) hc, hok.upd h o2 o3, h.kept o1⟩

theorem slab_splice_other {cs : Array Value} {o p n : Nat} {vs : List Value} (h : o + vs.length ≤ cs.size) (hd : p + n ≤ o ∨ o + vs.length ≤ p) : slab (splice cs o vs) p n = slab cs p n := by
  apply List.ext_getElem?
  intro j
  by_cases hj : j < n
  · rw [slab_get hj, slab_get hj, splice_get _ _ _ _ h, if_neg (by omega)]
  · rw [List.getElem?_eq_none (by simp [slab]; omega), List.getElem?_eq_none (by simp [slab]; omega)]

theorem slab_splice_in {cs : Array Value} {p n j : Nat} {vs : List Value} (h : p + n ≤ cs.size) (hj : j + vs.length ≤ n) : slab (splice cs (p + j) vs) p n = (slab cs p n).take j ++ vs ++ (slab cs p n).drop (j + vs.length) := by
  have hb : p + j + vs.length ≤ cs.size := by omega
  apply List.ext_getElem?
  intro i
  have hl : (slab cs p n).length = n := slab_len h
  by_cases hi : i < n
  · rw [slab_get hi, splice_get _ _ _ _ hb]
    by_cases h1 : i < j
    · rw [if_neg (by omega), List.getElem?_append_left (by simp; omega), List.getElem?_append_left (by simp; omega), List.getElem?_take_of_lt h1, slab_get hi]
    · by_cases h2 : i < j + vs.length
      · rw [if_pos (by omega), List.getElem?_append_left (by simp; omega), List.getElem?_append_right (by simp; omega)]
        congr 1
        simp; omega
      · rw [if_neg (by omega), List.getElem?_append_right (by simp; omega), List.getElem?_drop, ← slab_get (o := p) hi]
        congr 1
        simp; omega
  · rw [List.getElem?_eq_none (by simp [slab]; omega), List.getElem?_eq_none (by simp; omega)]

theorem store_run {t : TypeId} {v : Value} {b off : Nat} {cs : Array Value} {e : TypeId} (hs : v.cells.toList.length = sizeT P t) (hp : 0 < v.cells.toList.length) (hb : w.heap[b]? = some (.cells cs e (0, 0))) (hn : off + v.cells.toList.length ≤ cs.size)
    (ho : ∀ x ∈ v.cells.toList, one x = true) : ∃ w', (Instr.storeAt t (.pointer (some ⟨b, off, none⟩)) v).run P w = .ok () w' ∧ Upd w w' b (splice cs off v.cells.toList) e := by
  obtain ⟨i, hi, his⟩ := sizeT_info (P := P) (t := t) (by omega)
  obtain ⟨w', h1, h2⟩ := Abs.run_storeCells P b off e v.cells.toList w cs 0 hb (by omega) ho
  refine ⟨w', ?_, by simpa using h2⟩
  simp only [Instr.storeAt, Instr.sureAddr, Sem.run_bind, Sem.run_pure, Result.andThen_ok, storeVar, r_size hi, his]
  rw [if_neg (by simp at hs ⊢; omega)]
  exact h1

theorem u_skip {s : Sem Unit} {w' : World} (h : s.run P w = .ok () w') : (do s; pure Next.skip : Sem Next).run P w = .ok .skip w' := by
  simp [h]

variable (hok : WOk F K w) (hm : MRel F K H w m) (hev : ∀ x, Rep K H (ev x) (ρ x))
include hok hm hev

theorem e_store (o : Oper) {t : TypeId} {a x : Operand} (ho : o.op = .store t a x) (h : match ev a with
    | .aptr r => (match m r, ev x with
      | some (.sl ty' l, .own), .arrv ty l' => if h : ty = ty' then l'.length = l.length ∧ l'.length * ty.size = sizeT P t ∧ 0 < l.length ∧ k ⟨[(r, (.sl ty' (h ▸ l'), .own))], [r]⟩ else False
      | _, _ => False)
    | .ptr r off => (match m r, (typed P t (ev x)).parts with
      | some (.box cells, .own), some xs => if xs.length = sizeT P t ∧ 0 < xs.length ∧ off + xs.length ≤ cells.length ∧ allOne xs = true then
          k ⟨[(r, (.box (cells.take off ++ xs ++ cells.drop (off + xs.length)), .own))], [r]⟩ else False
      | _, _ => False)
    | .eptr r i j => (match m r, (typed P t (ev x)).parts with
      | some (.sl ty l, .own), some xs => if xs.length = sizeT P t ∧ 0 < xs.length ∧ j + xs.length ≤ ty.size ∧ allOne xs = true then ∃ h : i < l.length,
            (match ty.whole ((ty.cells l[i]).take j ++ xs ++ (ty.cells l[i]).drop (j + xs.length)) with
            | some x' => k ⟨[(r, (.sl ty (l.set i x'), .own))], [r]⟩
            | none => False) else False
      | _, _ => False)
    | _ => False) : GivesE F K H w m k ((execOp ρ o).run P w) := by
  have ha := hev a
  have hx := hev x
  split at h
  · rename_i r he
    rw [he] at ha; simp only [Rep] at ha
    obtain ⟨hd, b, h1, h2, h3, e1⟩ := ha
    split at h
    · rename_i ty' l ty l' hmr hex
      split at h
      · rename_i hty
        subst hty
        obtain ⟨g1, g2, g3, h⟩ := h
        rw [hex] at hx; simp only [Rep] at hx
        obtain ⟨cs', e2, e3, e4⟩ := hx
        obtain ⟨c1, c2, c3, c4⟩ := hm.cont r _ .own hd hmr (by simp) h1
        obtain ⟨_, _, _, hcl⟩ := hm.own r _ hd b hmr h1 h2; obtain ⟨cs, e, hh⟩ := hcl rfl
        rcases c4 with ⟨c4, _⟩ | ⟨b', cs2, e', fz, q1, q2, q3, q4⟩
        · rw [h2] at c4; cases c4
        · rw [h2] at q1; cases q1
          rw [hh] at q2; cases q2
          have hone : ∀ y ∈ (ρ x).cells.toList, one y = true := by
            rw [e2]
            have hel := e4.elemsL (by rw [Nat.zero_add, e3]; exact Nat.le_refl _)
            have hs : slab cs' 0 (l'.length * ty.size) = cs'.toList := by
              unfold slab; rw [List.drop_zero, List.take_of_length_le]; simp; omega
            rw [hs] at hel
            exact fun y hy => one_of' (elemsL_one hel y hy)
          have hlen : (ρ x).cells.toList.length = l'.length * ty.size := by rw [e2]; simp [Value.cells, e3]
          have hpos : 0 < l'.length * ty.size := Nat.mul_pos (by omega) ty.size_pos
          have hfit : l'.length * ty.size ≤ cs.size := by
            refine Nat.le_trans ?_ q3
            exact Nat.mul_le_mul_right _ (by omega)
          obtain ⟨w', hr, hup⟩ := store_run (P := P) (t := t) (v := ρ x) (off := 0) (by omega) (by omega) hh (by omega) hone
          simp only [execOp, ho, e1]
          rw [u_skip hr]
          refine ⟨_, h, after_write hok hm hmr h1 h2 hup ?_ [r]⟩
          refine ⟨c1, by rw [c2, g1], c3, .inr ⟨b, _, _, (0, 0), h2, hup.here, by rw [splice_size]; exact q3, ?_⟩⟩
          intro i hi
          have := e4 i hi
          have hle : (i + 1) * ty.size ≤ l'.length * ty.size := Nat.mul_le_mul_right _ hi
          rw [Nat.add_mul] at hle
          have hsl : slab (splice cs 0 (ρ x).cells.toList) (0 + i * ty.size) ty.size = slab cs' (0 + i * ty.size) ty.size := by
            apply List.ext_getElem?
            intro j
            by_cases hj : j < ty.size
            · rw [slab_get hj, slab_get hj, splice_get _ _ _ _ (by omega), if_pos (by omega), e2]
              simp [Value.cells]
            · rw [List.getElem?_eq_none (by simp [slab]; omega), List.getElem?_eq_none (by simp [slab]; omega)]
          rw [hsl]; exact this
      · exact absurd h id
    · exact absurd h id
  · rename_i r off he
    rw [he] at ha; simp only [Rep] at ha
    obtain ⟨hd, b, h1, h2, e1⟩ := ha
    split at h
    · rename_i cells xs hmr hps
      split at h
      · rename_i hc
        obtain ⟨g1, g2, g3, g4⟩ := hc
        have hxp := parts_rep hps (typed_rep (P := P) (t := t) hx)
        have hlen := RepL.length hxp
        obtain ⟨b', cs, e', fz, q1, q2, q3⟩ := hm.cont r _ .own hd hmr (by simp) h1
        rw [h2] at q1; cases q1
        obtain ⟨_, _, _, hcl⟩ := hm.own r _ hd b hmr h1 h2; obtain ⟨cs2, e, hh⟩ := hcl rfl
        rw [hh] at q2; cases q2
        have hcl := RepL.length q3
        simp only [Array.length_toList] at hcl
        obtain ⟨w', hr, hup⟩ := store_run (P := P) (t := t) (v := ρ x) (off := off) (by omega) (by omega) hh (by omega) (allOne_rep g4 hxp)
        simp only [execOp, ho, e1]
        rw [u_skip hr]
        refine ⟨_, h, after_write hok hm hmr h1 h2 hup ?_ [r]⟩
        refine ⟨b, _, _, (0, 0), h2, hup.here, ?_⟩
        rw [splice_list _ _ _ (by omega), hlen]
        exact RepL.append (RepL.append (RepL.take _ q3) hxp) (RepL.drop _ q3)
      · exact absurd h id
    · exact absurd h id
  · rename_i r i j he
    rw [he] at ha; simp only [Rep] at ha
    obtain ⟨hd, b, h1, h2, e1⟩ := ha
    split at h
    · rename_i ty l xs hmr hps
      split at h
      · rename_i hc
        obtain ⟨g1, g2, g3, g4⟩ := hc
        obtain ⟨hi, h⟩ := h
        split at h
        · rename_i x' hw
          have hxp := parts_rep hps (typed_rep (P := P) (t := t) hx)
          have hlen := RepL.length hxp
          have hcr := hm.cont r _ .own hd hmr (by simp) h1
          obtain ⟨b', cs, e', fz, q1, q2, q3, q4⟩ := sl_base (cont := hcr) hi
          obtain ⟨c1, c2, c3, _⟩ := hcr
          rw [h2] at q1; cases q1
          obtain ⟨_, _, _, hcl⟩ := hm.own r _ hd b hmr h1 h2; obtain ⟨cs2, e, hh⟩ := hcl rfl
          rw [hh] at q2; cases q2
          have hbd := q4.bound (by intro e0; rw [e0] at hi; simp at hi)
          have hile : (i + 1) * ty.size ≤ l.length * ty.size := Nat.mul_le_mul_right _ hi
          rw [Nat.add_mul] at hile
          have hfit : i * hd.sz + j + (ρ x).cells.toList.length ≤ cs.size := by rw [c1, hlen]; omega
          obtain ⟨w', hr, hup⟩ := store_run (P := P) (t := t) (v := ρ x) (off := i * hd.sz + j) (by omega) (by omega) hh hfit (allOne_rep g4 hxp)
          simp only [execOp, ho, e1]
          rw [u_skip hr]
          refine ⟨_, h, after_write hok hm hmr h1 h2 hup ?_ [r]⟩
          refine ⟨c1, by rw [c2]; simp, c3, .inr ⟨b, _, _, (0, 0), h2, hup.here, by rw [splice_size]; exact q3, ?_⟩⟩
          intro i' hi'
          have hi2 : i' < l.length := by simpa using hi'
          rw [Nat.zero_add, c1]
          rw [c1] at hfit
          have hi'le : (i' + 1) * ty.size ≤ l.length * ty.size := Nat.mul_le_mul_right _ hi2
          rw [Nat.add_mul] at hi'le
          by_cases hii : i' = i
          · subst hii
            rw [List.getElem_set_self, slab_splice_in (by omega) (by omega)]
            have hold := q4 i' hi2
            rw [Nat.zero_add] at hold
            have hold' := repL_cells (H := H) ty _ _ hold
            refine whole_rep (H := H) hw ?_
            rw [hlen]
            exact RepL.append (RepL.append (RepL.take _ hold') hxp) (RepL.drop _ hold')
          · rw [List.getElem_set_ne (fun e => hii e.symm)]
            rw [slab_splice_other hfit ?_]
            · have := q4 i' hi2
              rw [Nat.zero_add] at this
              exact this
            · rcases Nat.lt_or_ge i' i with hlt | hge
              · left
                have : (i' + 1) * ty.size ≤ i * ty.size := Nat.mul_le_mul_right _ hlt
                rw [Nat.add_mul] at this
                omega
              · right
                have hgt : i < i' := by omega
                have : (i + 1) * ty.size ≤ i' * ty.size := Nat.mul_le_mul_right _ hgt
                rw [Nat.add_mul] at this
                omega
        · exact absurd h id
      · exact absurd h id
    · exact absurd h id
  · exact absurd h id

theorem e_clear (o : Oper) {c : Call} {x : Operand} {t : TypeId} (ho : o.op = .call c) (hc : c.callee = .builtin .clear) (hargs : c.args.toList = [x]) (htys : c.argTypes.toList = [t]) (h : match P.underlying t, ev x with
        | some (.slice e), .reg r _ => (match m r with
          | some (.sl ty l, .own) => if zeroOk P e ty then k ⟨[(r, (.sl ty (List.replicate l.length ty.zero), .own))], [r]⟩ else False
          | _ => False)
        | _, _ => False) : GivesE F K H w m k ((execOp ρ o).run P w) := by
  have hx := hev x
  split at h
  · rename_i e r f hu he
    rw [he] at hx; simp only [Rep] at hx
    obtain ⟨hd, h1, e1, _⟩ := hx
    split at h
    · rename_i ty l hmr
      split at h
      · rename_i hz
        obtain ⟨i, v, hi, hv, hcz⟩ := zeroOk_spec hz
        have hcr := hm.cont r _ .own hd hmr (by simp) h1
        obtain ⟨c1, c2, c3, c4⟩ := hcr
        have ha1 : c.args.map ρ = #[ρ x] := by apply Array.toList_inj.1; simp [hargs]
        have ha2 : c.argTypes = #[t] := by apply Array.toList_inj.1; simp [htys]
        rw [call_builtin o ho hc, ha1, ha2, e1]
        simp only [builtin]
        have hvs : v.cells.size = ty.size := by
          have := DenRep.length ty _ _ (zeroV_rep (K := K) ty)
          rw [← hcz] at this
          simpa using this
        by_cases hl0 : l.length = 0
        · have hlen0 : hd.len = 0 := by omega
          have hrun : (Builtin.clear_ #[t] o.type #[.slice (hd.base.map fun b => ⟨b, 0, none⟩) hd.len hd.cap]).run P w = .ok (.tuple #[]) w := by
            rw [hlen0]
            cases hb : hd.base <;> simp [Builtin.clear_, r_under hu]
          rw [q_value hrun]
          have hl : l = [] := List.eq_nil_of_length_eq_zero hl0
          refine ⟨_, h, ?_, hok, .refl F w⟩
          subst hl
          have : setM m [(r, (Cont.sl ty (List.replicate ([] : List ty.den).length ty.zero), Flag.own))] = m := by
            funext r'
            simp only [setM, List.length_nil, List.replicate_zero]
            by_cases hr' : r' = r
            · subst hr'; rw [upd_same, hmr]
            · rw [upd_ne _ _ _ _ hr']
          rw [this]
          exact hm
        · rcases c4 with ⟨c4, c5⟩ | ⟨b, cs, e', fz, q1, q2, q3, q4⟩
          · omega
          · obtain ⟨_, _, _, hcl⟩ := hm.own r _ hd b hmr h1 q1; obtain ⟨cs2, e2, hh⟩ := hcl rfl
            rw [hh] at q2; cases q2
            have hzc : (Builtin.zeroCells v.cells hd.len).toList = (List.replicate hd.len (zeroV ty)).flatten := by
              have hel := (ElemsL.replicate (zeroV_rep (K := K) ty) hd.len).1
              simp only [List.length_replicate] at hel
              apply List.ext_getElem?
              intro j
              by_cases hj : j < hd.len * ty.size
              · rw [flat_get (zeroV ty) ty.size (DenRep.length ty _ _ (zeroV_rep (K := K) ty)) hd.len j hj, ← hcz]
                have hlt : j % ty.size < v.cells.size := by rw [hvs]; exact Nat.mod_lt _ ty.size_pos
                simp [Builtin.zeroCells, hj, hvs, getElem!_pos v.cells (j % ty.size) hlt]
              · rw [List.getElem?_eq_none (by simp [Builtin.zeroCells, hvs]; omega), List.getElem?_eq_none (by omega)]
            have hel := ElemsL.replicate (zeroV_rep (K := K) ty) hd.len
            have hlz : (Builtin.zeroCells v.cells hd.len).toList.length = hd.len * ty.size := by
              rw [hzc]; have := hel.1; simpa using this
            have hfit : hd.len * ty.size ≤ cs.size := Nat.le_trans (Nat.mul_le_mul_right _ c3.1) q3
            obtain ⟨w', hr, hup⟩ := Abs.run_storeCells P b 0 _ (Builtin.zeroCells v.cells hd.len).toList w cs 0 hh (by omega) (fun y hy => by
              rw [hzc] at hy
              exact one_of' (elemsL_one hel y hy))
            have hrun : (Builtin.clear_ #[t] o.type #[.slice (hd.base.map fun b => ⟨b, 0, none⟩) hd.len hd.cap]).run P w = .ok (.tuple #[]) w' := by
              rw [q1]
              obtain ⟨n, hn⟩ : ∃ n, hd.len = n + 1 := ⟨hd.len - 1, by omega⟩
              rw [hn] at hr ⊢
              simp [Builtin.clear_, r_under hu, r_zero hi hv, hr]
            rw [q_value hrun]
            refine ⟨_, h, after_write hok hm hmr h1 q1 (by simpa using hup) ?_ [r]⟩
            refine ⟨c1, by rw [c2]; simp, c3, .inr ⟨b, _, _, (0, 0), q1, by simpa using hup.here, by rw [splice_size]; exact q3, ?_⟩⟩
            rw [← c2]
            have : (splice cs 0 (Builtin.zeroCells v.cells hd.len).toList) = ((List.replicate hd.len (zeroV ty)).flatten ++ cs.toList.drop (hd.len * ty.size)).toArray := by
              apply Array.toList_inj.1
              rw [splice_list _ _ _ (by omega), hlz, hzc]
              simp
            rw [this]
            exact hel.elems
      · exact absurd h id
    · exact absurd h id
  · exact absurd h id

theorem e_copy (o : Oper) {c : Call} {x y : Operand} {t u : TypeId} (ho : o.op = .call c) (hc : c.callee = .builtin .copy) (hargs : c.args.toList = [x, y]) (htys : c.argTypes.toList = [t, u]) (h : match P.underlying t, P.underlying u, ev x with
        | some (.slice e), some (.slice _), .reg r _ => (match m r with
          | some (.sl ty l, .own) => (match elemsA m ty (ev y) with
            | some (ys, rs) => if sizeT P e = ty.size ∧ rs.contains r = false then k ⟨[(r, (.sl ty (ys.take l.length ++ l.drop ys.length), .own))], r :: rs⟩ else False
            | none => False)
          | _ => False)
        | _, _, _ => False) : GivesE F K H w m k ((execOp ρ o).run P w) := by
  have hx := hev x
  split at h
  · rename_i e e' r f hu hu' he
    rw [he] at hx; simp only [Rep] at hx
    obtain ⟨hd, h1, e1, _⟩ := hx
    split at h
    · rename_i ty l hmr
      split at h
      · rename_i ys rs hys
        split at h
        · rename_i hsz
          obtain ⟨i, hi, his⟩ := sizeT_pos_info hsz.1
          obtain ⟨basey, capy, ey, hey⟩ := elemsA_rep hm hok.knows hys (hev y)
          have hcr := hm.cont r _ .own hd hmr (by simp) h1
          obtain ⟨c1, c2, c3, c4⟩ := hcr
          have ha1 : c.args.map ρ = #[ρ x, ρ y] := by apply Array.toList_inj.1; simp [hargs]
          have ha2 : c.argTypes = #[t, u] := by apply Array.toList_inj.1; simp [htys]
          rw [call_builtin o ho hc, ha1, ha2, e1, ey]
          simp only [builtin]
          by_cases hn0 : Nat.min ys.length hd.len = 0
          · have hfc : (Builtin.firstCells i.size 0 (.slice basey ys.length capy)).run P w = .ok #[] w := by
              cases basey <;> simp [Builtin.firstCells, loadCells, loadCellsFrom]
            have hrun : (Builtin.copy_ #[t, u] o.type #[.slice (hd.base.map fun b => ⟨b, 0, none⟩) hd.len hd.cap, .slice basey ys.length capy]).run P w = .ok (goInt 0) w := by
              cases hb : hd.base <;> simp [Builtin.copy_, r_under hu, Builtin.lenOf, hn0, r_size hi, hfc, storeCells]
            rw [q_value hrun]
            refine ⟨_, h, ?_, hok, .refl F w⟩
            have hc0 : ys.take l.length ++ l.drop ys.length = l := by
              rcases Nat.eq_zero_or_pos ys.length with h0 | h0
              · rw [List.eq_nil_of_length_eq_zero h0]; simp
              · have hl0 : l.length = 0 := by
                  have : Nat.min ys.length hd.len = 0 := hn0
                  rw [← c2]
                  rcases Nat.lt_or_ge 0 hd.len with h' | h'
                  · have : 0 < min ys.length hd.len := by omega
                    have h2 : min ys.length hd.len = 0 := hn0
                    omega
                  · omega
                rw [List.eq_nil_of_length_eq_zero hl0]; simp
            rw [hc0]
            have : setM m [(r, (Cont.sl ty l, Flag.own))] = m := by
              funext r'
              simp only [setM]
              by_cases hr' : r' = r
              · subst hr'; rw [upd_same, hmr]
              · rw [upd_ne _ _ _ _ hr']
            rw [this]
            exact hm
          · have hmin : 0 < min ys.length hd.len := by
              have : min ys.length hd.len ≠ 0 := hn0
              omega
            have hne : ys ≠ [] := by intro e0; rw [e0] at hmin; simp at hmin
            rcases hey with hey | ⟨by', offy, csy, eby, fzy, g1, g2, g3⟩
            · exact absurd hey hne
            · subst g1
              obtain ⟨hel, hcell⟩ := news_of g2 g3 hne
              rcases c4 with ⟨c4, c5⟩ | ⟨b, cs, e2', fz, q1, q2, q3, q4⟩
              · omega
              · obtain ⟨_, _, _, hcl⟩ := hm.own r _ hd b hmr h1 q1; obtain ⟨cs2, e2, hh⟩ := hcl rfl
                rw [hh] at q2; cases q2
                let n := min ys.length hd.len
                have hnews : ElemsL K ty (ys.take n) ((slab csy offy (ys.length * ty.size)).take (n * ty.size)) := by
                  refine ⟨?_, fun j hj => ?_⟩
                  · have hn1 : n ≤ ys.length := Nat.min_le_left _ _
                    have hn2 : n * ty.size ≤ ys.length * ty.size := Nat.mul_le_mul_right _ hn1
                    have e3 : (ys.take n).length = n := by rw [List.length_take]; omega
                    rw [List.length_take, e3]
                    have := hel.1
                    omega
                  · have hj' : j < n := by simp at hj; omega
                    rw [List.getElem_take]
                    have := hel.2 j (by have : n ≤ ys.length := Nat.min_le_left _ _; omega)
                    have hle : (j + 1) * ty.size ≤ n * ty.size := Nat.mul_le_mul_right _ hj'
                    rw [Nat.add_mul] at hle
                    rw [List.drop_take, List.take_take, Nat.min_eq_left (by omega)]
                    exact this
                let news := (slab csy offy (ys.length * ty.size)).take (n * ty.size)
                have hnl : news.length = n * ty.size := by
                  have h3 := hnews.1
                  have hn1 : n ≤ ys.length := Nat.min_le_left _ _
                  have e3 : (ys.take n).length = n := by rw [List.length_take]; omega
                  rw [e3] at h3
                  exact h3
                have hfc := run_firstCells_some (P := P) w i.size n ⟨by', offy, none⟩ ys.length capy news (by rw [hnl, his]) (fun j u hj => by
                  have hlt : j < n * ty.size := by
                    rcases Nat.lt_or_ge j (n * ty.size) with h' | h'
                    · exact h'
                    · rw [List.getElem?_eq_none (by omega)] at hj; cases hj
                  rw [List.getElem?_take_of_lt hlt] at hj
                  exact hcell j u hj)
                have hfit : n * ty.size ≤ cs.size := Nat.le_trans (Nat.mul_le_mul_right _ (by have : n ≤ hd.len := Nat.min_le_right _ _; omega)) q3
                obtain ⟨w', hr, hup⟩ := Abs.run_storeCells P b 0 _ news w cs 0 hh (by omega) (fun v hv => one_of' (elemsL_one hnews v hv))
                have hrun : (Builtin.copy_ #[t, u] o.type #[.slice (hd.base.map fun b => ⟨b, 0, none⟩) hd.len hd.cap, .slice (some ⟨by', offy, none⟩) ys.length capy]).run P w = .ok (goInt n) w' := by
                  have hnn : ys.length.min hd.len = n := rfl
                  simp only [Builtin.copy_, q1]
                  simp [r_under hu, Builtin.lenOf, r_size hi, hnn, hfc, hr]
                rw [q_value hrun]
                refine ⟨_, h, after_write hok hm hmr h1 q1 (by simpa using hup) ?_ (r :: rs)⟩
                have hlenr : (ys.take l.length ++ l.drop ys.length).length = l.length := by simp; omega
                refine ⟨c1, by rw [c2, hlenr], c3, .inr ⟨b, _, _, (0, 0), q1, by simpa using hup.here, by rw [splice_size]; exact q3, ?_⟩⟩
                have htk : ys.take l.length = ys.take n := by
                  have hn : n = min ys.length l.length := by rw [← c2]
                  rw [hn, List.take_eq_take_iff]
                  omega
                have hdr : l.drop ys.length = l.drop n := by
                  have hn : n = min ys.length l.length := by rw [← c2]
                  rcases Nat.le_total ys.length l.length with h' | h'
                  · rw [hn, Nat.min_eq_left h']
                  · rw [hn, Nat.min_eq_right h', List.drop_length, List.drop_of_length_le h']
                have hol := q4.elemsL (by rw [Nat.zero_add]; exact Nat.le_trans (Nat.mul_le_mul_right _ (by omega)) q3)
                have hrest : ElemsL K ty (l.drop n) ((slab cs 0 (l.length * ty.size)).drop (n * ty.size)) := by
                  refine ⟨?_, fun j hj => ?_⟩
                  · rw [List.length_drop, hol.1, List.length_drop, Nat.sub_mul]
                  · rw [List.getElem_drop]
                    have := hol.2 (n + j) (by simp at hj; omega)
                    rw [Nat.add_mul] at this
                    rw [List.drop_drop]
                    exact this
                have hsp : (splice cs (0 + 0) news) = (news ++ (slab cs 0 (l.length * ty.size)).drop (n * ty.size) ++ cs.toList.drop (l.length * ty.size)).toArray := by
                  apply Array.toList_inj.1
                  rw [splice_list _ _ _ (by omega), hnl]
                  have hcl : l.length * ty.size ≤ cs.size := Nat.le_trans (Nat.mul_le_mul_right _ (by omega)) q3
                  have hnl2 : n * ty.size ≤ l.length * ty.size := Nat.mul_le_mul_right _ (by have : n ≤ hd.len := Nat.min_le_right _ _; omega)
                  have h3 : cs.toList.drop (n * ty.size) = (cs.toList.take (l.length * ty.size)).drop (n * ty.size) ++ cs.toList.drop (l.length * ty.size) := by
                    have h4 : cs.toList.drop (n * ty.size) = (cs.toList.take (l.length * ty.size) ++ cs.toList.drop (l.length * ty.size)).drop (n * ty.size) := by rw [List.take_append_drop]
                    rw [h4, List.drop_append_of_le_length (by simp; omega)]
                  simp only [slab, List.drop_zero, Nat.zero_add, List.take_zero, List.nil_append, List.append_assoc]
                  rw [h3]
                rw [hsp, htk, hdr]
                exact (hnews.append hrest).elems
        · exact absurd h id
      · exact absurd h id
    · exact absurd h id
  · exact absurd h id
end
end Go.Abs
end

section
/- Every operation does what the interpreter says. -/
open Go.RowKit
namespace Go.Abs
section
variable {P : Program} {F : Nat → Prop} {K : Know} {H : Nat → Option Hd} {w : World} {m : Mm} {nx : Nat} {ev : Operand → AVal} {ρ : Operand → Value} {Γ : Env}

/-- A memory's block is turned into one that still agrees. -/
theorem after_memo (hok : WOk F K w) (hm : MRel F K H w m) {spec : Int → Int} {b : Nat} {o o' : Obj} (hb : w.heap[b]? = some o) (ho : MemoObj spec o) (ho' : MemoObj spec o') (hi : K.inv b = some (MemoObj spec)) : AfterE F K H w m ⟨[], []⟩ (w.putObj b o') := by
  have hp : ∀ b', (w.putObj b o').heap[b']? = if b' = b then some o' else w.heap[b']? := by
    intro b'
    by_cases e : b' = b
    · subst e
      rw [if_pos rfl]
      simp [World.putObj, lt_of_heap hb]
    · rw [if_neg e]
      simp [World.putObj, Array.getElem?_setIfInBounds_ne (Ne.symm e)]
  have hc : ∀ cs e fz, o ≠ .cells cs e fz := by
    intro cs e fz h
    obtain ⟨es, c, rfl, _⟩ := ho
    cases h
  refine ⟨?_, ⟨⟨fun b2 cs hcs => ?_, fun b2 p hp2 => ?_⟩, fun b2 hb2 => ?_, hok.inv, hok.apart⟩, ⟨rfl, rfl, rfl, by simp [World.putObj], fun b2 hb2 => ?_, Nat.le_refl _⟩⟩
  · refine hm.world (fun r c f hd b2 h1 h2 h3 h4 => ?_)
    rw [hp, if_neg]
    intro e'
    subst e'
    cases f with
    | dead => exact h2 rfl
    | own => have := (hm.own r c hd b2 h1 h3 h4).2.2.1; rw [hi] at this; cases this
    | frz =>
      obtain ⟨cs, g⟩ := hm.frz r c hd b2 h1 h3 h4
      have := hok.apart _ _ hi
      rw [g] at this; cases this
  · obtain ⟨e, fz, h1⟩ := hok.knows.1 b2 cs hcs
    refine ⟨e, fz, ?_⟩
    rw [hp, if_neg]
    · exact h1
    · intro e'
      subst e'
      rw [hb] at h1
      exact hc _ _ _ (Option.some.inj h1)
  · obtain ⟨o2, h1, h2⟩ := hok.knows.2 b2 p hp2
    by_cases e : b2 = b
    · subst e
      rw [hi] at hp2
      cases hp2
      exact ⟨o', by rw [hp, if_pos rfl], ho'⟩
    · exact ⟨o2, by rw [hp, if_neg e]; exact h1, h2⟩
  · have := hok.lt b2 hb2
    simpa [World.putObj] using this
  · rw [hp, if_neg]
    intro e
    subst e
    exact hok.inv _ _ hi hb2

theorem q_makeMap {k : Q → Prop} (hok : WOk F K w) (hm : MRel F K H w m) (o : Oper) {t : TypeId} {r : Option Operand} (ho : o.op = .makeMap t r) (hr : r.isNone = true) (spec : Int → Int) (h : k (.pure (.sem (memoP spec)))) : Gives P F K H w m nx k ((execOp ρ o).run P w) := by
  have hr' : r = none := by simpa using hr
  subst hr'
  have hrun : (execOp ρ o).run P w = .ok (.value (.map (some w.heap.size))) (w.alloc (.map #[] 0)) := by
    simp only [execOp, ho]
    refine q_value ?_
    simp only [Instr.makeMap, Option.map_none, Sem.run_bind, run_newObj_alloc, Result.andThen_ok, Sem.run_pure]
  rw [hrun]
  let K' : Know := { K with inv := fun b => if b = w.heap.size then some (MemoObj spec) else K.inv b }
  have hnew : K.cells w.heap.size = none ∧ K.inv w.heap.size = none := hok.knows.new (Nat.le_refl _)
  have hinv : ∀ b p, K.inv b = some p → K'.inv b = some p := by
    intro b p h
    show (if b = w.heap.size then _ else K.inv b) = some p
    rw [if_neg]
    · exact h
    · intro e
      subst e
      rw [hnew.2] at h
      cases h
  have hle : K.le K' := ⟨fun _ _ h => h, hinv, fun _ h => h⟩
  have old : ∀ b, b < w.heap.size → (w.alloc (.map #[] 0)).heap[b]? = w.heap[b]? := fun b hb => Below.heap_alloc _ _ _ hb
  refine ⟨_, K', H, h, hle, .refl H, fun r h1 h2 => absurd h1 h2, ⟨w.heap.size, rfl, by simp [K']⟩, ?_, ?_, ?_, fun b hb => ⟨rfl, ?_⟩⟩
  · show MRel F K' H _ (Q.mm (.pure _) nx m)
    have h1 : MRel F K H (w.alloc (.map #[] 0)) m := hm.world (fun r c f hd b h1 h2 h3 h4 => old b (base_lt hm h1 h2 h3 h4))
    refine h1.know hle (fun r c hd b g1 g2 g3 => ?_)
    obtain ⟨_, k1, k2, _⟩ := hm.own r c hd b g1 g2 g3
    refine ⟨k1, ?_⟩
    show (if b = w.heap.size then _ else K.inv b) = none
    rw [if_neg (by have := base_lt hm g1 (by simp) g2 g3; omega)]
    exact k2
  · refine ⟨⟨fun b cs hc => ?_, fun b p hp => ?_⟩, fun b hb => ?_, fun b p hp hb => ?_, fun b p hp => ?_⟩
    · obtain ⟨e, fz, h1⟩ := hok.knows.1 b cs hc
      exact ⟨e, fz, by rw [old b (lt_of_heap h1)]; exact h1⟩
    · have hp2 : (if b = w.heap.size then some (MemoObj spec) else K.inv b) = some p := hp
      by_cases e : b = w.heap.size
      · rw [if_pos e] at hp2
        have e2 := Option.some.inj hp2
        rw [e, ← e2]
        exact ⟨.map #[] 0, World.alloc_heap_new w _, #[], 0, rfl, by simp⟩
      · rw [if_neg e] at hp2
        obtain ⟨o, h1, h2⟩ := hok.knows.2 b p hp2
        exact ⟨o, by rw [old b (lt_of_heap h1)]; exact h1, h2⟩
    · have := hok.lt b hb
      simp; omega
    · have hp : (if b = w.heap.size then some (MemoObj spec) else K.inv b) = some p := hp
      have := hok.lt b hb
      rw [if_neg (by omega)] at hp
      exact hok.inv b p hp hb
    · have hp : (if b = w.heap.size then some (MemoObj spec) else K.inv b) = some p := hp
      split at hp
      · rename_i e; subst e; exact hnew.1
      · exact hok.apart b p hp
  · exact ⟨rfl, rfl, rfl, by simp, fun b hb => old b (hok.lt b hb), Nat.le_refl _⟩
  · show (if b = w.heap.size then _ else K.inv b) = K.inv b
    rw [if_neg (by have := hok.lt b hb; omega)]

theorem e_mapUpdate {k : W → Prop} (hok : WOk F K w) (hm : MRel F K H w m) (hev : ∀ x, Rep K H (ev x) (ρ x)) (o : Oper) {t : TypeId} {a x v : Operand} (ho : o.op = .mapUpdate t a x v) (h : match ev a, ev x, ev v with
    | .sem p, .agg [.int .i64 a], .int .i64 n => if memoT P t then (∃ spec, p = memoP spec ∧ n = spec a) ∧ k ⟨[], []⟩ else False
    | .mref r, x, .int kv n => (match m r with
      | some (.mp mk l clk, .own) => if mapT P t = some mk ∧ kv = mk.kv then (match mk.ofA x with
        | some key => k ⟨[(r, (.mp mk (mput mk.kt l clk key n) (mclk mk.kt l clk key), .own))], [r]⟩
        | none => False) else False
      | _ => False)
    | _, _, _ => False) : GivesE F K H w m k ((execOp ρ o).run P w) := by
  split at h
  · rename_i p i n h1 h2 h3
    split at h
    · rename_i hT
      obtain ⟨⟨spec, rfl, rfl⟩, h⟩ := h
      have r1 := hev a
      have r2 := hev x
      have r3 := hev v
      rw [h1] at r1
      rw [h2] at r2
      rw [h3] at r3
      simp only [Rep] at r1 r2 r3
      obtain ⟨b, e1, hi⟩ := r1
      obtain ⟨cs, e2, hcs⟩ := r2
      have ecs : cs = #[.int .i64 i] := by
        obtain ⟨c, cs', e, hc, hr⟩ := RepL.inv hcs
        simp only [Rep] at hc
        rw [RepL.nil_iff.1 hr] at e
        apply Array.ext'
        rw [e, hc]
      subst ecs
      obtain ⟨ob, hob, hmo⟩ := hok.knows.2 b _ hi
      obtain ⟨o', ho', hrun⟩ := run_mapUpdate_one hT hob hmo i
      have : (execOp ρ o).run P w = .ok .skip (w.putObj b o') := by
        simp [execOp, ho, e1, e2, r3, hrun]
      rw [this]
      exact ⟨_, h, after_memo hok hm hob hmo ho' hi⟩
    · exact absurd h id
  · rename_i r kv n h1 h3
    split at h
    · rename_i mk l clk hmr
      split at h
      · rename_i hT
        obtain ⟨hT, rfl⟩ := hT
        split at h
        · rename_i key hkey
          obtain ⟨_, _, _, _, hint, _⟩ := mapT_spec hT
          have r1 := hev a
          have r3 := hev v
          rw [h1] at r1
          rw [h3] at r3
          simp only [Rep] at r1 r3
          obtain ⟨hd, b, g1, g2, e1⟩ := r1
          have e2 := ofA_rep hint hkey (hev x)
          obtain ⟨c1, c2, c3, b', c4, c5⟩ := hm.cont r _ .own hd hmr (by simp) g1
          rw [g2] at c4
          cases c4
          have hrun := run_mapUpdate_mk hT c5 key n
          have : (execOp ρ o).run P w = .ok .skip (w.putObj b (.map ((mput mk.kt l clk key n).map mk.ent).toArray (mclk mk.kt l clk key))) := by
            simp [execOp, ho, e1, e2, r3, hrun]
          rw [this]
          obtain ⟨q1, q2, q3⟩ := put_region (c' := .mp mk (mput mk.kt l clk key n) (mclk mk.kt l clk key)) (o' := .map ((mput mk.kt l clk key n).map mk.ent).toArray (mclk mk.kt l clk key)) hok hm hmr g1 g2 c5 (fun _ _ _ h => by cases h) rfl
            ⟨c1, c2, c3, b, g2, by rw [heap_put c5, if_pos rfl]⟩
          exact ⟨_, h, q1, q2, q3⟩
        · exact absurd h id
      · exact absurd h id
    · exact absurd h id
  · exact absurd h id

theorem e_delete {k : W → Prop} (hok : WOk F K w) (hm : MRel F K H w m) (hev : ∀ x, Rep K H (ev x) (ρ x)) (o : Oper) {c : Call} {x y : Operand} {t u : TypeId} (ho : o.op = .call c) (hc : c.callee = .builtin .delete) (hargs : c.args.toList = [x, y]) (htys : c.argTypes.toList = [t, u])
    (h : match ev x, ev y with
    | .sem p, .agg [.int .i64 _] => if memoT P t then (∃ spec, p = memoP spec) ∧ k ⟨[], []⟩ else False
    | _, _ => False) : GivesE F K H w m k ((execOp ρ o).run P w) := by
  split at h
  · rename_i p i h1 h2
    split at h
    · rename_i hT
      obtain ⟨⟨spec, rfl⟩, h⟩ := h
      have r1 := hev x
      have r2 := hev y
      rw [h1] at r1
      rw [h2] at r2
      simp only [Rep] at r1 r2
      obtain ⟨b, e1, hi⟩ := r1
      obtain ⟨cs, e2, hcs⟩ := r2
      have ecs : cs = #[.int .i64 i] := by
        obtain ⟨c, cs', e, hc, hr⟩ := RepL.inv hcs
        simp only [Rep] at hc
        rw [RepL.nil_iff.1 hr] at e
        apply Array.ext'
        rw [e, hc]
      subst ecs
      obtain ⟨ob, hob, hmo⟩ := hok.knows.2 b _ hi
      obtain ⟨o', ho', hrun⟩ := run_delete_one (u := u) (ty := o.type) hT hob hmo i
      have ea : c.args = #[x, y] := by apply Array.ext'; simpa using hargs
      have et : c.argTypes = #[t, u] := by apply Array.ext'; simpa using htys
      have : (execOp ρ o).run P w = .ok (.value (.tuple #[])) (w.putObj b o') := by
        simp [execOp, ho, resolve, hc, ea, et, e1, e2, invoke, builtin, hrun, go_sem]
      rw [this]
      exact ⟨_, h, after_memo hok hm hob hmo ho' hi⟩
    · exact absurd h id
  · exact absurd h id

theorem awpQ_sound {k : Q → Prop} (hG : Good P Γ) (hok : WOk F K w) (hm : MRel F K H w m) (hev : ∀ x, Rep K H (ev x) (ρ x)) (hfr : ∀ q, k q → ∀ i, i < q.new.length → H (nx + i) = none) (o : Oper)
    (h : awpQ Γ P o ev nx m k) : Gives P F K H w m nx k ((execOp ρ o).run P w) := by
  unfold awpQ at h
  split at h
  · rename_i x ho; exact q_move hok hm hev hfr o (.inl ho) h
  · rename_i x ho; exact q_move hok hm hev hfr o (.inr ho) h
  · rename_i c a b ho; exact q_pick hok hm hev o ho h
  · rename_i e ho; exact q_alloc hok hm hfr o ho h
  · rename_i e x ho; exact q_box hok hm hev hfr o ho h
  · rename_i t ps ho; exact q_build hok hm hev o ho h
  · rename_i t n ps ho; exact q_buildSlice hok hm hev hfr o ho h
  · rename_i t a ho; exact q_load hok hm hev o ho h
  · rename_i x ho; exact q_nilCheck hok hm hev o ho h
  · rename_i op t x y u ho; exact q_binOp hok hm hev o ho h
  · rename_i op t x ho; exact q_unOp hok hm hev o h ho
  · rename_i s d x ho; exact q_convert hok hm hev o ho h
  · rename_i t r ho
    split at h
    · rename_i hT
      obtain ⟨spec, h⟩ := h
      exact q_makeMap hok hm o ho (by simp only [Bool.and_eq_true] at hT; exact hT.2) spec h
    · exact absurd h id
  · rename_i fn first cap ho; exact q_makeFunc hok hm hev o ho h
  · rename_i t l c ho; exact q_makeSlice hok hm hev hfr o ho h
  · rename_i t x lo hi mx ho; exact q_slice hok hm hev o ho h
  · rename_i s x f ho; exact q_fieldAddr hok hm hev o ho h
  · rename_i s x f ho; exact q_field hok hm hev o ho h
  · rename_i t x i ho; exact q_indexAddr hok hm hev o ho h
  · rename_i t x i ho; exact q_index hok hm hev o ho h
  · rename_i x i ho; exact q_extract hok hm hev o ho h
  · rename_i c ho
    split at h
    · rename_i hc
      split at h
      · rename_i x t ha ht
        split at h
        · rename_i e hu; exact q_len hok hm hev o ho hc ha ht hu h
        · exact absurd h id
      · exact absurd h id
    · rename_i hc
      split at h
      · rename_i x y t u ha ht; exact q_append hok hm hev hfr o ho hc ha ht h
      · exact absurd h id
    · rename_i hc; exact q_max hok hm hev o ho hc h
    · rename_i hc; exact q_min hok hm hev o ho hc h
    · rename_i g hc
      split at h
      · rename_i f first cap hg; exact q_call hG hok hm hev hfr o ho hc hg h
      · exact absurd h id
    · exact absurd h id
  · exact absurd h id

theorem awpE_sound {k : W → Prop} (hok : WOk F K w) (hm : MRel F K H w m) (hev : ∀ x, Rep K H (ev x) (ρ x)) (o : Oper) (h : awpE P o ev m k) : GivesE F K H w m k ((execOp ρ o).run P w) := by
  unfold awpE at h
  split at h
  · rename_i t a x ho; exact e_store hok hm hev o ho h
  · rename_i c ho
    split at h
    · rename_i hc
      split at h
      · rename_i x t ha ht; exact e_clear hok hm hev o ho hc ha ht h
      · exact absurd h id
    · rename_i hc
      split at h
      · rename_i x y t u ha ht; exact e_copy hok hm hev o ho hc ha ht h
      · exact absurd h id
    · rename_i bb _ _ hc
      unfold delE at h
      split at h
      · split at h
        · rename_i x y t u ha ht; exact e_delete hok hm hev o ho hc ha ht h
        · exact absurd h id
      · exact absurd h id
    · exact absurd h id
  · rename_i t a x v ho; exact e_mapUpdate hok hm hev o ho h
  · exact absurd h id
end
end Go.Abs
end

section
/- What an operation gives depends on its operands and on the regions that it reads alone. -/
namespace Go.Abs
section
variable {P : Program} {m m' : Mm} {nx : Nat} {ev ev' : Operand → AVal} {Γ : Env}

theorem fillA_congr {t : TypeId} : ∀ (ps : List (Nat × Operand)) (cells : List AVal), (∀ u ∈ ps, ev u.2 = ev' u.2) → fillA P ev t cells ps = fillA P ev' t cells ps
  | [], _, _ => rfl
  | (i, x) :: ps, cells, h => by
    have hx : ev x = ev' x := h (i, x) (by simp)
    simp only [fillA, hx]
    split
    · split
      · split
        · exact fillA_congr ps _ (fun u hu => h u (by simp [hu]))
        · rfl
      · rfl
    · rfl
theorem partsL_congr {e : TypeId} : ∀ (ps : List (Nat × Operand)) (i : Nat), (∀ u ∈ ps, ev u.2 = ev' u.2) → partsL P m ev e i ps = partsL P m ev' e i ps
  | [], _, _ => rfl
  | (j, x) :: ps, i, h => by
    have hx : ev x = ev' x := h (j, x) (by simp)
    have ih := partsL_congr (e := e) ps (i + 1) (fun u hu => h u (by simp [hu]))
    simp only [partsL, hx, ih]

theorem map_congr' {l : List Operand} (h : ∀ x ∈ l, ev x = ev' x) : l.map ev = l.map ev' := List.map_congr_left h

theorem optmap_congr {x : Option Operand} (h : ∀ y ∈ x.toList, ev y = ev' y) : x.map ev = x.map ev' := by
  cases x with
  | none => rfl
  | some y => simp [h y (by simp)]

theorem awpQ_congr {k : Q → Prop} (o : Oper) (h : ∀ x ∈ o.op.operands.toList, ev x = ev' x) : awpQ Γ P o ev nx m k = awpQ Γ P o ev' nx m k := by
  obtain ⟨dst, op, type, pos, after, guard⟩ := o
  cases op <;> simp only [Op.operands] at h
  case move x => simp only [awpQ, awpQ.moveA, h x (by simp)]
  case assign x => simp only [awpQ, awpQ.moveA, h x (by simp)]
  case pick c a b => simp only [awpQ, h c (by simp), h a (by simp), h b (by simp)]
  case box e x => simp only [awpQ, h x (by simp)]
  case build t ps =>
    have hp := fun cells => fillA_congr (P := P) (t := t) ps.toList cells (fun u hu => h u.2 (by simp only [List.mem_map]; exact ⟨u, hu, rfl⟩))
    simp only [awpQ, buildX, hp]
  case buildSlice t n ps =>
    have hp := fun e i => partsL_congr (P := P) (m := m) (ev := ev) (ev' := ev') (e := e) ps.toList i (fun u hu => h u.2 (by simp only [List.mem_map]; exact ⟨u, hu, rfl⟩))
    simp only [awpQ, hp]
  case load t x => simp only [awpQ, h x (by simp)]
  case nilCheck x => simp only [awpQ, h x (by simp)]
  case binOp op t x y u => simp only [awpQ, h x (by simp), h y (by simp)]
  case unOp op t x => simp only [awpQ, h x (by simp)]
  case convert s d x => simp only [awpQ, h x (by simp)]
  case makeFunc fn a b =>
    have h1 := map_congr' (l := a.toList) (ev := ev) (ev' := ev') (fun x hx => h x (by simp at hx ⊢; exact .inl hx))
    have h2 := map_congr' (l := b.toList) (ev := ev) (ev' := ev') (fun x hx => h x (by simp at hx ⊢; exact .inr hx))
    simp only [awpQ, h1, h2]
  case makeSlice t l c => simp only [awpQ, h l (by simp), h c (by simp)]
  case slice t x lo hi mx =>
    have h1 := optmap_congr (x := lo) (ev := ev) (ev' := ev') (fun y hy => h y (by cases lo <;> simp_all))
    have h2 := optmap_congr (x := hi) (ev := ev) (ev' := ev') (fun y hy => h y (by cases lo <;> cases hi <;> simp_all))
    have h3 := optmap_congr (x := mx) (ev := ev) (ev' := ev') (fun y hy => h y (by cases lo <;> cases hi <;> cases mx <;> simp_all))
    simp only [awpQ, h x (by cases lo <;> cases hi <;> cases mx <;> simp), h1, h2, h3]
  case fieldAddr s x f => simp only [awpQ, h x (by simp)]
  case field s x f => simp only [awpQ, h x (by simp)]
  case indexAddr t x i => simp only [awpQ, h x (by simp), h i (by simp)]
  case index t x i => simp only [awpQ, h x (by simp), h i (by simp)]
  case extract x i => simp only [awpQ, h x (by simp)]
  case call c =>
    obtain ⟨callee, args, tys⟩ := c
    have h1 := map_congr' (l := args.toList) (ev := ev) (ev' := ev') (fun x hx => h x (by simp only [Call.operands, Array.toList_append, List.mem_append]; exact .inr hx))
    cases callee with
    | value g =>
      have hg := h g (by simp [Call.operands])
      simp only [awpQ, h1, hg]
    | invoke r n => simp only [awpQ]
    | builtin b =>
      have ha : ∀ x ∈ args.toList, ev x = ev' x := fun x hx => h x (by simp only [Call.operands, Array.toList_append, List.mem_append]; exact .inr hx)
      cases b <;> simp only [awpQ, h1]
      case len =>
        split
        · rename_i x t hx ht
          have := ha x (by rw [hx]; simp)
          simp only [this]
        · rfl
      case append =>
        split
        · rename_i x y t u hx ht
          have e1 := ha x (by rw [hx]; simp)
          have e2 := ha y (by rw [hx]; simp)
          simp only [e1, e2]
        · rfl
  all_goals simp only [awpQ]

theorem awpE_congr {k : W → Prop} (o : Oper) (h : ∀ x ∈ o.op.operands.toList, ev x = ev' x) : awpE P o ev m k = awpE P o ev' m k := by
  obtain ⟨dst, op, type, pos, after, guard⟩ := o
  cases op <;> simp only [Op.operands] at h
  case store t a x => simp only [awpE, h a (by simp), h x (by simp)]
  case mapUpdate t a x v => simp only [awpE, h a (by simp), h x (by simp), h v (by simp)]
  case call c =>
    obtain ⟨callee, args, tys⟩ := c
    have ha : ∀ x ∈ args.toList, ev x = ev' x := fun x hx => h x (by simp only [Call.operands, Array.toList_append, List.mem_append]; exact .inr hx)
    cases callee with
    | value g => simp only [awpE]
    | invoke r n => simp only [awpE]
    | builtin b =>
      cases b <;> simp only [awpE]
      case clear =>
        split
        · rename_i x t hx ht
          have e1 := ha x (by rw [hx]; simp)
          simp only [e1]
        · rfl
      case copy =>
        split
        · rename_i x y t u hx ht
          have e1 := ha x (by rw [hx]; simp)
          have e2 := ha y (by rw [hx]; simp)
          simp only [e1, e2]
        · rfl
      case delete =>
        simp only [delE]
        split
        · rename_i x y t u hx ht
          have e1 := ha x (by rw [hx]; simp)
          have e2 := ha y (by rw [hx]; simp)
          simp only [e1, e2]
        · rfl
      all_goals rfl
  all_goals simp only [awpE]

/-! ### the memory -/

theorem view_stable : ∀ (d : Nat), (∀ (v v' : AVal) (rs : List (Nat × Flag)), view m d v = some (v', rs) → (∀ r ∈ nums rs, m' r = m r) → view m' d v = some (v', rs)) ∧
    (∀ (vs vs' : List AVal) (rs : List (Nat × Flag)), viewX (view m d) vs = some (vs', rs) → (∀ r ∈ nums rs, m' r = m r) → viewX (view m' d) vs = some (vs', rs)) := by
  have napp : ∀ (a b : List (Nat × Flag)), nums (a ++ b) = nums a ++ nums b := by
    intro a
    induction a with
    | nil => intro b; rfl
    | cons u a ih => intro b; obtain ⟨r, f⟩ := u; simp [nums, ih]
  have hL : ∀ d, (∀ (v v' : AVal) (rs : List (Nat × Flag)), view m d v = some (v', rs) → (∀ r ∈ nums rs, m' r = m r) → view m' d v = some (v', rs)) →
      (∀ (vs vs' : List AVal) (rs : List (Nat × Flag)), viewX (view m d) vs = some (vs', rs) → (∀ r ∈ nums rs, m' r = m r) → viewX (view m' d) vs = some (vs', rs)) := by
    intro d hv vs
    induction vs with
    | nil => intro vs' rs h _; simpa [viewX] using h
    | cons v vs ih =>
      intro vs' rs h hr
      simp only [viewX] at h ⊢
      split at h
      · rename_i v' r1 hv1
        split at h
        · rename_i vs1 r2 hv2
          simp only [Option.some.injEq, Prod.mk.injEq] at h
          obtain ⟨rfl, rfl⟩ := h
          rw [napp] at hr
          rw [hv _ _ _ hv1 (fun r h1 => hr r (by simp [h1])), ih _ _ hv2 (fun r h1 => hr r (by simp [h1]))]
        · cases h
      · cases h
  intro d
  induction d with
  | zero => exact ⟨fun v v' rs h _ => by simp [view] at h, hL 0 (fun v v' rs h _ => by simp [view] at h)⟩
  | succ d ih =>
    have hv : ∀ (v v' : AVal) (rs : List (Nat × Flag)), view m (d + 1) v = some (v', rs) → (∀ r ∈ nums rs, m' r = m r) → view m' (d + 1) v = some (v', rs) := by
      intro v v' rs h hr
      cases v with
      | unk => simpa [view] using h
      | nilc => simp [view] at h
      | eptr r i j => simp [view] at h
      | aptr r => simp [view] at h
      | bool b => simpa [view] using h
      | int kd n => simpa [view] using h
      | nils t => simpa [view] using h
      | imm t l f => simpa [view] using h
      | arrv t l => simpa [view] using h
      | yieldv => simp [view] at h
      | nilfn => simpa [view] using h
      | sem p => simpa [view] using h
      | mref r => simpa [view] using h
      | reg r0 f0 =>
        simp only [view] at h ⊢
        have key : r0 ∈ nums rs := by
          split at h
          · split at h
            · cases h
            · simp only [Option.some.injEq, Prod.mk.injEq] at h
              obtain ⟨_, rfl⟩ := h
              simp [nums]
          · cases h
        rw [hr r0 key]; exact h
      | sub r0 lo len f0 =>
        simp only [view] at h ⊢
        have key : r0 ∈ nums rs := by
          split at h
          · split at h
            · cases h
            · simp only [Option.some.injEq, Prod.mk.injEq] at h
              obtain ⟨_, rfl⟩ := h
              simp [nums]
          · cases h
        rw [hr r0 key]; exact h
      | ptr r0 off =>
        simp only [view] at h ⊢
        split at h
        · rename_i cells g hg
          split at h
          · cases h
          · rename_i hgd
            split at h
            · rename_i cs' rs' hvv
              simp only [Option.some.injEq, Prod.mk.injEq] at h
              obtain ⟨rfl, rfl⟩ := h
              rw [hr r0 (by simp [nums]), hg]
              try simp only
              rw [if_neg hgd, ih.2 _ _ _ hvv (fun r h1 => hr r (by simp [nums, h1]))]
            · cases h
        · cases h
      | iptr cells =>
        simp only [view] at h ⊢
        split at h
        · rename_i cs' rs' hvv
          simp only [Option.some.injEq, Prod.mk.injEq] at h
          obtain ⟨rfl, rfl⟩ := h
          rw [ih.2 _ _ _ hvv hr]
        · cases h
      | agg cells =>
        simp only [view] at h ⊢
        split at h
        · rename_i cs' rs' hvv
          simp only [Option.some.injEq, Prod.mk.injEq] at h
          obtain ⟨rfl, rfl⟩ := h
          rw [ih.2 _ _ _ hvv hr]
        · cases h
      | tup cells =>
        simp only [view] at h ⊢
        split at h
        · rename_i cs' rs' hvv
          simp only [Option.some.injEq, Prod.mk.injEq] at h
          obtain ⟨rfl, rfl⟩ := h
          rw [ih.2 _ _ _ hvv hr]
        · cases h
      | fn f0 a b =>
        simp only [view] at h ⊢
        split at h
        · rename_i a' r1 hv1
          split at h
          · rename_i b' r2 hv2
            simp only [Option.some.injEq, Prod.mk.injEq] at h
            obtain ⟨rfl, rfl⟩ := h
            rw [napp] at hr
            rw [ih.2 _ _ _ hv1 (fun r h1 => hr r (by simp [h1])), ih.2 _ _ _ hv2 (fun r h1 => hr r (by simp [h1]))]
          · cases h
        · cases h
    exact ⟨hv, hL (d + 1) hv⟩

theorem partsL_stable {e : TypeId} : ∀ (ps : List (Nat × Operand)) (i : Nat) (cells : List (List AVal)) (rs : List (Nat × Flag)), partsL P m ev e i ps = some (cells, rs) → (∀ r ∈ nums rs, m' r = m r) → partsL P m' ev e i ps = some (cells, rs)
  | [], _, _, _, h, _ => by simpa [partsL] using h
  | (j, x) :: ps, i, cells, rs, h, hr => by
    have napp : ∀ (a b : List (Nat × Flag)), nums (a ++ b) = nums a ++ nums b := by
      intro a
      induction a with
      | nil => intro b; rfl
      | cons u a ih => intro b; obtain ⟨r, f⟩ := u; simp [nums, ih]
    simp only [partsL] at h ⊢
    split at h
    · rename_i hij
      rw [if_pos hij]
      split at h
      · rename_i v r1 hv
        split at h
        · rename_i as rest r2 has hrest
          simp only [Option.some.injEq, Prod.mk.injEq] at h
          obtain ⟨rfl, rfl⟩ := h
          rw [napp] at hr
          rw [(view_stable 6).1 _ _ _ hv (fun r h1 => hr r (by simp [h1]))]
          try simp only
          rw [has, partsL_stable ps (i + 1) _ _ hrest (fun r h1 => hr r (by simp [h1]))]
        · cases h
      · cases h
    · cases h

theorem elemsA_stable {t : Ty} {v : AVal} {ys : List t.den} {rs : List Nat} (h : elemsA m t v = some (ys, rs)) (hr : ∀ r ∈ rs, m' r = m r) : elemsA m' t v = some (ys, rs) := by
  unfold elemsA at h ⊢
  cases v <;> try exact h
  case reg r f =>
    simp only at h ⊢
    have key : r ∈ rs := by
      split at h
      · split at h
        · split at h
          · cases h
          · simp only [Option.some.injEq, Prod.mk.injEq] at h
            obtain ⟨_, rfl⟩ := h
            simp
        · cases h
      · cases h
    rw [hr r key]; exact h
  case sub r lo len f =>
    simp only at h ⊢
    have key : r ∈ rs := by
      split at h
      · split at h
        · split at h
          · cases h
          · simp only [Option.some.injEq, Prod.mk.injEq] at h
            obtain ⟨_, rfl⟩ := h
            simp
        · cases h
      · cases h
    rw [hr r key]; exact h

theorem lenA_stable {q : Q} {x : AVal} (h : lenA m x (fun q' => q' = q)) (hr : ∀ r ∈ q.reads, m' r = m r) : lenA m' x (fun q' => q' = q) := by
  unfold lenA at h ⊢
  cases x <;> try exact h
  case reg r f =>
    simp only at h ⊢
    split at h
    · rename_i ty l g hmr
      split at h
      · exact absurd h id
      · rename_i hg
        rw [hr r (by rw [← h]; simp [Q.read]), hmr]
        simp only [hg, if_false]
        exact h
    · exact absurd h id

theorem readV_stable {q : Q} {r : Nat} {v : AVal} (h : readV m r v (fun q' => q' = q)) (hr : ∀ r ∈ q.reads, m' r = m r) : readV m' r v (fun q' => q' = q) := by
  unfold readV at h ⊢
  split at h
  · split at h
    · rename_i hg
      split at h
      · rename_i v' rs hv
        simp only [hg, if_true]
        rw [(view_stable 6).1 _ _ _ hv (fun r h1 => hr r (by rw [← h]; simp [h1]))]
        exact h
      · exact absurd h id
    · rename_i hg
      simp only [hg]
      exact h
  · exact h

theorem loadA_stable {q : Q} {t : TypeId} {x : AVal} (h : loadA P m t x (fun q' => q' = q)) (hr : ∀ r ∈ q.reads, m' r = m r) : loadA P m' t x (fun q' => q' = q) := by
  unfold loadA at h ⊢
  cases x <;> try exact h
  case ptr r off =>
    simp only at h ⊢
    split at h
    · rename_i cells f hmr
      split at h
      · exact absurd h id
      · rename_i hf
        split at h
        · rename_i v hv
          have hrr : r ∈ q.reads := by
            unfold readV at h
            split at h
            · split at h
              · split at h
                · rw [← h]; simp
                · exact absurd h id
              · rw [← h]; simp [Q.read]
            · rw [← h]; simp [Q.read]
          rw [hr r hrr, hmr]
          simp only [hf, if_false, hv]
          exact readV_stable h hr
        · exact absurd h id
    · exact absurd h id
  case eptr r i j =>
    simp only at h ⊢
    split at h
    · rename_i ty l f hmr
      split at h
      · exact absurd h id
      · rename_i hf
        obtain ⟨hi, h⟩ := h
        split at h
        · rename_i v hv
          rw [hr r (by rw [← h]; simp [Q.read]), hmr]
          simp only [hf, if_false]
          refine ⟨hi, ?_⟩
          simp only [hv]
          exact h
        · exact absurd h id
    · exact absurd h id
  case aptr r =>
    simp only at h ⊢
    split at h
    · rename_i ty l f n et hmr hu
      split at h
      · exact absurd h id
      · rename_i hf
        rw [hr r (by rw [← h.2]; simp [Q.read]), hmr, hu]
        simp only [hf, if_false]
        exact h
    · exact absurd h id

theorem appendA_stable {q : Q} {t u : TypeId} {x y : AVal} (h : appendA P nx m t u x y (fun q' => q' = q)) (hr : ∀ r ∈ q.reads, m' r = m r) : appendA P nx m' t u x y (fun q' => q' = q) := by
  unfold appendA at h ⊢
  split at h
  · split at h
    · rename_i htu
      rw [if_pos htu]
      split at h
      · split at h
        · rename_i hz
          rw [if_pos hz]
          split at h
          · rename_i ys rs hys
            split at h
            · rw [elemsA_stable hys (fun r h1 => hr r (by rw [← h.2]; exact h1))]
              exact h
            · split at h
              · rename_i ht
                rw [elemsA_stable hys (fun r h1 => hr r (by rw [← h.2]; exact h1))]
                try simp only
                rw [if_pos ht]
                exact h
              · exact absurd h id
            · split at h
              · rename_i ht
                rw [elemsA_stable hys (fun r h1 => hr r (by rw [← h.2.2]; exact h1))]
                try simp only
                rw [dif_pos ht]
                exact h
              · exact absurd h id
            · rename_i r f
              split at h
              · rename_i t' l hmr
                split at h
                · rename_i ht
                  rw [elemsA_stable hys (fun r h1 => hr r (by rw [← h.2]; exact List.mem_cons_of_mem _ h1))]
                  try simp only
                  rw [hr r (by rw [← h.2]; exact List.mem_cons_self), hmr]
                  try simp only
                  rw [dif_pos ht]
                  exact h
                · exact absurd h id
              · exact absurd h id
            · rename_i r lo len
              split at h
              · rename_i t' l f hmr
                split at h
                · rename_i ht
                  split at h
                  · exact absurd h id
                  · rename_i hf
                    rw [elemsA_stable hys (fun r h1 => hr r (by rw [← h.2.2]; exact List.mem_cons_of_mem _ h1))]
                    try simp only
                    rw [hr r (by rw [← h.2.2]; exact List.mem_cons_self), hmr]
                    try simp only
                    rw [dif_pos ht, if_neg hf]
                    exact h
                · exact absurd h id
              · exact absurd h id
            · exact absurd h id
          · exact absurd h id
        · exact absurd h id
      · exact absurd h id
    · exact absurd h id
  · exact absurd h id

theorem sliceA_stable {q : Q} {t : TypeId} {x : AVal} {lo hi mx : Option AVal} (h : sliceA P m t x lo hi mx (fun q' => q' = q)) (hr : ∀ r ∈ q.reads, m' r = m r) : sliceA P m' t x lo hi mx (fun q' => q' = q) := by
  unfold sliceA at h ⊢
  split at h
  · split at h
    · rename_i n e r hu
      split at h
      · rename_i ty l f hmr
        split at h
        · exact absurd h id
        · rename_i hf
          rw [hr r (by rw [← h.2]; simp [Q.read]), hmr]
          try simp only
          rw [if_neg hf]
          exact h
      · exact absurd h id
    · exact absurd h id
  all_goals (try exact absurd h id)
  all_goals
    split at h
    · exact h
    · rename_i e r f hu
      split at h
      · rename_i ty l g hmr
        split at h
        · rename_i hg
          rw [hr r (by rw [← h.2]; simp [Q.read]), hmr]
          try simp only
          rw [if_pos hg]
          exact h
        · exact absurd h id
      · exact absurd h id
    · exact absurd h id

theorem indexAddrA_stable {q : Q} {t : TypeId} {x i : AVal} (h : indexAddrA P m t x i (fun q' => q' = q)) (hr : ∀ r ∈ q.reads, m' r = m r) : indexAddrA P m' t x i (fun q' => q' = q) := by
  unfold indexAddrA at h ⊢
  split at h
  · split at h
    · split at h
      · exact h
      · rename_i r f
        split at h
        · rename_i ty l g hmr
          split at h
          · rename_i hg
            rw [hr r (by rw [← h.2]; simp [Q.read]), hmr]
            try simp only
            rw [if_pos hg]
            exact h
          · exact absurd h id
        · exact absurd h id
      · rename_i r lo len f
        split at h
        · rename_i ty l g hmr
          split at h
          · rename_i hg
            rw [hr r (by rw [← h.2]; simp [Q.read]), hmr]
            try simp only
            rw [if_pos hg]
            exact h
          · exact absurd h id
        · exact absurd h id
      · exact absurd h id
    · split at h
      · rename_i r
        split at h
        · rename_i ty l g hmr
          split at h
          · rename_i hg
            rw [hr r (by rw [← h.2]; simp [Q.read]), hmr]
            try simp only
            rw [if_pos hg]
            exact h
          · exact absurd h id
        · exact absurd h id
      · exact absurd h id
    · exact absurd h id
  · exact absurd h id

theorem callA_stable {q : Q} {f : FuncId} {args : List AVal} (h : callA Γ nx m f args (fun q' => q' = q)) (hr : ∀ r ∈ q.reads, m' r = m r) : callA Γ nx m' f args (fun q' => q' = q) := by
  unfold callA at h ⊢
  split at h
  · rename_i vs rs c hv hc
    split at h
    rotate_left
    · exact h.elim
    rename_i hnm
    obtain ⟨rv, rcs, hd⟩ := (c.res vs []).det
    have h2 := (hd _).1 h.2
    have : viewAll m' args = some (vs, rs) := (view_stable 6).2 _ _ _ hv (fun r h1 => hr r (by rw [← h2]; exact h1))
    rw [this, hc]
    simp only
    rw [if_pos hnm]
    exact h
  · exact absurd h id

/-- An operation reads no region but those that it says it read. -/
theorem awpQ_stable {q : Q} (o : Oper) (h : awpQ Γ P o ev nx m (fun q' => q' = q)) (hr : ∀ r ∈ q.reads, m' r = m r) : awpQ Γ P o ev nx m' (fun q' => q' = q) := by
  obtain ⟨dst, op, type, pos, after, guard⟩ := o
  cases op <;> simp only [awpQ] at h ⊢ <;> (try exact h)
  case buildSlice t n ps =>
    split at h
    · split at h
      · split at h
        · rename_i hz
          rw [if_pos hz]
          split at h
          · rename_i cells rs hp
            split at h
            · rename_i l hl
              rw [partsL_stable ps.toList 0 cells rs hp (fun r h1 => hr r (by rw [← h]; exact h1))]
              simp only [hl]
              exact h
            · exact absurd h id
          · exact absurd h id
        · exact absurd h id
      · exact absurd h id
    · exact absurd h id
  case load t a => exact loadA_stable h hr
  case slice t x lo hi mx => exact sliceA_stable h hr
  case indexAddr t x i => exact indexAddrA_stable h hr
  case call c =>
    obtain ⟨callee, args, tys⟩ := c
    cases callee with
    | invoke r n => exact h
    | value g =>
      simp only at h ⊢
      split at h
      · exact callA_stable h hr
      · exact absurd h id
    | builtin b =>
      cases b <;> simp only at h ⊢ <;> (try exact h)
      case len =>
        split at h
        · split at h
          · exact lenA_stable h hr
          · exact absurd h id
        · exact absurd h id
      case append =>
        split at h
        · exact appendA_stable h hr
        · exact absurd h id

theorem awpE_stable {wr : W} (o : Oper) (h : awpE P o ev m (fun x => x = wr)) (hr : ∀ r ∈ wr.reads, m' r = m r) : awpE P o ev m' (fun x => x = wr) := by
  obtain ⟨dst, op, type, pos, after, guard⟩ := o
  cases op <;> simp only [awpE] at h ⊢ <;> (try exact h)
  case store t a x =>
    split at h
    · rename_i r he
      split at h
      · rename_i ty' l ty l' hmr hx
        split at h
        · rename_i ht
          rw [hr r (by rw [← h.2.2.2]; simp), hmr, hx]
          try simp only
          rw [dif_pos ht]
          exact h
        · exact absurd h id
      · exact absurd h id
    · rename_i r off he
      split at h
      · rename_i cells xs hmr hx
        split at h
        · rename_i hc
          rw [hr r (by rw [← h]; simp), hmr, hx]
          try simp only
          rw [if_pos hc]
          exact h
        · exact absurd h id
      · exact absurd h id
    · rename_i r i j he
      split at h
      · rename_i ty l xs hmr hx
        split at h
        · rename_i hc
          obtain ⟨hi, h⟩ := h
          split at h
          · rename_i x' hw
            rw [hr r (by rw [← h]; simp), hmr, hx]
            try simp only
            rw [if_pos hc]
            refine ⟨hi, ?_⟩
            rw [hw]
            exact h
          · exact absurd h id
        · exact absurd h id
      · exact absurd h id
    · exact absurd h id
  case mapUpdate t a x v =>
    split at h
    · split at h
      · rename_i hz; rw [if_pos hz]; exact h
      · exact absurd h id
    · rename_i r kv n h1 h3
      split at h
      · rename_i mk l clk hmr
        split at h
        · rename_i hz
          split at h
          · rename_i key hkey
            rw [hr r (by rw [← h]; simp), hmr]
            try simp only
            rw [if_pos hz, hkey]
            exact h
          · exact absurd h id
        · exact absurd h id
      · exact absurd h id
    · exact absurd h id
  case call c =>
    obtain ⟨callee, args, tys⟩ := c
    cases callee with
    | invoke r n => exact h
    | value g => exact h
    | builtin b =>
      cases b <;> simp only at h ⊢ <;> (try exact h)
      case clear =>
        split at h
        · split at h
          · rename_i e r f hu he
            split at h
            · rename_i ty l hmr
              split at h
              · rename_i hz
                rw [hr r (by rw [← h]; simp), hmr]
                try simp only
                rw [if_pos hz]
                exact h
              · exact absurd h id
            · exact absurd h id
          · exact absurd h id
        · exact absurd h id
      case copy =>
        split at h
        · split at h
          · rename_i e e' r f hu hu' he
            split at h
            · rename_i ty l hmr
              split at h
              · rename_i ys rs hys
                split at h
                · rename_i hz
                  rw [hr r (by rw [← h]; simp), hmr]
                  try simp only
                  rw [elemsA_stable hys (fun r h1 => hr r (by rw [← h]; exact List.mem_cons_of_mem _ h1))]
                  try simp only
                  rw [if_pos hz]
                  exact h
                · exact absurd h id
              · exact absurd h id
            · exact absurd h id
          · exact absurd h id
        · exact absurd h id
end
end Go.Abs
end

