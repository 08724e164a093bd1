/- Part 1 of the road to this seat's statements: lemmas about a small interpreter over the model's code, and about the functions that it is used on. No condition of its own. -/
import Derived.Calls
import Derived.Laws.World
import Derived.Orders
import Derived.Scope
import Derived.Below
import Derived.KernelRfl
import Derived.Still
import Derived.Laws.Sem
import Derived.Laws.StructEq
import Derived.ChangeKeysEq
import Derived.Laws.Append
import Derived.Laws.MakeOwn
import Derived.Laws.Tables

section
/- The abstract values of a small interpreter over the model's code, and what it means that a machine's value is such an abstract value. -/
namespace Go.Abs

/-- Types of plain data: what a slice's elements may be. -/
inductive Ty where
  | int (k : IntKind)
  | bool
  | slice (e : Ty)
  | pair (a b : Ty)
  deriving DecidableEq

def Ty.den : Ty → Type
  | .int _ => Int
  | .bool => Bool
  | .slice e => List e.den
  | .pair a b => a.den × b.den

def Ty.size : Ty → Nat
  | .int _ => 1
  | .bool => 1
  | .slice _ => 1
  | .pair a b => a.size + b.size

def Ty.zero : (t : Ty) → t.den
  | .int _ => (0 : Int)
  | .bool => false
  | .slice _ => []
  | .pair a b => (a.zero, b.zero)

theorem Ty.size_pos (t : Ty) : 0 < t.size := by
  induction t <;> simp [Ty.size] <;> omega

/-- What is known for good: the cells of blocks that nobody writes any more; and, of other blocks, a property that each keeps. -/
structure Know where
  cells : Nat → Option (Array Value)
  inv : Nat → Option (Obj → Prop)
  y : Option Nat

/-- The same, of an activation that may ask for rounds of this loop. -/
def Know.toY (K : Know) (y : Option Nat) : Know := { K with y := y }

structure Know.le (K K' : Know) : Prop where
  cells : ∀ b cs, K.cells b = some cs → K'.cells b = some cs
  inv : ∀ b p, K.inv b = some p → K'.inv b = some p
  y : ∀ l, K.y = some l → K'.y = some l

/-- The same, whatever loop is meant. -/
structure Know.leW (K K' : Know) : Prop where
  cells : ∀ b cs, K.cells b = some cs → K'.cells b = some cs
  inv : ∀ b p, K.inv b = some p → K'.inv b = some p
theorem Know.le.toW {K K' : Know} (h : K.le K') : K.leW K' := ⟨h.cells, h.inv⟩

theorem Know.le.refl (K : Know) : K.le K := ⟨fun _ _ h => h, fun _ _ h => h, fun _ h => h⟩
theorem Know.le.trans {A B C : Know} (h : A.le B) (k : B.le C) : A.le C :=
  ⟨fun b cs x => k.cells b cs (h.cells b cs x), fun b p x => k.inv b p (h.inv b p x), fun l x => k.y l (h.y l x)⟩
theorem Know.le.toY {A B : Know} (h : A.le B) (y : Option Nat) : (A.toY y).le (B.toY y) := ⟨h.cells, h.inv, fun _ x => x⟩

/-- A property of values that needs only what is known, and stays. -/
structure SemP where
  P : Know → Value → Prop
  mono : ∀ K K' v, K.leW K' → P K v → P K' v
  cell : ∀ K v, P K v → ∃ b, v = .map b

inductive AVal where
  | unk
  | bool (b : Bool)
  | int (k : IntKind) (n : Int)
  | nilc
  | nils (t : Ty)
  | imm (t : Ty) (l : List t.den) (full : Bool)
  | reg (r : Nat) (full : Bool)
  | sub (r : Nat) (lo len : Nat) (full : Bool)
  | ptr (r off : Nat)
  | eptr (r i off : Nat)
  | aptr (r : Nat)
  | iptr (cells : List AVal)
  | agg (cells : List AVal)
  | arrv (t : Ty) (l : List t.den)
  | tup (vs : List AVal)
  | fn (f : Fn) (first cap : List AVal)
  | nilfn
  | yieldv
  | sem (p : SemP)

/-- What a block's region holds. -/
inductive Cont where
  | box (cells : List AVal)
  | sl (t : Ty) (l : List t.den)

inductive Flag where
  | own
  | frz
  | dead
  deriving DecidableEq

/-- Where a region lies. -/
structure Hd where
  base : Option Nat
  sz : Nat
  len : Nat
  cap : Nat

/-- n cells from o on -/
def slab (cs : Array Value) (o n : Nat) : List Value := (cs.toList.drop o).take n

def ElemsBy {α : Type} (K : Know) (sz : Nat) (R : α → List Value → Prop) (l : List α) (base : Option Addr) : Prop :=
  l = [] ∨ ∃ b off arr, base = some ⟨b, off, none⟩ ∧ K.cells b = some arr ∧ ∀ i (h : i < l.length), R l[i] (slab arr (off + i * sz) sz)

def DenRep (K : Know) : (t : Ty) → t.den → List Value → Prop
  | .int k, n, cs => cs = [Value.int k n]
  | .bool, b, cs => cs = [Value.bool b]
  | .slice e, l, cs => ∃ base cap, cs = [Value.slice base l.length cap] ∧ l.length ≤ cap ∧ ElemsBy K e.size (DenRep K e) l base
  | .pair a b, x, cs => ∃ c1 c2, cs = c1 ++ c2 ∧ DenRep K a x.1 c1 ∧ DenRep K b x.2 c2

def SliceRep (K : Know) (t : Ty) (l : List t.den) (full : Bool) (v : Value) : Prop :=
  ∃ base cap, v = Value.slice base l.length cap ∧ l.length ≤ cap ∧ (full = true → cap = l.length) ∧ ElemsBy K t.size (DenRep K t) l base

def Elems (K : Know) (t : Ty) (l : List t.den) (cs : Array Value) (off : Nat) : Prop :=
  ∀ i (h : i < l.length), DenRep K t l[i] (slab cs (off + i * t.size) t.size)

mutual
def Rep (K : Know) (H : Nat → Option Hd) : AVal → Value → Prop
  | .unk, _ => True
  | .bool b, v => v = .bool b
  | .int k n, v => v = .int k n
  | .nilc, v => v = .slice none 0 0
  | .nils _, v => v = .slice none 0 0
  | .imm t l full, v => SliceRep K t l full v
  | .reg r full, v => ∃ hd, H r = some hd ∧ v = .slice (hd.base.map fun b => ⟨b, 0, none⟩) hd.len hd.cap ∧ (full = true → hd.cap = hd.len)
  | .sub r lo len full, v => ∃ hd cap base, H r = some hd ∧ v = .slice base len cap ∧ lo + cap ≤ hd.cap ∧ len ≤ cap ∧ lo + len ≤ hd.len ∧ (full = true → cap = len) ∧
      (cap = 0 ∨ ∃ b, hd.base = some b ∧ base = some ⟨b, lo * hd.sz, none⟩)
  | .ptr r off, v => ∃ hd b, H r = some hd ∧ hd.base = some b ∧ v = .pointer (some ⟨b, off, none⟩)
  | .eptr r i off, v => ∃ hd b, H r = some hd ∧ hd.base = some b ∧ v = .pointer (some ⟨b, i * hd.sz + off, none⟩)
  | .aptr r, v => ∃ hd b, H r = some hd ∧ hd.base = some b ∧ hd.cap = hd.len ∧ v = .pointer (some ⟨b, 0, none⟩)
  | .iptr cells, v => ∃ b off arr, v = .pointer (some ⟨b, off, none⟩) ∧ K.cells b = some arr ∧ RepL K H cells (slab arr off cells.length)
  | .agg cells, v => ∃ cs, v = .agg cs ∧ RepL K H cells cs.toList
  | .arrv t l, v => ∃ cs, v = .agg cs ∧ cs.size = l.length * t.size ∧ Elems K t l cs 0
  | .tup vs, v => ∃ cs, v = .tuple cs ∧ RepL K H vs cs.toList
  | .fn f first cap, v => ∃ fi ca, v = .func f fi ca ∧ RepL K H first fi.toList ∧ RepL K H cap ca.toList
  | .nilfn, v => v = .nilFunc
  | .yieldv, v => ∃ l, K.y = some l ∧ v = .func (.yield l) #[] #[]
  | .sem p, v => p.P K v
def RepL (K : Know) (H : Nat → Option Hd) : List AVal → List Value → Prop
  | [], cs => cs = []
  | a :: as, cs => ∃ c cs', cs = c :: cs' ∧ Rep K H a c ∧ RepL K H as cs'
end

/-! ### growing knowledge -/

theorem ElemsBy.mono {α : Type} {K K' : Know} {sz : Nat} {R R' : α → List Value → Prop} {l : List α} {base : Option Addr}
    (hK : K.le K') (hR : ∀ x cs, R x cs → R' x cs) (h : ElemsBy K sz R l base) : ElemsBy K' sz R' l base := by
  rcases h with h | ⟨b, off, arr, h1, h2, h3⟩
  · exact .inl h
  · exact .inr ⟨b, off, arr, h1, hK.cells _ _ h2, fun i hi => hR _ _ (h3 i hi)⟩

theorem DenRep.mono {K K' : Know} (hK : K.le K') : ∀ (t : Ty) (x : t.den) (cs : List Value), DenRep K t x cs → DenRep K' t x cs
  | .int _, _, _, h => h
  | .bool, _, _, h => h
  | .slice e, l, cs, h => by
    obtain ⟨base, cap, h1, h2, h3⟩ := h
    exact ⟨base, cap, h1, h2, h3.mono hK (DenRep.mono hK e)⟩
  | .pair a b, x, cs, h => by
    obtain ⟨c1, c2, h1, h2, h3⟩ := h
    exact ⟨c1, c2, h1, DenRep.mono hK a _ _ h2, DenRep.mono hK b _ _ h3⟩

theorem SliceRep.mono {K K' : Know} (hK : K.le K') {t : Ty} {l : List t.den} {full : Bool} {v : Value} (h : SliceRep K t l full v) : SliceRep K' t l full v := by
  obtain ⟨base, cap, h1, h2, h3, h4⟩ := h
  exact ⟨base, cap, h1, h2, h3, h4.mono hK (DenRep.mono hK t)⟩

theorem Elems.mono {K K' : Know} (hK : K.le K') {t : Ty} {l : List t.den} {cs : Array Value} {off : Nat} (h : Elems K t l cs off) : Elems K' t l cs off :=
  fun i hi => DenRep.mono hK _ _ _ (h i hi)

def HLe (H H' : Nat → Option Hd) : Prop := ∀ r hd, H r = some hd → H' r = some hd
theorem HLe.refl (H : Nat → Option Hd) : HLe H H := fun _ _ h => h
theorem HLe.trans {A B C : Nat → Option Hd} (h : HLe A B) (k : HLe B C) : HLe A C := fun r hd x => k r hd (h r hd x)

mutual
theorem Rep.mono {K K' : Know} {H H' : Nat → Option Hd} (hK : K.le K') (hH : HLe H H') : ∀ (a : AVal) (v : Value), Rep K H a v → Rep K' H' a v
  | .unk, _, _ => by simp [Rep]
  | .bool _, _, h => by simpa [Rep] using h
  | .int _ _, _, h => by simpa [Rep] using h
  | .nilc, _, h => by simpa [Rep] using h
  | .nils _, _, h => by simpa [Rep] using h
  | .imm t l full, v, h => by
    simp only [Rep] at h ⊢
    exact h.mono hK
  | .reg r full, v, h => by
    simp only [Rep] at h ⊢
    obtain ⟨hd, h1, h2, h3⟩ := h
    exact ⟨hd, hH _ _ h1, h2, h3⟩
  | .sub r lo len full, v, h => by
    simp only [Rep] at h ⊢
    obtain ⟨hd, cap, base, h1, h2⟩ := h
    exact ⟨hd, cap, base, hH _ _ h1, h2⟩
  | .ptr r off, v, h => by
    simp only [Rep] at h ⊢
    obtain ⟨hd, b, h1, h2⟩ := h
    exact ⟨hd, b, hH _ _ h1, h2⟩
  | .eptr r i off, v, h => by
    simp only [Rep] at h ⊢
    obtain ⟨hd, b, h1, h2⟩ := h
    exact ⟨hd, b, hH _ _ h1, h2⟩
  | .aptr r, v, h => by
    simp only [Rep] at h ⊢
    obtain ⟨hd, b, h1, h2⟩ := h
    exact ⟨hd, b, hH _ _ h1, h2⟩
  | .iptr cells, v, h => by
    simp only [Rep] at h ⊢
    obtain ⟨b, off, arr, h1, h2, h3⟩ := h
    exact ⟨b, off, arr, h1, hK.cells _ _ h2, RepL.mono hK hH cells _ h3⟩
  | .agg cells, v, h => by
    simp only [Rep] at h ⊢
    obtain ⟨cs, h1, h2⟩ := h
    exact ⟨cs, h1, RepL.mono hK hH cells _ h2⟩
  | .arrv t l, v, h => by
    simp only [Rep] at h ⊢
    obtain ⟨cs, h1, h2, h3⟩ := h
    exact ⟨cs, h1, h2, h3.mono hK⟩
  | .tup vs, v, h => by
    simp only [Rep] at h ⊢
    obtain ⟨cs, h1, h2⟩ := h
    exact ⟨cs, h1, RepL.mono hK hH vs _ h2⟩
  | .fn f first cap, v, h => by
    simp only [Rep] at h ⊢
    obtain ⟨fi, ca, h1, h2, h3⟩ := h
    exact ⟨fi, ca, h1, RepL.mono hK hH first _ h2, RepL.mono hK hH cap _ h3⟩
  | .nilfn, _, h => by simpa [Rep] using h
  | .yieldv, v, h => by
    simp only [Rep] at h ⊢
    obtain ⟨l, h1, h2⟩ := h
    exact ⟨l, hK.y l h1, h2⟩
  | .sem p, v, h => by
    simp only [Rep] at h ⊢
    exact p.mono _ _ _ hK.toW h
theorem RepL.mono {K K' : Know} {H H' : Nat → Option Hd} (hK : K.le K') (hH : HLe H H') : ∀ (as : List AVal) (cs : List Value), RepL K H as cs → RepL K' H' as cs
  | [], _, h => by simpa [RepL] using h
  | a :: as, cs, h => by
    simp only [RepL] at h ⊢
    obtain ⟨c, cs', h1, h2, h3⟩ := h
    exact ⟨c, cs', h1, Rep.mono hK hH a c h2, RepL.mono hK hH as cs' h3⟩
end

/-! ### lists of values -/

theorem RepL.nil {K : Know} {H : Nat → Option Hd} : RepL K H [] [] := by simp [RepL]
theorem RepL.cons {K : Know} {H : Nat → Option Hd} {a : AVal} {as : List AVal} {c : Value} {cs : List Value} (h : Rep K H a c) (h' : RepL K H as cs) : RepL K H (a :: as) (c :: cs) := by
  simp only [RepL]; exact ⟨c, cs, rfl, h, h'⟩
theorem RepL.cons_iff {K : Know} {H : Nat → Option Hd} {a : AVal} {as : List AVal} {c : Value} {cs : List Value} : RepL K H (a :: as) (c :: cs) ↔ Rep K H a c ∧ RepL K H as cs := by
  constructor
  · intro h
    simp only [RepL] at h
    obtain ⟨c', cs', h1, h2, h3⟩ := h
    simp only [List.cons.injEq] at h1
    obtain ⟨rfl, rfl⟩ := h1
    exact ⟨h2, h3⟩
  · exact fun h => .cons h.1 h.2
theorem RepL.nil_iff {K : Know} {H : Nat → Option Hd} {cs : List Value} : RepL K H [] cs ↔ cs = [] := by simp [RepL]
theorem RepL.inv {K : Know} {H : Nat → Option Hd} {a : AVal} {as : List AVal} {cs : List Value} (h : RepL K H (a :: as) cs) : ∃ c cs', cs = c :: cs' ∧ Rep K H a c ∧ RepL K H as cs' := by
  simpa only [RepL] using h

theorem RepL.length {K : Know} {H : Nat → Option Hd} : ∀ {as : List AVal} {cs : List Value}, RepL K H as cs → cs.length = as.length
  | [], cs, h => by simp [RepL.nil_iff.1 h]
  | a :: as, cs, h => by
    obtain ⟨c, cs', rfl, _, h'⟩ := h.inv
    simp [RepL.length h']

theorem RepL.get {K : Know} {H : Nat → Option Hd} : ∀ {as : List AVal} {cs : List Value} (i : Nat) (a : AVal), RepL K H as cs → as[i]? = some a → ∃ c, cs[i]? = some c ∧ Rep K H a c
  | [], _, i, a, _, h => by simp at h
  | x :: as, cs, i, a, h, hi => by
    obtain ⟨c, cs', rfl, h1, h2⟩ := h.inv
    cases i with
    | zero => simp only [List.getElem?_cons_zero, Option.some.injEq] at hi ⊢; subst hi; exact ⟨c, rfl, h1⟩
    | succ i => simp only [List.getElem?_cons_succ] at hi ⊢; exact RepL.get i a h2 hi

theorem RepL.append {K : Know} {H : Nat → Option Hd} : ∀ {as bs : List AVal} {cs ds : List Value}, RepL K H as cs → RepL K H bs ds → RepL K H (as ++ bs) (cs ++ ds)
  | [], _, cs, _, h, h' => by simpa [RepL.nil_iff.1 h] using h'
  | a :: as, bs, cs, ds, h, h' => by
    obtain ⟨c, cs', rfl, h1, h2⟩ := h.inv
    exact .cons h1 (RepL.append h2 h')

theorem RepL.split {K : Know} {H : Nat → Option Hd} : ∀ {as bs : List AVal} {cs : List Value}, RepL K H (as ++ bs) cs → ∃ c1 c2, cs = c1 ++ c2 ∧ RepL K H as c1 ∧ RepL K H bs c2
  | [], _, cs, h => ⟨[], cs, rfl, .nil, by simpa using h⟩
  | a :: as, bs, cs, h => by
    obtain ⟨c, cs', rfl, h1, h2⟩ := RepL.inv (by simpa using h)
    obtain ⟨c1, c2, rfl, h3, h4⟩ := RepL.split h2
    exact ⟨c :: c1, c2, rfl, .cons h1 h3, h4⟩

theorem RepL.drop {K : Know} {H : Nat → Option Hd} : ∀ {as : List AVal} {cs : List Value} (n : Nat), RepL K H as cs → RepL K H (as.drop n) (cs.drop n)
  | as, cs, 0, h => by simpa using h
  | [], cs, n + 1, h => by simp [RepL.nil_iff.1 h, RepL.nil]
  | a :: as, cs, n + 1, h => by
    obtain ⟨c, cs', rfl, _, h2⟩ := h.inv
    simpa using RepL.drop n h2

theorem RepL.take {K : Know} {H : Nat → Option Hd} : ∀ {as : List AVal} {cs : List Value} (n : Nat), RepL K H as cs → RepL K H (as.take n) (cs.take n)
  | as, cs, 0, h => by simp [RepL.nil]
  | [], cs, n + 1, h => by simp [RepL.nil_iff.1 h, RepL.nil]
  | a :: as, cs, n + 1, h => by
    obtain ⟨c, cs', rfl, h1, h2⟩ := h.inv
    simpa using RepL.cons h1 (RepL.take n h2)

/-! ### cells of plain data -/

theorem DenRep.length {K : Know} : ∀ (t : Ty) (x : t.den) (cs : List Value), DenRep K t x cs → cs.length = t.size
  | .int _, _, _, h => by have h : _ = _ := h; simp [h, Ty.size]
  | .bool, _, _, h => by have h : _ = _ := h; simp [h, Ty.size]
  | .slice e, l, cs, h => by obtain ⟨_, _, h, _⟩ := h; simp [h, Ty.size]
  | .pair a b, x, cs, h => by
    obtain ⟨c1, c2, rfl, h2, h3⟩ := h
    simp [Ty.size, DenRep.length a _ _ h2, DenRep.length b _ _ h3]

def Ty.cells : (t : Ty) → t.den → List AVal
  | .int k, n => [.int k n]
  | .bool, b => [.bool b]
  | .slice e, l => [.imm e l false]
  | .pair a b, x => a.cells x.1 ++ b.cells x.2

theorem Ty.cells_length : ∀ (t : Ty) (x : t.den), (t.cells x).length = t.size
  | .int _, _ => rfl
  | .bool, _ => rfl
  | .slice _, _ => rfl
  | .pair a b, x => by simp [Ty.cells, Ty.size, Ty.cells_length a, Ty.cells_length b]

theorem repL_cells {K : Know} {H : Nat → Option Hd} : ∀ (t : Ty) (x : t.den) (cs : List Value), DenRep K t x cs → RepL K H (t.cells x) cs
  | .int k, n, cs, h => by
    have h : cs = [Value.int k n] := h
    subst h
    exact .cons (by simp [Rep]) .nil
  | .bool, b, cs, h => by
    have h : cs = [Value.bool b] := h
    subst h
    exact .cons (by simp [Rep]) .nil
  | .slice e, l, cs, h => by
    obtain ⟨base, cap, rfl, h2, h3⟩ := h
    exact .cons (by simp only [Rep]; exact ⟨base, cap, rfl, h2, fun h => by simp at h, h3⟩) .nil
  | .pair a b, x, cs, h => by
    obtain ⟨c1, c2, rfl, h2, h3⟩ := h
    exact RepL.append (repL_cells a _ _ h2) (repL_cells b _ _ h3)

def takeInt (k : IntKind) : List AVal → Option (Int × List AVal)
  | .int k' n :: r => if k = k' then some (n, r) else none
  | _ => none
def takeBool : List AVal → Option (Bool × List AVal)
  | .bool b :: r => some (b, r)
  | _ => none
def takeSlice (e : Ty) : List AVal → Option (List e.den × List AVal)
  | .imm e' l _ :: r => if h : e' = e then some (h ▸ l, r) else none
  | .nils _ :: r => some ([], r)
  | _ => none
def takePair {α β : Type} (x : Option (α × List AVal)) (f : List AVal → Option (β × List AVal)) : Option ((α × β) × List AVal) :=
  match x with
  | some (x, r') => match f r' with
    | some (y, r'') => some ((x, y), r'')
    | none => none
  | none => none

/-- The datum that some cells begin with. -/
def Ty.take : (t : Ty) → List AVal → Option (t.den × List AVal)
  | .int k, as => takeInt k as
  | .bool, as => takeBool as
  | .slice e, as => takeSlice e as
  | .pair a b, as => takePair (a.take as) b.take

theorem take_rep {K : Know} {H : Nat → Option Hd} : ∀ (t : Ty) (as : List AVal) (x : t.den) (r : List AVal) (cs : List Value), t.take as = some (x, r) → RepL K H as cs →
    ∃ c1 c2, cs = c1 ++ c2 ∧ DenRep K t x c1 ∧ RepL K H r c2
  | .int k, as, x, r, cs, ht, h => by
    have ht : takeInt k as = some (x, r) := ht
    unfold takeInt at ht
    split at ht
    · rename_i k' n r'
      split at ht
      · rename_i hk
        obtain ⟨rfl, rfl⟩ := Prod.mk.inj (Option.some.inj ht)
        obtain ⟨c, cs', rfl, h1, h2⟩ := h.inv
        simp only [Rep] at h1
        subst h1
        subst hk
        exact ⟨[_], cs', rfl, rfl, h2⟩
      · simp at ht
    · simp at ht
  | .bool, as, x, r, cs, ht, h => by
    have ht : takeBool as = some (x, r) := ht
    unfold takeBool at ht
    split at ht
    · obtain ⟨rfl, rfl⟩ := Prod.mk.inj (Option.some.inj ht)
      obtain ⟨c, cs', rfl, h1, h2⟩ := h.inv
      simp only [Rep] at h1
      subst h1
      exact ⟨[_], cs', rfl, rfl, h2⟩
    · simp at ht
  | .slice e, as, x, r, cs, ht, h => by
    have ht : takeSlice e as = some (x, r) := ht
    unfold takeSlice at ht
    split at ht
    · rename_i e' l full r'
      split at ht
      · rename_i he
        subst he
        obtain ⟨rfl, rfl⟩ := Prod.mk.inj (Option.some.inj ht)
        obtain ⟨c, cs', rfl, h1, h2⟩ := h.inv
        simp only [Rep] at h1
        obtain ⟨base, cap, rfl, h3, h4, h5⟩ := h1
        exact ⟨[_], cs', rfl, ⟨base, cap, rfl, h3, h5⟩, h2⟩
      · simp at ht
    · rename_i e' r'
      obtain ⟨rfl, rfl⟩ := Prod.mk.inj (Option.some.inj ht)
      obtain ⟨c, cs', rfl, h1, h2⟩ := h.inv
      simp only [Rep] at h1
      subst h1
      exact ⟨[_], cs', rfl, ⟨none, 0, rfl, Nat.le_refl _, .inl rfl⟩, h2⟩
    · simp at ht
  | .pair a b, as, x, r, cs, ht, h => by
    have ht : takePair (a.take as) b.take = some (x, r) := ht
    unfold takePair at ht
    split at ht
    · rename_i x1 r1 h1
      split at ht
      · rename_i x2 r2 h2
        obtain ⟨rfl, rfl⟩ := Prod.mk.inj (Option.some.inj ht)
        obtain ⟨c1, c2, rfl, g1, g2⟩ := take_rep a _ _ _ _ h1 h
        obtain ⟨c3, c4, rfl, g3, g4⟩ := take_rep b _ _ _ _ h2 g2
        exact ⟨c1 ++ c3, c4, by simp, ⟨c1, c3, rfl, g1, g3⟩, g4⟩
      · simp at ht
    · simp at ht

/-- A datum that takes all of some cells. -/
def Ty.whole (t : Ty) (as : List AVal) : Option t.den :=
  match t.take as with
  | some (x, []) => some x
  | _ => none

theorem whole_rep {K : Know} {H : Nat → Option Hd} {t : Ty} {as : List AVal} {x : t.den} {cs : List Value} (ht : t.whole as = some x) (h : RepL K H as cs) : DenRep K t x cs := by
  unfold Ty.whole at ht
  split at ht
  · rename_i y heq
    simp only [Option.some.injEq] at ht
    subst ht
    obtain ⟨c1, c2, rfl, h1, h2⟩ := take_rep t _ _ _ _ heq h
    rw [RepL.nil_iff.1 h2]
    simpa using h1
  · simp at ht

end Go.Abs
end

section
/- Worlds: what is kept, what is known of them, and how regions lie in them. -/
namespace Go.Abs

def Knows (K : Know) (w : World) : Prop :=
  (∀ b cs, K.cells b = some cs → ∃ e fz, w.heap[b]? = some (.cells cs e fz)) ∧ (∀ b p, K.inv b = some p → ∃ o, w.heap[b]? = some o ∧ p o)

/-- All but the heap and the count of draws is as it was, and the blocks of F are. -/
structure Kept (F : Nat → Prop) (w w' : World) : Prop where
  os : w'.os = w.os
  tape : w'.tape = w.tape
  output : w'.output = w.output
  size : w.heap.size ≤ w'.heap.size
  block : ∀ b, F b → w'.heap[b]? = w.heap[b]?

theorem Kept.refl (F : Nat → Prop) (w : World) : Kept F w w := ⟨rfl, rfl, rfl, Nat.le_refl _, fun _ _ => rfl⟩
theorem Kept.trans {F : Nat → Prop} {a b c : World} (h : Kept F a b) (k : Kept F b c) : Kept F a c :=
  ⟨k.os.trans h.os, k.tape.trans h.tape, k.output.trans h.output, Nat.le_trans h.size k.size, fun i hi => (k.block i hi).trans (h.block i hi)⟩
theorem Kept.mono {F G : Nat → Prop} {a b : World} (h : Kept F a b) (hg : ∀ b, G b → F b) : Kept G a b :=
  ⟨h.os, h.tape, h.output, h.size, fun i hi => h.block i (hg i hi)⟩
theorem Kept.of_heap {F : Nat → Prop} {a b c : World} (h : Kept F a b) (ho : c.os = b.os) (ht : c.tape = b.tape) (hp : c.output = b.output) (hh : c.heap = b.heap) : Kept F a c :=
  ⟨ho.trans h.os, ht.trans h.tape, hp.trans h.output, hh ▸ h.size, fun i hi => hh ▸ h.block i hi⟩

def ContRel (K : Know) (H : Nat → Option Hd) (w : World) (hd : Hd) : Cont → Prop
  | .box cells => ∃ b cs e fz, hd.base = some b ∧ w.heap[b]? = some (.cells cs e fz) ∧ RepL K H cells cs.toList
  | .sl t l => hd.sz = t.size ∧ hd.len = l.length ∧ hd.len ≤ hd.cap ∧
      ((hd.base = none ∧ hd.cap = 0) ∨ ∃ b cs e fz, hd.base = some b ∧ w.heap[b]? = some (.cells cs e fz) ∧ hd.cap * t.size ≤ cs.size ∧ Elems K t l cs 0)

/-- The frame's regions, by number. -/
abbrev Mm := Nat → Option (Cont × Flag)

structure MRel (F : Nat → Prop) (K : Know) (H : Nat → Option Hd) (w : World) (M : Mm) : Prop where
  cont : ∀ r c f hd, M r = some (c, f) → f ≠ .dead → H r = some hd → ContRel K H w hd c
  own : ∀ r c hd b, M r = some (c, .own) → H r = some hd → hd.base = some b → ¬ F b ∧ K.cells b = none ∧ K.inv b = none ∧ ∃ cs e, w.heap[b]? = some (.cells cs e (0, 0))
  frz : ∀ r c hd b, M r = some (c, .frz) → H r = some hd → hd.base = some b → ∃ cs, K.cells b = some cs
  inj : ∀ r r' c c' hd hd' b, M r = some (c, .own) → M r' = some (c', .own) → H r = some hd → H r' = some hd' → hd.base = some b → hd'.base = some b → r = r'

/-- What is true of the world at every time. -/
structure WOk (F : Nat → Prop) (K : Know) (w : World) : Prop where
  knows : Knows K w
  lt : ∀ b, F b → b < w.heap.size
  inv : ∀ b p, K.inv b = some p → ¬ F b
  apart : ∀ b p, K.inv b = some p → K.cells b = none

theorem lt_of_heap {w : World} {b : Nat} {o : Obj} (h : w.heap[b]? = some o) : b < w.heap.size := by
  rcases Nat.lt_or_ge b w.heap.size with h' | h'
  · exact h'
  · rw [Array.getElem?_eq_none h'] at h; cases h

theorem Knows.lt {K : Know} {w : World} (h : Knows K w) {b : Nat} {cs : Array Value} (hb : K.cells b = some cs) : b < w.heap.size := by
  obtain ⟨e, fz, h1⟩ := h.1 b cs hb
  exact lt_of_heap h1
theorem Knows.new {K : Know} {w : World} (h : Knows K w) {b : Nat} (hb : w.heap.size ≤ b) : K.cells b = none ∧ K.inv b = none := by
  constructor
  · cases hc : K.cells b with
    | none => rfl
    | some cs => have := h.lt hc; omega
  · cases hc : K.inv b with
    | none => rfl
    | some p => obtain ⟨o, h1, _⟩ := h.2 b p hc; have := lt_of_heap h1; omega

theorem ContRel.mono {K K' : Know} {H H' : Nat → Option Hd} {w w' : World} {hd : Hd} {c : Cont} (hK : K.le K') (hH : HLe H H')
    (hw : ∀ b, hd.base = some b → w'.heap[b]? = w.heap[b]?) (h : ContRel K H w hd c) : ContRel K' H' w' hd c := by
  cases c with
  | box cells =>
    obtain ⟨b, cs, e, fz, h1, h2, h3⟩ := h
    exact ⟨b, cs, e, fz, h1, by rw [hw b h1]; exact h2, RepL.mono hK hH _ _ h3⟩
  | sl t l =>
    obtain ⟨h1, h2, h3, h4⟩ := h
    refine ⟨h1, h2, h3, ?_⟩
    rcases h4 with h4 | ⟨b, cs, e, fz, g1, g2, g3, g4⟩
    · exact .inl h4
    · exact .inr ⟨b, cs, e, fz, g1, by rw [hw b g1]; exact g2, g3, g4.mono hK⟩

/-- The blocks of all regions that are not dead lie as they did. -/
theorem MRel.world {F : Nat → Prop} {K : Know} {H : Nat → Option Hd} {w w' : World} {M : Mm} (h : MRel F K H w M)
    (hw : ∀ r c f hd b, M r = some (c, f) → f ≠ .dead → H r = some hd → hd.base = some b → w'.heap[b]? = w.heap[b]?) : MRel F K H w' M where
  cont := fun r c f hd h1 h2 h3 => (h.cont r c f hd h1 h2 h3).mono (Know.le.refl K) (HLe.refl H) (fun b hb => hw r c f hd b h1 h2 h3 hb)
  own := fun r c hd b h1 h2 h3 => by
    obtain ⟨g1, g2, g3, cs, e, g4⟩ := h.own r c hd b h1 h2 h3
    exact ⟨g1, g2, g3, cs, e, by rw [hw r c .own hd b h1 (by simp) h2 h3]; exact g4⟩
  frz := h.frz
  inj := h.inj

theorem base_lt {F : Nat → Prop} {K : Know} {H : Nat → Option Hd} {w : World} {M : Mm} (h : MRel F K H w M) {r : Nat} {c : Cont} {f : Flag} {hd : Hd} {b : Nat}
    (h1 : M r = some (c, f)) (h2 : f ≠ .dead) (h3 : H r = some hd) (h4 : hd.base = some b) : b < w.heap.size := by
  have := h.cont r c f hd h1 h2 h3
  cases c with
  | box cells =>
    obtain ⟨b', cs, e, fz, g1, g2, g3⟩ := this
    rw [h4] at g1; cases g1
    exact lt_of_heap g2
  | sl t l =>
    obtain ⟨_, _, _, g⟩ := this
    rcases g with ⟨g, _⟩ | ⟨b', cs, e, fz, g1, g2, _⟩
    · rw [h4] at g; cases g
    · rw [h4] at g1; cases g1
      exact lt_of_heap g2

/-- More is known (but of no block that is a region's own). -/
theorem MRel.know {F : Nat → Prop} {K K' : Know} {H : Nat → Option Hd} {w : World} {M : Mm} (h : MRel F K H w M) (hK : K.le K')
    (hn : ∀ r c hd b, M r = some (c, .own) → H r = some hd → hd.base = some b → K'.cells b = none ∧ K'.inv b = none) : MRel F K' H w M where
  cont := fun r c f hd h1 h2 h3 => (h.cont r c f hd h1 h2 h3).mono hK (HLe.refl H) (fun _ _ => rfl)
  own := fun r c hd b h1 h2 h3 => by
    obtain ⟨g1, g2, g3, g4⟩ := h.own r c hd b h1 h2 h3
    exact ⟨g1, (hn r c hd b h1 h2 h3).1, (hn r c hd b h1 h2 h3).2, g4⟩
  frz := fun r c hd b h1 h2 h3 => by
    obtain ⟨cs, g⟩ := h.frz r c hd b h1 h2 h3
    exact ⟨cs, hK.cells _ _ g⟩
  inj := h.inj

def upd {α : Type} (f : Nat → Option α) (r : Nat) (x : α) : Nat → Option α := fun r' => if r' = r then some x else f r'
theorem upd_same {α : Type} (f : Nat → Option α) (r : Nat) (x : α) : upd f r x r = some x := by simp [upd]
theorem upd_ne {α : Type} (f : Nat → Option α) (r r' : Nat) (x : α) (h : r' ≠ r) : upd f r x r' = f r' := by simp [upd, h]
theorem hle_upd {H : Nat → Option Hd} {r : Nat} {hd : Hd} (h : H r = none) : HLe H (upd H r hd) := by
  intro r' hd' h'
  by_cases e : r' = r
  · subst e; rw [h] at h'; cases h'
  · rw [upd_ne _ _ _ _ e]; exact h'

/-- A new region of one's own, under a number that is free. -/
theorem MRel.new {F : Nat → Prop} {K : Know} {H : Nat → Option Hd} {w : World} {M : Mm} (h : MRel F K H w M) (r : Nat) (hr : H r = none) (c : Cont) (hd : Hd)
    (hc : ContRel K (upd H r hd) w hd c)
    (hb : ∀ b, hd.base = some b → ¬ F b ∧ K.cells b = none ∧ K.inv b = none ∧ (∃ cs e, w.heap[b]? = some (.cells cs e (0, 0))) ∧
      ∀ r' c' hd', M r' = some (c', .own) → H r' = some hd' → hd'.base ≠ some b) : MRel F K (upd H r hd) w (upd M r (c, .own)) := by
  have hH : HLe H (upd H r hd) := hle_upd hr
  refine ⟨?_, ?_, ?_, ?_⟩
  · intro r' c' f hd' h1 h2 h3
    by_cases e : r' = r
    · subst e
      rw [upd_same] at h1 h3
      cases h1; cases h3
      exact hc
    · rw [upd_ne _ _ _ _ e] at h1 h3
      exact (h.cont r' c' f hd' h1 h2 h3).mono (Know.le.refl K) hH (fun _ _ => rfl)
  · intro r' c' hd' b h1 h2 h3
    by_cases e : r' = r
    · subst e
      rw [upd_same] at h1 h2
      cases h1; cases h2
      obtain ⟨g1, g2, g3, g4, _⟩ := hb b h3
      exact ⟨g1, g2, g3, g4⟩
    · rw [upd_ne _ _ _ _ e] at h1 h2
      exact h.own r' c' hd' b h1 h2 h3
  · intro r' c' hd' b h1 h2 h3
    by_cases e : r' = r
    · subst e
      rw [upd_same] at h1
      cases h1
    · rw [upd_ne _ _ _ _ e] at h1 h2
      exact h.frz r' c' hd' b h1 h2 h3
  · intro r1 r2 c1 c2 hd1 hd2 b h1 h2 h3 h4 h5 h6
    by_cases e1 : r1 = r
    · by_cases e2 : r2 = r
      · rw [e1, e2]
      · subst e1
        rw [upd_same] at h1 h3
        cases h1; cases h3
        rw [upd_ne _ _ _ _ e2] at h2 h4
        exact absurd h6 ((hb b h5).2.2.2.2 r2 c2 hd2 h2 h4)
    · rw [upd_ne _ _ _ _ e1] at h1 h3
      by_cases e2 : r2 = r
      · subst e2
        rw [upd_same] at h2 h4
        cases h2; cases h4
        exact absurd h5 ((hb b h6).2.2.2.2 r1 c1 hd1 h1 h3)
      · rw [upd_ne _ _ _ _ e2] at h2 h4
        exact h.inj r1 r2 c1 c2 hd1 hd2 b h1 h2 h3 h4 h5 h6

/-- A flag turns: to dead; or to frozen, where the block is known. -/
theorem MRel.flag {F : Nat → Prop} {K : Know} {H : Nat → Option Hd} {w : World} {M : Mm} (h : MRel F K H w M) (r : Nat) (c : Cont) (g f : Flag) (hm : M r = some (c, g)) (hf : f ≠ .own)
    (hfz : f = .frz → g ≠ .dead ∧ ∀ hd b, H r = some hd → hd.base = some b → ∃ cs, K.cells b = some cs) :
    MRel F K H w (upd M r (c, f)) := by
  refine ⟨?_, ?_, ?_, ?_⟩
  · intro r' c' f' hd' h1 h2 h3
    by_cases e : r' = r
    · subst e
      rw [upd_same] at h1
      cases h1
      cases f with
      | own => exact absurd rfl hf
      | dead => exact absurd rfl h2
      | frz => exact h.cont r' c g hd' hm (hfz rfl).1 h3
    · rw [upd_ne _ _ _ _ e] at h1
      exact h.cont r' c' f' hd' h1 h2 h3
  · intro r' c' hd' b h1 h2 h3
    by_cases e : r' = r
    · subst e
      rw [upd_same] at h1
      cases h1
      exact absurd rfl hf
    · rw [upd_ne _ _ _ _ e] at h1
      exact h.own r' c' hd' b h1 h2 h3
  · intro r' c' hd' b h1 h2 h3
    by_cases e : r' = r
    · subst e
      rw [upd_same] at h1
      cases h1
      exact (hfz rfl).2 hd' b h2 h3
    · rw [upd_ne _ _ _ _ e] at h1
      exact h.frz r' c' hd' b h1 h2 h3
  · intro r1 r2 c1 c2 hd1 hd2 b h1 h2 h3 h4 h5 h6
    by_cases e1 : r1 = r
    · subst e1
      rw [upd_same] at h1
      cases h1
      exact absurd rfl hf
    · rw [upd_ne _ _ _ _ e1] at h1
      by_cases e2 : r2 = r
      · subst e2
        rw [upd_same] at h2
        cases h2
        exact absurd rfl hf
      · rw [upd_ne _ _ _ _ e2] at h2
        exact h.inj r1 r2 c1 c2 hd1 hd2 b h1 h2 h3 h4 h5 h6

/-- One's own region holds something else from now on, its block alone having turned. -/
theorem MRel.turn {F : Nat → Prop} {K : Know} {H : Nat → Option Hd} {w w' : World} {M : Mm} (h : MRel F K H w M) (r : Nat) (c c' : Cont) (hd : Hd) (b : Nat) (hm : M r = some (c, .own)) (hr : H r = some hd)
    (hb : hd.base = some b) (ho : ∀ b', b' ≠ b → w'.heap[b']? = w.heap[b']?) (hh : ∃ cs e, w'.heap[b]? = some (.cells cs e (0, 0)))
    (hc : ContRel K H w' hd c') : MRel F K H w' (upd M r (c', .own)) := by
  have other : ∀ r' c'' f hd' b', M r' = some (c'', f) → f ≠ .dead → r' ≠ r → H r' = some hd' → hd'.base = some b' → b' ≠ b := by
    intro r' c'' f hd' b' h1 h2 h3 h4 h5 e
    subst e
    cases f with
    | dead => exact h2 rfl
    | own => exact h3 (h.inj r' r c'' c hd' hd b' h1 hm h4 hr h5 hb)
    | frz =>
      obtain ⟨cs, g⟩ := h.frz r' c'' hd' b' h1 h4 h5
      have := (h.own r c hd b' hm hr hb).2.1
      rw [this] at g; cases g
  refine ⟨?_, ?_, ?_, ?_⟩
  · intro r' c'' f hd' h1 h2 h3
    by_cases e : r' = r
    · subst e
      rw [upd_same] at h1
      cases h1
      rw [hr] at h3; cases h3
      exact hc
    · rw [upd_ne _ _ _ _ e] at h1
      exact (h.cont r' c'' f hd' h1 h2 h3).mono (Know.le.refl K) (HLe.refl H) (fun b' hb' => ho b' (other r' c'' f hd' b' h1 h2 e h3 hb'))
  · intro r' c'' hd' b' h1 h2 h3
    by_cases e : r' = r
    · subst e
      rw [hr] at h2; cases h2
      rw [hb] at h3; cases h3
      obtain ⟨g1, g2, g3, _⟩ := h.own r' c hd b hm hr hb
      exact ⟨g1, g2, g3, hh⟩
    · rw [upd_ne _ _ _ _ e] at h1
      obtain ⟨g1, g2, g3, cs, e', g4⟩ := h.own r' c'' hd' b' h1 h2 h3
      exact ⟨g1, g2, g3, cs, e', by rw [ho b' (other r' c'' .own hd' b' h1 (by simp) e h2 h3)]; exact g4⟩
  · intro r' c'' hd' b' h1 h2 h3
    by_cases e : r' = r
    · subst e
      rw [upd_same] at h1
      cases h1
    · rw [upd_ne _ _ _ _ e] at h1
      exact h.frz r' c'' hd' b' h1 h2 h3
  · intro r1 r2 c1 c2 hd1 hd2 b' h1 h2 h3 h4 h5 h6
    have back : ∀ r' c'', upd M r (c', Flag.own) r' = some (c'', .own) → ∃ c3, M r' = some (c3, .own) := by
      intro r' c'' g
      by_cases e : r' = r
      · subst e; exact ⟨c, hm⟩
      · rw [upd_ne _ _ _ _ e] at g; exact ⟨c'', g⟩
    obtain ⟨d1, g1⟩ := back r1 c1 h1
    obtain ⟨d2, g2⟩ := back r2 c2 h2
    exact h.inj r1 r2 d1 d2 hd1 hd2 b' g1 g2 h3 h4 h5 h6

/-! ### rows of cells -/

theorem slab_len {cs : Array Value} {o n : Nat} (h : o + n ≤ cs.size) : (slab cs o n).length = n := by
  simp [slab]; omega
theorem slab_get {cs : Array Value} {o n j : Nat} (h : j < n) : (slab cs o n)[j]? = cs[o + j]? := by
  simp [slab, h]
theorem slab_slab {cs : Array Value} {o n p m : Nat} (h : p + m ≤ n) : ((slab cs o n).drop p).take m = slab cs (o + p) m := by
  apply List.ext_getElem?
  intro i
  by_cases hi : i < m
  · rw [List.getElem?_take_of_lt hi, List.getElem?_drop, slab_get (by omega), slab_get hi, Nat.add_assoc]
  · rw [List.getElem?_eq_none (by simp; omega), List.getElem?_eq_none (by simp [slab]; omega)]
theorem slab_le {cs : Array Value} {o n : Nat} (h : (slab cs o n).length = n) (hn : 0 < n) : o + n ≤ cs.size := by
  simp [slab] at h; omega

theorem heap_cell {w : World} {b : Nat} {cs : Array Value} {e : TypeId} {fz : Nat × Nat} (h : w.heap[b]? = some (.cells cs e fz)) (o : Nat) : w.cell? ⟨b, o, none⟩ = cs[o]? := by
  simp [World.cell?, h]

theorem add_none (b o i : Nat) : (⟨b, o, none⟩ : Addr).add i = ⟨b, o + i, none⟩ := by
  unfold Addr.add
  split
  · rename_i h; subst h; rfl
  · rfl

theorem run_loadCells (P : Program) {w : World} {b : Nat} {cs : Array Value} {e : TypeId} {fz : Nat × Nat} (h : w.heap[b]? = some (.cells cs e fz)) (o : Nat) :
    ∀ (n i : Nat) (acc : Array Value), o + i + n ≤ cs.size → (loadCellsFrom ⟨b, o, none⟩ i n acc).run P w = .ok (acc ++ (slab cs (o + i) n).toArray) w
  | 0, i, acc, _ => by simp [loadCellsFrom, slab, pure]
  | n + 1, i, acc, hn => by
    have hc : w.cell? ((⟨b, o, none⟩ : Addr).add i) = some (cs[o + i]'(by omega)) := by
      rw [add_none, heap_cell h]; simp
    have ih := run_loadCells P h o n (i + 1) (acc.push (cs[o + i]'(by omega))) (by omega)
    simp only [loadCellsFrom, bind, Sem.bind, load, Sem.run, hc]
    rw [ih]
    have hs : slab cs (o + i) (n + 1) = cs[o + i]'(by omega) :: slab cs (o + (i + 1)) n := by
      unfold slab
      rw [List.drop_eq_getElem_cons (by simp; omega), List.take_succ_cons]
      simp [Nat.add_assoc]
    rw [hs]
    simp

theorem run_load (P : Program) {w : World} {b : Nat} {cs : Array Value} {e : TypeId} {fz : Nat × Nat} (h : w.heap[b]? = some (.cells cs e fz)) (o : Nat) (v : Value) (hv : cs[o]? = some v) :
    (load ⟨b, o, none⟩).run P w = .ok v w := by
  simp [load, Sem.run, heap_cell h, hv]

/-- One block's cells are other ones; all else is as it was. -/
structure Upd (w w' : World) (b : Nat) (cs : Array Value) (e : TypeId) : Prop where
  os : w'.os = w.os
  tape : w'.tape = w.tape
  output : w'.output = w.output
  size : w'.heap.size = w.heap.size
  here : w'.heap[b]? = some (.cells cs e (0, 0))
  other : ∀ b', b' ≠ b → w'.heap[b']? = w.heap[b']?

theorem Upd.kept {w w' : World} {b : Nat} {cs : Array Value} {e : TypeId} (h : Upd w w' b cs e) {F : Nat → Prop} (hF : ¬ F b) : Kept F w w' :=
  ⟨h.os, h.tape, h.output, by rw [h.size]; exact Nat.le_refl _, fun b' hb => h.other b' (fun e => hF (e ▸ hb))⟩
theorem Upd.refl {w : World} {b : Nat} {cs : Array Value} {e : TypeId} (h : w.heap[b]? = some (.cells cs e (0, 0))) : Upd w w b cs e :=
  ⟨rfl, rfl, rfl, rfl, h, fun _ _ => rfl⟩
theorem Upd.trans {w w' w'' : World} {b : Nat} {cs cs' : Array Value} {e : TypeId} (h : Upd w w' b cs e) (k : Upd w' w'' b cs' e) : Upd w w'' b cs' e :=
  ⟨k.os.trans h.os, k.tape.trans h.tape, k.output.trans h.output, k.size.trans h.size, k.here, fun b' hb => (k.other b' hb).trans (h.other b' hb)⟩

theorem upd_setCell {w : World} {b : Nat} {cs : Array Value} {e : TypeId} (h : w.heap[b]? = some (.cells cs e (0, 0))) (o : Nat) (v : Value) :
    Upd w (w.setCell ⟨b, o, none⟩ v) b (cs.setIfInBounds o v) e := by
  refine ⟨rfl, rfl, rfl, by simp, ?_, ?_⟩
  · simp [World.setCell, Array.getElem?_modify, h]
  · intro b' hb
    simp only [World.setCell, Array.getElem?_modify]
    rw [if_neg (fun e => hb e.symm)]

/-- n values laid over cells from o on -/
def splice (cs : Array Value) (o : Nat) : List Value → Array Value
  | [] => cs
  | v :: vs => splice (cs.setIfInBounds o v) (o + 1) vs

theorem splice_size (o : Nat) (cs : Array Value) (vs : List Value) : (splice cs o vs).size = cs.size := by
  induction vs generalizing o cs with
  | nil => rfl
  | cons v vs ih => simp [splice, ih]

theorem splice_get (cs : Array Value) (o : Nat) (vs : List Value) (i : Nat) (h : o + vs.length ≤ cs.size) :
    (splice cs o vs)[i]? = if o ≤ i ∧ i < o + vs.length then vs[i - o]? else cs[i]? := by
  induction vs generalizing o cs with
  | nil => simp [splice]; omega
  | cons v vs ih =>
    simp only [List.length_cons] at h
    rw [splice, ih _ _ (by simp; omega)]
    by_cases h1 : o + 1 ≤ i ∧ i < o + 1 + vs.length
    · rw [if_pos h1, if_pos (by simp; omega)]
      have : i - o = (i - (o + 1)) + 1 := by omega
      rw [this, List.getElem?_cons_succ]
    · rw [if_neg h1]
      by_cases h2 : i = o
      · subst h2
        rw [if_pos (by simp)]
        have hl : i < cs.size := by omega
        simp [hl]
      · rw [if_neg (by simp; omega), Array.getElem?_setIfInBounds_ne (fun e => h2 e.symm)]

/-- a value that fills one cell -/
def one : Value → Bool
  | .agg _ => false
  | .tuple _ => false
  | _ => true

theorem run_storeCells (P : Program) (b o : Nat) (e : TypeId) : ∀ (vs : List Value) (w : World) (cs : Array Value) (i : Nat), w.heap[b]? = some (.cells cs e (0, 0)) →
    o + i + vs.length ≤ cs.size → (∀ v ∈ vs, one v = true) → ∃ w', (storeCells ⟨b, o, none⟩ vs i).run P w = .ok () w' ∧ Upd w w' b (splice cs (o + i) vs) e
  | [], w, cs, i, h, _, _ => ⟨w, by simp [storeCells, pure], by simpa [splice] using Upd.refl h⟩
  | v :: vs, w, cs, i, h, hn, ho => by
    simp only [List.length_cons] at hn
    have hc : w.cell? ((⟨b, o, none⟩ : Addr).add i) = some (cs[o + i]'(by omega)) := by
      rw [add_none, heap_cell h]; simp
    have hf : w.frozen? ((⟨b, o, none⟩ : Addr).add i) = false := by
      rw [add_none]; simp [World.frozen?, h]
    have hu := upd_setCell h (o + i) v
    obtain ⟨w', h1, h2⟩ := run_storeCells P b o e vs _ _ (i + 1) hu.here (by simp; omega) (fun v hv => ho v (by simp [hv]))
    refine ⟨w', ?_, ?_⟩
    · have hv := ho v (by simp)
      have hadd : (⟨b, o, none⟩ : Addr).add i = ⟨b, o + i, none⟩ := add_none b o i
      rw [hadd] at hc hf
      cases v <;> first
        | (simp [one] at hv; done)
        | (simp only [storeCells, bind, Sem.bind, store, Sem.run, hadd, hc, hf]; exact h1)
    · have := hu.trans h2
      simpa [splice, Nat.add_assoc] using this

end Go.Abs
end

section
/- The interpreter over abstract values: for a piece of code and an abstract state, what must be true so that the rest is. -/
namespace Go.Abs

/-! ### types -/

def tyFields (f : TypeId → Option Ty) : List Field → Nat → Option Ty
  | [], _ => none
  | a :: r, o => match r with
    | [] => if a.offset = o then f a.type else none
    | _ :: _ => if a.offset = o then (match f a.type with
      | some x => match tyFields f r (o + x.size) with
        | some y => some (.pair x y)
        | none => none
      | none => none) else none

/-- The type of plain data that a Go type is; its cells are the model's. -/
def tyOf (P : Program) : Nat → TypeId → Option Ty
  | 0, _ => none
  | d + 1, t =>
    match P.info? t, P.underlying t with
    | some i, some (.int k) => if i.size = 1 then some (.int k) else none
    | some i, some .bool => if i.size = 1 then some .bool else none
    | some i, some (.slice e) => if i.size = 1 then (match tyOf P d e with | some a => some (.slice a) | none => none) else none
    | some i, some (.struct fs) => match tyFields (tyOf P d) fs.toList 0 with
      | some a => if i.size = a.size then some a else none
      | none => none
    | _, _ => none
abbrev tyOf.fields (P : Program) (d : Nat) (fs : List Field) (o : Nat) : Option Ty := tyFields (tyOf P d) fs o

def elemTy (P : Program) (t : TypeId) : Option Ty :=
  match P.underlying t with
  | some (.slice e) => tyOf P 8 e
  | _ => none

def sizeT (P : Program) (t : TypeId) : Nat := ((P.info? t).map (·.size)).getD 0
def aggT (P : Program) (t : TypeId) : Bool :=
  match P.underlying t with
  | some (.struct _) => true
  | some (.array _ _) => true
  | _ => false

/-- The fields' places: offset and size, of a struct whose fields all have cells. -/
def fieldT (P : Program) (t : TypeId) (i : Nat) : Option (Nat × Nat) :=
  match P.underlying t with
  | some (.struct fs) => match fs[i]? with
    | some f => if sizeT P f.type = 0 then none else some (f.offset, sizeT P f.type)
    | none => none
  | _ => none

/-! ### states -/

def aget : List (Nat × AVal) → Nat → AVal
  | [], _ => .unk
  | (i, v) :: r, t => if i = t then v else aget r t

/-- The frame's memory: the newest entry of a number counts. -/
abbrev Mem := List (Nat × (Cont × Flag))
def mget : Mem → Nat → Option (Cont × Flag)
  | [], _ => none
  | (i, x) :: r, t => if i = t then some x else mget r t

inductive AExit where
  | normal
  | exit (id : Nat)
  | ret
  deriving DecidableEq

/-- The frame's state; gh: what frames that wait for this one hold; pend: in which way a round was left, if one was. -/
structure AState where
  n : Nat
  tmps : List (Nat × AVal)
  nx : Nat
  M : Mem
  gh : List AVal
  pend : Option AExit

/-- What one operation gives: its value, new regions of the frame's own, regions that are dead or frozen from now on, and those that were read. -/
structure Q where
  val : AVal
  new : List Cont
  use : List (Nat × Flag)
  reads : List Nat

def Q.pure (v : AVal) : Q := ⟨v, [], [], []⟩
def Q.read (v : AVal) (r : Nat) : Q := ⟨v, [], [], [r]⟩

def flagM (m : Mm) (u : Nat × Flag) : Mm :=
  match m u.1 with
  | some (c, _) => upd m u.1 (c, u.2)
  | none => m
def flagsM : Mm → List (Nat × Flag) → Mm
  | m, [] => m
  | m, u :: us => flagsM (flagM m u) us
def newM : Mm → Nat → List Cont → Mm
  | m, _, [] => m
  | m, n, c :: cs => newM (upd m n (c, .own)) (n + 1) cs
def Q.mm (q : Q) (n : Nat) (m : Mm) : Mm := newM (flagsM m q.use) n q.new

def flagL (M : Mem) (u : Nat × Flag) : Mem :=
  match mget M u.1 with
  | some (c, _) => (u.1, (c, u.2)) :: M
  | none => M
def flagsL : Mem → List (Nat × Flag) → Mem
  | M, [] => M
  | M, u :: us => flagsL (flagL M u) us
def newL : Mem → Nat → List Cont → Mem
  | M, _, [] => M
  | M, n, c :: cs => newL ((n, (c, .own)) :: M) (n + 1) cs
def Q.ml (q : Q) (n : Nat) (M : Mem) : Mem := newL (flagsL M q.use) n q.new

def constA1 : Value → AVal
  | .bool b => .bool b
  | .int k n => .int k n
  | .slice none 0 0 => .nilc
  | .nilFunc => .nilfn
  | _ => .unk
def constA : Value → AVal
  | .agg cs => .agg (cs.toList.map constA1)
  | v => constA1 v

def evA (tm : List (Nat × AVal)) : Operand → AVal
  | .tmp t => aget tm t
  | .const v => constA v
  | .global _ => .unk
  | .func f => .fn (.func f) [] []

/-- What a test says. -/
def br (b : Bool) (p q : Prop) : Prop :=
  match b with
  | true => p
  | false => q

theorem br_iff (b : Bool) (p q : Prop) : br b p q ↔ (b = true → p) ∧ (b = false → q) := by cases b <;> simp [br]
theorem br_intro {b : Bool} {p q : Prop} (h : b = true → p) (h' : b = false → q) : br b p q := (br_iff b p q).2 ⟨h, h'⟩

/-! ### the immutable view of a value -/

def dedup : List Nat → List Nat
  | [] => []
  | a :: l => if (dedup l).contains a then dedup l else a :: dedup l

def viewX (f : AVal → Option (AVal × List (Nat × Flag))) : List AVal → Option (List AVal × List (Nat × Flag))
  | [] => some ([], [])
  | v :: vs => match f v with
    | some (v', r1) => match viewX f vs with
      | some (vs', r2) => some (v' :: vs', r1 ++ r2)
      | none => none
    | none => none

/-- The value as it may be handed over for good, and the regions that are then read (those of one's own: to be frozen, if it stays). -/
def view (M : Mm) : Nat → AVal → Option (AVal × List (Nat × Flag))
  | 0, _ => none
  | d + 1, v =>
    match v with
    | .unk => some (.unk, [])
    | .bool b => some (.bool b, [])
    | .int k n => some (.int k n, [])
    | .nils t => some (.imm t [] true, [])
    | .imm t l f => some (.imm t l f, [])
    | .arrv t l => some (.arrv t l, [])
    | .nilfn => some (.nilfn, [])
    | .sem p => some (.sem p, [])
    | .reg r f => match M r with
      | some (.sl t l, g) => if g = .dead then none else some (.imm t l f, [(r, g)])
      | _ => none
    | .sub r lo len f => match M r with
      | some (.sl t l, g) => if g = .dead then none else some (.imm t ((l.drop lo).take len) f, [(r, g)])
      | _ => none
    | .ptr r off => match M r with
      | some (.box cells, g) => if g = .dead then none else match viewX (view M d) (cells.drop off) with
        | some (cs, rs) => some (.iptr cs, (r, g) :: rs)
        | none => none
      | _ => none
    | .iptr cells => match viewX (view M d) cells with
      | some (cs, rs) => some (.iptr cs, rs)
      | none => none
    | .agg cells => match viewX (view M d) cells with
      | some (cs, rs) => some (.agg cs, rs)
      | none => none
    | .tup cells => match viewX (view M d) cells with
      | some (cs, rs) => some (.tup cs, rs)
      | none => none
    | .fn f a b => match viewX (view M d) a with
      | some (a', r1) => match viewX (view M d) b with
        | some (b', r2) => some (.fn f a' b', r1 ++ r2)
        | none => none
      | none => none
    | _ => none
abbrev view.viewL (M : Mm) (d : Nat) (vs : List AVal) : Option (List AVal × List (Nat × Flag)) := viewX (view M d) vs

def viewAll (M : Mm) (vs : List AVal) : Option (List AVal × List (Nat × Flag)) := view.viewL M 6 vs

/-- The regions of one's own among those read: frozen from now on. -/
def frzAll : List (Nat × Flag) → List (Nat × Flag)
  | [] => []
  | (r, .own) :: rs => (r, .frz) :: frzAll rs
  | _ :: rs => frzAll rs
def nums : List (Nat × Flag) → List Nat
  | [] => []
  | (r, _) :: rs => r :: nums rs

/-- The cells of a value that is stored or boxed. -/
def AVal.parts : AVal → Option (List AVal)
  | .unk => none
  | .nilc => none
  | .arrv _ _ => none
  | .tup _ => none
  | .agg cells => some cells
  | v => some [v]

def typed (P : Program) (t : TypeId) : AVal → AVal
  | .nilc => match elemTy P t with
    | some e => .nils e
    | none => .nilc
  | v => v

/-- A value that fills one cell. -/
def AVal.one : AVal → Bool
  | .unk => false
  | .agg _ => false
  | .arrv _ _ => false
  | .tup _ => false
  | _ => true

def allOne : List AVal → Bool
  | [] => true
  | v :: vs => v.one && allOne vs

def zeroA : Ty → List AVal
  | .int k => [.int k 0]
  | .bool => [.bool false]
  | .slice e => [.nils e]
  | .pair a b => zeroA a ++ zeroA b

def zeroV : Ty → List Value
  | .int k => [.int k 0]
  | .bool => [.bool false]
  | .slice _ => [.slice none 0 0]
  | .pair a b => zeroV a ++ zeroV b

/-- Is the model's zero value of a type this one? -/
def sameV : List Value → List Value → Bool
  | [], [] => true
  | .int k n :: a, .int k' n' :: b => k = k' && n = n' && sameV a b
  | .bool x :: a, .bool y :: b => x == y && sameV a b
  | .slice none 0 0 :: a, .slice none 0 0 :: b => sameV a b
  | _, _ => false

def zeroOk (P : Program) (t : TypeId) (ty : Ty) : Bool :=
  match P.info? t with
  | some i => match i.zero with
    | some v => sameV v.cells.toList (zeroV ty)
    | none => false
  | none => false

/-- A value loaded at a type out of cells. -/
def ldA (P : Program) (t : TypeId) (cells : List AVal) : Option AVal :=
  match P.underlying t with
  | none => none
  | some (.struct _) => if (P.info? t).isSome && sizeT P t ≤ cells.length then some (.agg (cells.take (sizeT P t))) else none
  | some (.array _ _) => if (P.info? t).isSome && sizeT P t ≤ cells.length then some (.agg (cells.take (sizeT P t))) else none
  | some _ => match cells with
    | v :: _ => some v
    | [] => none

def bitsA (op : BinOp) (k : IntKind) (x y : Int) : Int :=
  match op with
  | .and => k.wrap (BitVec.ofInt k.bits x &&& BitVec.ofInt k.bits y).toNat
  | .or => k.wrap (BitVec.ofInt k.bits x ||| BitVec.ofInt k.bits y).toNat
  | .xor => k.wrap (BitVec.ofInt k.bits x ^^^ BitVec.ofInt k.bits y).toNat
  | .andNot => k.wrap (BitVec.ofInt k.bits x &&& ~~~ BitVec.ofInt k.bits y).toNat
  | _ => 0

def shlA (k : IntKind) (x y : Int) : Int := k.wrap (x * 2 ^ (min y.toNat k.bits))
def shrA (k : IntKind) (x y : Int) : Int := x.fdiv (2 ^ (min y.toNat k.bits))

def eqCells : List AVal → List AVal → Option Bool
  | [], [] => some true
  | [.int k a], [.int k' b] => if k = k' then some (a == b) else none
  | .int k a :: r, .int k' b :: s => if k = k' then (match eqCells r s with
    | some e => some (a == b && e)
    | none => none) else none
  | _, _ => none

/-- A struct type all of whose fields are integers, one cell each, none of them blank, at their places. -/
def intsT (P : Program) (t : TypeId) (n : Nat) : Bool :=
  match P.underlying t with
  | some (.struct fs) => fs.size = n && !P.stoodInHeld t && !P.eqGuardType P.depth t && go fs.toList 0
  | _ => false
where
  go : List Field → Nat → Bool
    | [], _ => true
    | f :: r, i => f.offset = i && f.name ≠ "_" && (match P.underlying f.type with | some (.int _) => true | _ => false) && go r (i + 1)

/-- An array type of integers of one cell each. -/
def intArrT (P : Program) (t : TypeId) (n : Nat) : Bool :=
  match P.underlying t with
  | some (.array n' e) => n' = n && !P.eqGuardType P.depth t && sizeT P e = 1 && (match P.underlying e with | some (.int _) => true | _ => false)
  | _ => false

def intList : (t : Ty) → List t.den → Option (List Int)
  | .int _, l => some l
  | _, _ => none

def arrLenT (P : Program) (t : TypeId) : Nat :=
  match P.underlying t with
  | some (.array n _) => n
  | _ => 0

/-- A number that needs no wrapping. -/
def fitsK (k : IntKind) (n : Int) : Prop := k.wrap n = n

def binA (P : Program) (op : BinOp) (t : TypeId) (x y : AVal) (k : AVal → Prop) : Prop :=
  match x, y with
  | .int ka a, .int kb b =>
    match op with
    | .shl => 0 ≤ b ∧ k (.int ka (shlA ka a b))
    | .shr => 0 ≤ b ∧ k (.int ka (shrA ka a b))
    | _ => if ka = kb then (match op with
      | .add => fitsK ka (a + b) ∧ k (.int ka (a + b))
      | .sub => fitsK ka (a - b) ∧ k (.int ka (a - b))
      | .mul => fitsK ka (a * b) ∧ k (.int ka (a * b))
      | .quo => (0 ≤ a ∧ 0 < b ∧ fitsK ka (a / b)) ∧ k (.int ka (a / b))
      | .rem => (0 ≤ a ∧ 0 < b) ∧ k (.int ka (a % b))
      | .and => k (.int ka (bitsA .and ka a b))
      | .or => k (.int ka (bitsA .or ka a b))
      | .xor => k (.int ka (bitsA .xor ka a b))
      | .andNot => k (.int ka (bitsA .andNot ka a b))
      | .eql => k (.bool (a == b))
      | .neq => k (.bool (a != b))
      | .lss => k (.bool (decide (a < b)))
      | .leq => k (.bool (decide (a ≤ b)))
      | .gtr => k (.bool (decide (a > b)))
      | .geq => k (.bool (decide (a ≥ b)))
      | _ => False) else False
  | .bool a, .bool b => match P.underlying t with
    | some .bool => (match op with
      | .eql => k (.bool (a == b))
      | .neq => k (.bool (!(a == b)))
      | _ => False)
    | _ => False
  | .agg xs, .agg ys => if intsT P t xs.length then (match eqCells xs ys with
    | some e => (match op with
      | .eql => k (.bool e)
      | .neq => k (.bool (!e))
      | _ => False)
    | none => False) else False
  | .arrv tx lx, .arrv ty ly => if intArrT P t (arrLenT P t) ∧ tx = ty then (match intList tx lx, intList ty ly with
    | some l, some l' => l.length = arrLenT P t ∧ l'.length = arrLenT P t ∧ (match op with
      | .eql => k (.bool (l == l'))
      | .neq => k (.bool (!(l == l')))
      | _ => False)
    | _, _ => False) else False
  | _, _ => False

def lenA (M : Mm) (x : AVal) (k : Q → Prop) : Prop :=
  match x with
  | .nilc => k (.pure (.int .i64 0))
  | .nils _ => k (.pure (.int .i64 0))
  | .imm _ l _ => k (.pure (.int .i64 (l.length : Int)))
  | .reg r _ => match M r with
    | some (.sl _ l, f) => if f = .dead then False else k (.read (.int .i64 (l.length : Int)) r)
    | _ => False
  | .sub _ _ len _ => k (.pure (.int .i64 (len : Int)))
  | _ => False

def newSl (nx : Nat) (t : Ty) (l : List t.den) (full : Bool) (reads : List Nat) (use : List (Nat × Flag)) : Q :=
  ⟨.reg nx full, [.sl t l], use, reads⟩

/-- What a slice's elements are, as plain data (its regions of one's own are read). -/
def elemsA (M : Mm) (t : Ty) : AVal → Option (List t.den × List Nat)
  | .nilc => some ([], [])
  | .nils t' => if t' = t then some ([], []) else none
  | .imm t' l _ => if h : t' = t then some (h ▸ l, []) else none
  | .reg r _ => match M r with
    | some (.sl t' l, f) => if h : t' = t then (if f = .dead then none else some (h ▸ l, [r])) else none
    | _ => none
  | .sub r lo len _ => match M r with
    | some (.sl t' l, f) => if h : t' = t then (if f = .dead then none else some (h ▸ (l.drop lo).take len, [r])) else none
    | _ => none
  | _ => none

/-- Slices are no longer than this, in elements. -/
def big : Nat := 1099511627776

def appendA (P : Program) (nx : Nat) (M : Mm) (at0 : TypeId) (at1 : TypeId) (x y : AVal) (k : Q → Prop) : Prop :=
  match P.underlying at0, P.underlying at1 with
  | some (.slice e), some (.slice _) => if at0 = at1 then (match tyOf P 8 e with
    | some t => if (((P.info? e).map (·.bytes)).getD 0) ≤ 64 ∧ zeroOk P e t then (match elemsA M t y with
      | some (ys, rs) => (match x with
        | .nilc => ys.length ≤ big ∧ k (newSl nx t ys false rs [])
        | .nils t' => if t' = t then ys.length ≤ big ∧ k (newSl nx t ys false rs []) else False
        | .imm t' l true => if h : t' = t then l.length + ys.length ≤ big ∧ 0 < ys.length ∧ k (newSl nx t ((h ▸ l) ++ ys) false rs []) else False
        | .reg r _ => (match M r with
          | some (.sl t' l, .own) => if h : t' = t then l.length + ys.length ≤ big ∧ k (newSl nx t ((h ▸ l) ++ ys) false (r :: rs) [(r, .dead)]) else False
          | _ => False)
        | .sub r lo len true => (match M r with
          | some (.sl t' l, f) => if h : t' = t then (if f = .dead then False else len + ys.length ≤ big ∧ 0 < ys.length ∧ k (newSl nx t ((h ▸ ((l.drop lo).take len)) ++ ys) false (r :: rs) [])) else False
          | _ => False)
        | _ => False)
      | none => False) else False
    | none => False) else False
  | _, _ => False

/-- A slice expression: of what, from where, to where, its greatest capacity. -/
def sliceA (P : Program) (M : Mm) (t : TypeId) (x : AVal) (lo hi mx : Option AVal) (k : Q → Prop) : Prop :=
  match lo, hi, mx with
  | none, none, none => (match P.underlying t, x with
    | some (.array n e), .aptr r => (match M r with
      | some (.sl ty l, f) => if f = .dead ∨ sizeT P e ≠ ty.size then False else l.length = n ∧ k (.read (.reg r true) r)
      | _ => False)
    | _, _ => False)
  | some (.int .i64 a), none, none => (match P.underlying t, x with
    | some (.slice e), .imm ty l _ => if sizeT P e = ty.size then (0 ≤ a ∧ a ≤ (l.length : Int)) ∧ k (.pure (.imm ty (l.drop a.toNat) false)) else False
    | some (.slice e), .reg r _ => (match M r with
      | some (.sl ty l, f) => if sizeT P e = ty.size ∧ f ≠ .dead then (0 ≤ a ∧ a ≤ (l.length : Int)) ∧ k (.read (.sub r a.toNat (l.length - a.toNat) false) r) else False
      | _ => False)
    | _, _ => False)
  | none, some (.int .i64 b), none => (match P.underlying t, x with
    | some (.slice e), .imm ty l _ => if sizeT P e = ty.size then (0 ≤ b ∧ b ≤ (l.length : Int)) ∧ k (.pure (.imm ty (l.take b.toNat) false)) else False
    | some (.slice e), .reg r _ => (match M r with
      | some (.sl ty l, f) => if sizeT P e = ty.size ∧ f ≠ .dead then (0 ≤ b ∧ b ≤ (l.length : Int)) ∧ k (.read (.sub r 0 b.toNat false) r) else False
      | _ => False)
    | _, _ => False)
  | none, some (.int .i64 b), some (.int .i64 c) => (match P.underlying t, x with
    | some (.slice e), .imm ty l _ => if sizeT P e = ty.size then (0 ≤ b ∧ b ≤ (l.length : Int) ∧ c = b) ∧ k (.pure (.imm ty (l.take b.toNat) true)) else False
    | some (.slice e), .reg r _ => (match M r with
      | some (.sl ty l, f) => if sizeT P e = ty.size ∧ f ≠ .dead then (0 ≤ b ∧ b ≤ (l.length : Int) ∧ c = b) ∧ k (.read (.sub r 0 b.toNat true) r) else False
      | _ => False)
    | _, _ => False)
  | some (.int .i64 a), some (.int .i64 b), none => (match P.underlying t, x with
    | some (.slice e), .imm ty l _ => if sizeT P e = ty.size then (0 ≤ a ∧ a ≤ b ∧ b ≤ (l.length : Int)) ∧ k (.pure (.imm ty ((l.drop a.toNat).take (b.toNat - a.toNat)) false)) else False
    | some (.slice e), .reg r _ => (match M r with
      | some (.sl ty l, f) => if sizeT P e = ty.size ∧ f ≠ .dead then (0 ≤ a ∧ a ≤ b ∧ b ≤ (l.length : Int)) ∧ k (.read (.sub r a.toNat (b.toNat - a.toNat) false) r) else False
      | _ => False)
    | _, _ => False)
  | _, _, _ => False

def indexAddrA (P : Program) (M : Mm) (t : TypeId) (x i : AVal) (k : Q → Prop) : Prop :=
  match i with
  | .int _ a => (match P.underlying t with
    | some (.slice e) => (match x with
      | .imm ty l _ => if sizeT P e = ty.size then ∃ h : 0 ≤ a ∧ a.toNat < l.length, k (.pure (.iptr (ty.cells (l[a.toNat]'h.2)))) else False
      | .reg r _ => (match M r with
        | some (.sl ty l, f) => if sizeT P e = ty.size ∧ f ≠ .dead then (0 ≤ a ∧ a.toNat < l.length) ∧ k (.read (.eptr r a.toNat 0) r) else False
        | _ => False)
      | .sub r lo len _ => (match M r with
        | some (.sl ty _, f) => if sizeT P e = ty.size ∧ f ≠ .dead then (0 ≤ a ∧ a.toNat < len) ∧ k (.read (.eptr r (lo + a.toNat) 0) r) else False
        | _ => False)
      | _ => False)
    | some (.array n e) => (match x with
      | .aptr r => (match M r with
        | some (.sl ty _, f) => if sizeT P e = ty.size ∧ f ≠ .dead then (0 ≤ a ∧ a.toNat < n) ∧ k (.read (.eptr r a.toNat 0) r) else False
        | _ => False)
      | _ => False)
    | _ => False)
  | _ => False

def hasReg : List AVal → Bool
  | [] => false
  | .reg _ _ :: _ => true
  | .sub _ _ _ _ :: _ => true
  | _ :: l => hasReg l

/-- What was read out of a region: a struct's own regions are frozen then. -/
def readV (M : Mm) (r : Nat) (v : AVal) (k : Q → Prop) : Prop :=
  match v with
  | .agg cs => if hasReg cs then (match view M 6 (.agg cs) with
    | some (v', rs) => k ⟨v', [], frzAll rs, r :: nums rs⟩
    | none => False) else k (.read (.agg cs) r)
  | v => k (.read v r)

def loadA (P : Program) (M : Mm) (t : TypeId) (x : AVal) (k : Q → Prop) : Prop :=
  match x with
  | .ptr r off => (match M r with
    | some (.box cells, f) => if f = .dead then False else (match ldA P t (cells.drop off) with
      | some v => readV M r v k
      | none => False)
    | _ => False)
  | .iptr cells => (match ldA P t cells with
    | some v => k (.pure v)
    | none => False)
  | .eptr r i j => (match M r with
    | some (.sl ty l, f) => if f = .dead then False else ∃ h : i < l.length, (match ldA P t ((ty.cells l[i]).drop j) with
      | some v => k (.read v r)
      | none => False)
    | _ => False)
  | .aptr r => (match M r, P.underlying t with
    | some (.sl ty l, f), some (.array _ _) => if f = .dead then False else l.length * ty.size = sizeT P t ∧ k (.read (.arrv ty l) r)
    | _, _ => False)
  | _ => False

def wholeL (t : Ty) : List (List AVal) → Option (List t.den)
  | [] => some []
  | as :: r => match t.whole as, wholeL t r with
    | some x, some xs => some (x :: xs)
    | _, _ => none

/-- Operands in order, as cells, typed; all their regions frozen. -/
def partsL (P : Program) (M : Mm) (ev : Operand → AVal) (e : TypeId) : Nat → List (Nat × Operand) → Option (List (List AVal) × List (Nat × Flag))
  | _, [] => some ([], [])
  | i, (j, o) :: r => if i = j then (match view M 6 (typed P e (ev o)) with
    | some (v, r1) => (match v.parts, partsL P M ev e (i + 1) r with
      | some as, some (rest, r2) => some (as :: rest, r1 ++ r2)
      | _, _ => none)
    | none => none) else none

/-- A struct's cells, its parts laid over. -/
def fillA (P : Program) (ev : Operand → AVal) (t : TypeId) : List AVal → List (Nat × Operand) → Option (List AVal)
  | cells, [] => some cells
  | cells, (i, o) :: r => match fieldT P t i with
    | some (off, size) => (match (typed P (fldTy P t i) (ev o)).parts with
      | some as => if as.length = size ∧ off + size ≤ cells.length then fillA P ev t (cells.take off ++ as ++ cells.drop (off + size)) r else none
      | none => none)
    | none => none
where
  fldTy (P : Program) (t : TypeId) (i : Nat) : TypeId :=
    match P.underlying t with
    | some (.struct fs) => match fs[i]? with
      | some f => f.type
      | none => 0
    | _ => 0

def infosOk (P : Program) : List Field → Bool
  | [] => true
  | f :: fs => (P.info? f.type).isSome && infosOk P fs
/-- A struct that is no plain data. -/
def buildX (P : Program) (ev : Operand → AVal) (t : TypeId) (ps : List (Nat × Operand)) (k : AVal → Prop) : Prop :=
  match P.info? t, P.underlying t with
  | some i, some (.struct fs) => (match i.zero with
    | some v => if infosOk P fs.toList then (match fillA P ev t (v.cells.toList.map constA1) ps with
      | some cells => k (.agg cells)
      | none => False) else False
    | none => False)
  | _, _ => False

def foldInt (f : Int → Int → Int) (k : IntKind) : Int → List AVal → Option Int
  | a, [] => some a
  | a, .int k' b :: r => if k = k' then foldInt f k (f a b) r else none
  | _, _ => none

/-! ### memories: maps from sets (one number each) to numbers, all of whose entries agree with a function -/

def MemoObj (spec : Int → Int) (o : Obj) : Prop :=
  ∃ es clock, o = .map es clock ∧ ∀ e ∈ es.toList, ∃ a, e.key = .agg #[.int .i64 a] ∧ e.val = .int .i64 (spec a)
def memoP (spec : Int → Int) : SemP where
  P := fun K v => ∃ b, v = .map (some b) ∧ K.inv b = some (MemoObj spec)
  mono := fun _ _ _ h ⟨b, h1, h2⟩ => ⟨b, h1, h.inv _ _ h2⟩
  cell := fun _ _ ⟨b, h1, _⟩ => ⟨some b, h1⟩

def oneInt (P : Program) : List Field → Bool
  | [f] => decide (f.offset = 0) && decide (f.name ≠ "_") && (match P.underlying f.type with
    | some (.int _) => true
    | _ => false)
  | _ => false

/-- The type of such maps. -/
def memoT (P : Program) (t : TypeId) : Bool :=
  match P.underlying t with
  | some (.map kt vt) => intsT P kt 1 && (match P.underlying kt with
    | some (.struct fs) => oneInt P fs.toList
    | _ => false) && (match P.info? vt with
    | some i => (match i.zero with
      | some (.int .i64 0) => true
      | _ => false)
    | none => false)
  | _ => false

/-- What is found in a memory: nothing, or what the function says. -/
def lookA (P : Program) (t : TypeId) (x i : AVal) (ck : Bool) (k : AVal → Prop) : Prop :=
  match x, i with
  | .sem p, .agg [.int .i64 a] => if memoT P t && ck then ∃ spec, p = memoP spec ∧ ∀ hit : Bool, k (.tup [.int .i64 (cond hit (spec a) 0), .bool hit]) else False
  | _, _ => False

/-! ### calls -/

/-- What comes back: by what is so, this or that. -/
inductive RTree where
  | leaf (v : AVal) (cs : List Cont)
  | br (b : Bool) (x y : RTree)
def RTree.run : RTree → (AVal → List Cont → Prop) → Prop
  | .leaf v cs, k => k v cs
  | .br b x y, k => Abs.br b (x.run k) (y.run k)

/-- What is promised of a function: for such arguments (and the regions that are handed over with them), what comes back. -/
structure Contract where
  pre : List AVal → List Cont → Prop
  res : List AVal → List Cont → RTree

def Contract.run (c : Contract) (as : List AVal) (cs : List Cont) (k : AVal → List Cont → Prop) : Prop :=
  c.pre as cs ∧ (c.res as cs).run k

theorem RTree.det (t : RTree) : ∃ v cs, ∀ k : AVal → List Cont → Prop, t.run k ↔ k v cs := by
  induction t with
  | leaf v cs => exact ⟨v, cs, fun k => Iff.rfl⟩
  | br b x y hx hy =>
    cases b with
    | true => exact hx
    | false => exact hy

abbrev Env := FuncId → Option Contract

mutual
def AVal.flat : AVal → Bool
  | .bool _ => true
  | .int _ _ => true
  | .reg _ _ => true
  | .agg cs => flatL cs
  | .tup cs => flatL cs
  | _ => false
def flatL : List AVal → Bool
  | [] => true
  | v :: vs => v.flat && flatL vs
end

def Ty.flat : Ty → Bool
  | .int _ => true
  | .bool => true
  | .slice _ => false
  | .pair a b => a.flat && b.flat

def flatC : List Cont → Bool
  | [] => true
  | .sl t _ :: r => t.flat && flatC r
  | .box cs :: r => flatL cs && flatC r

mutual
def AVal.shift (n : Nat) : AVal → AVal
  | .reg r f => .reg (r + n) f
  | .sub r lo len f => .sub (r + n) lo len f
  | .ptr r o => .ptr (r + n) o
  | .eptr r i o => .eptr (r + n) i o
  | .aptr r => .aptr (r + n)
  | .iptr cs => .iptr (shiftL n cs)
  | .agg cs => .agg (shiftL n cs)
  | .tup cs => .tup (shiftL n cs)
  | .fn f a b => .fn f (shiftL n a) (shiftL n b)
  | v => v
def shiftL (n : Nat) : List AVal → List AVal
  | [] => []
  | v :: vs => v.shift n :: shiftL n vs
end

def Cont.shift (n : Nat) : Cont → Cont
  | .box cs => .box (shiftL n cs)
  | .sl t l => .sl t l
def shiftC (n : Nat) : List Cont → List Cont
  | [] => []
  | c :: cs => c.shift n :: shiftC n cs

def typedL (P : Program) : List TypeId → List AVal → List AVal
  | t :: ts, v :: vs => typed P t v :: typedL P ts vs
  | _, vs => vs

/-- A call with arguments that the callee only reads. -/
def callA (Γ : Env) (nx : Nat) (M : Mm) (f : FuncId) (args : List AVal) (k : Q → Prop) : Prop :=
  match viewAll M args, Γ f with
  | some (vs, rs), some c => c.run vs [] (fun v new => k ⟨v.shift nx, shiftC nx new, if v.flat && flatC new then [] else frzAll rs, nums rs⟩)
  | _, _ => False

def awpQ (Γ : Env) (P : Program) (o : Oper) (ev : Operand → AVal) (nx : Nat) (M : Mm) (k : Q → Prop) : Prop :=
  match o.op with
  | .move x => moveA x
  | .assign x => moveA x
  | .pick c a b => (match ev c with
    | .bool t => br t (k (.pure (ev a))) (k (.pure (ev b)))
    | _ => False)
  | .alloc e => (match P.underlying e with
    | some (.array n a) => (match tyOf P 8 a with
      | some t => if zeroOkArr P e t n then k ⟨.aptr nx, [.sl t (List.replicate n t.zero)], [], []⟩ else False
      | none => False)
    | _ => (match tyOf P 8 e with
      | some t => if zeroOk P e t then k ⟨.ptr nx 0, [.box (zeroA t)], [], []⟩ else False
      | none => False))
  | .box e x => (match (typed P e (ev x)).parts with
    | some cells => k ⟨.ptr nx 0, [.box cells], [], []⟩
    | none => False)
  | .build t ps => (match P.underlying t with
    | some (.array n e) => (match tyOf P 8 e with
      | some ty => if zeroOkArr P t ty n ∧ ps.toList.length = 0 then k (.pure (.arrv ty (List.replicate n ty.zero))) else False
      | none => False)
    | _ => (match tyOf P 8 t with
    | some ty => if zeroOk P t ty && aggT P t then (match fillA P ev t (zeroA ty) ps.toList with
      | some cells => k (.pure (.agg cells))
      | none => False) else False
    | none => buildX P ev t ps.toList (fun v => k (.pure v))))
  | .buildSlice t n ps => (match P.underlying t with
    | some (.slice e) => (match tyOf P 8 e with
      | some ty => if zeroOk P e ty ∧ ps.size = n ∧ n * ty.size ≤ 16777216 then (match partsL P M ev e 0 ps.toList with
        | some (cells, rs) => (match wholeL ty cells with
          | some l => k (newSl nx ty l true (nums rs) (frzAll rs))
          | none => False)
        | none => False) else False
      | none => False)
    | _ => False)
  | .load t a => loadA P M t (ev a) k
  | .nilCheck x => (match ev x with
    | .ptr r i => k (.pure (.ptr r i))
    | .iptr cs => k (.pure (.iptr cs))
    | .aptr r => k (.pure (.aptr r))
    | .fn (.func f) a b => k (.pure (.fn (.func f) a b))
    | _ => False)
  | .binOp op t x y _ => binA P op t (ev x) (ev y) (fun v => k (.pure v))
  | .unOp op _ x => (match op, ev x with
    | .not, .bool b => k (.pure (.bool (!b)))
    | .neg, .int kd n => fitsK kd (-n) ∧ k (.pure (.int kd (-n)))
    | _, _ => False)
  | .convert src dst x => (match P.underlying src, P.underlying dst, ev x with
    | some _, some (.int kd), .int _ n => fitsK kd n ∧ k (.pure (.int kd n))
    | _, _, _ => False)
  | .makeMap t r => if memoT P t && r.isNone then ∃ spec, k (.pure (.sem (memoP spec))) else False
  | .makeFunc fn first cap => k (.pure (.fn fn (first.toList.map ev) (cap.toList.map ev)))
  | .makeSlice t l c => (match P.underlying t, ev l, ev c with
    | some (.slice e), .int .i64 a, .int .i64 b => (match tyOf P 8 e with
      | some ty => if zeroOk P e ty ∧ (((P.info? e).map (·.bytes)).getD 0) ≤ 64 then (0 ≤ a ∧ a = b ∧ a ≤ (big : Int)) ∧ k (newSl nx ty (List.replicate a.toNat ty.zero) true [] []) else False
      | none => False)
    | _, _, _ => False)
  | .slice t x lo hi mx => sliceA P M t (ev x) (lo.map ev) (hi.map ev) (mx.map ev) k
  | .fieldAddr s x f => (match fieldT P s f, ev x with
    | some (off, _), .ptr r o => k (.pure (.ptr r (o + off)))
    | some (off, _), .iptr cs => k (.pure (.iptr (cs.drop off)))
    | some (off, _), .eptr r i j => k (.pure (.eptr r i (j + off)))
    | _, _ => False)
  | .field s x f => (match fieldT P s f, ev x with
    | some (off, _), .agg cs => (match ldA P (fillA.fldTy P s f) (cs.drop off) with
      | some v => k (.pure v)
      | none => False)
    | _, _ => False)
  | .indexAddr t x i => indexAddrA P M t (ev x) (ev i) k
  | .index t x i => (match P.underlying t, ev x, ev i with
    | some (.array n e), .arrv ty l, .int _ a => if sizeT P e = ty.size then ∃ h : 0 ≤ a ∧ a.toNat < l.length, a.toNat < n ∧ l.length = n ∧ (match ldA P e (ty.cells (l[a.toNat]'h.2)) with
      | some v => k (.pure v)
      | none => False) else False
    | _, _, _ => False)
  | .extract x i => (match ev x with
    | .tup vs => (match vs[i]? with
      | some v => k (.pure v)
      | none => False)
    | _ => False)
  | .call c => (match c.callee with
    | .builtin .len => (match c.args.toList, c.argTypes.toList with
      | [x], [t] => (match P.underlying t with
        | some (.slice _) => lenA M (ev x) k
        | _ => False)
      | _, _ => False)
    | .builtin .append => (match c.args.toList, c.argTypes.toList with
      | [x, y], [t, u] => appendA P nx M t u (ev x) (ev y) k
      | _, _ => False)
    | .builtin .max => (match c.args.toList.map ev with
      | .int kd a :: r => (match foldInt (fun x y => if y > x then y else x) kd a r with
        | some b => k (.pure (.int kd b))
        | none => False)
      | _ => False)
    | .builtin .min => (match c.args.toList.map ev with
      | .int kd a :: r => (match foldInt (fun x y => if y < x then y else x) kd a r with
        | some b => k (.pure (.int kd b))
        | none => False)
      | _ => False)
    | .value g => (match ev g with
      | .fn (.func f) first cap => callA Γ nx M f (first ++ typedL P c.argTypes.toList (c.args.toList.map ev) ++ cap) k
      | _ => False)
    | _ => False)
  | _ => False
where
  moveA (x : Operand) : Prop := match ev x with
    | .nilc => (match elemTy P o.type with
      | some t => k ⟨.reg nx false, [.sl t []], [], []⟩
      | none => k (.pure .nilc))
    | v => k (.pure v)
  zeroOkArr (P : Program) (e : TypeId) (t : Ty) (n : Nat) : Bool :=
    match P.info? e with
    | some i => match i.zero with
      | some v => sameV v.cells.toList ((List.replicate n (zeroV t)).flatten)
      | none => false
    | none => false

/-- The operations that write: which regions are read, and what becomes of which. -/
structure W where
  set : List (Nat × (Cont × Flag))
  reads : List Nat
def setM : Mm → List (Nat × (Cont × Flag)) → Mm
  | m, [] => m
  | m, (r, x) :: us => setM (upd m r x) us
def setL : Mem → List (Nat × (Cont × Flag)) → Mem
  | m, [] => m
  | m, u :: us => setL (u :: m) us

def delE (P : Program) (ev : Operand → AVal) (c : Call) (k : W → Prop) (b : Builtin) : Prop :=
  match b with
  | .delete => (match c.args.toList, c.argTypes.toList with
    | [x, y], [t, _] => (match ev x, ev y with
      | .sem p, .agg [.int .i64 _] => if memoT P t then (∃ spec, p = memoP spec) ∧ k ⟨[], []⟩ else False
      | _, _ => False)
    | _, _ => False)
  | _ => False

def awpE (P : Program) (o : Oper) (ev : Operand → AVal) (M : Mm) (k : W → Prop) : Prop :=
  match o.op with
  | .store t a x => (match ev a with
    | .aptr r => (match M r, ev x with
      | some (.sl ty' l, .own), .arrv ty l' => if h : ty = ty' then l'.length = l.length ∧ l'.length * ty.size = sizeT P t ∧ 0 < l.length ∧ k ⟨[(r, (.sl ty' (h ▸ l'), .own))], [r]⟩ else False
      | _, _ => False)
    | .ptr r off => (match M r, (typed P t (ev x)).parts with
      | some (.box cells, .own), some xs => if xs.length = sizeT P t ∧ 0 < xs.length ∧ off + xs.length ≤ cells.length ∧ allOne xs = true then
          k ⟨[(r, (.box (cells.take off ++ xs ++ cells.drop (off + xs.length)), .own))], [r]⟩ else False
      | _, _ => False)
    | .eptr r i j => (match M r, (typed P t (ev x)).parts with
      | some (.sl ty l, .own), some xs => if xs.length = sizeT P t ∧ 0 < xs.length ∧ j + xs.length ≤ ty.size ∧ allOne xs = true then ∃ h : i < l.length,
            (match ty.whole ((ty.cells l[i]).take j ++ xs ++ (ty.cells l[i]).drop (j + xs.length)) with
            | some x' => k ⟨[(r, (.sl ty (l.set i x'), .own))], [r]⟩
            | none => False) else False
      | _, _ => False)
    | _ => False)
  | .call c => (match c.callee with
    | .builtin .clear => (match c.args.toList, c.argTypes.toList with
      | [x], [t] => (match P.underlying t, ev x with
        | some (.slice e), .reg r _ => (match M r with
          | some (.sl ty l, .own) => if zeroOk P e ty then k ⟨[(r, (.sl ty (List.replicate l.length ty.zero), .own))], [r]⟩ else False
          | _ => False)
        | _, _ => False)
      | _, _ => False)
    | .builtin .copy => (match c.args.toList, c.argTypes.toList with
      | [x, y], [t, u] => (match P.underlying t, P.underlying u, ev x with
        | some (.slice e), some (.slice _), .reg r _ => (match M r with
          | some (.sl ty l, .own) => (match elemsA M ty (ev y) with
            | some (ys, rs) => if sizeT P e = ty.size ∧ rs.contains r = false then k ⟨[(r, (.sl ty (ys.take l.length ++ l.drop ys.length), .own))], r :: rs⟩ else False
            | none => False)
          | _ => False)
        | _, _, _ => False)
      | _, _ => False)
    | .builtin b => delE P ev c k b
    | _ => False)
  | .mapUpdate t m x v => (match ev m, ev x, ev v with
    | .sem p, .agg [.int .i64 a], .int .i64 n => if memoT P t then (∃ spec, p = memoP spec ∧ n = spec a) ∧ k ⟨[], []⟩ else False
    | _, _, _ => False)
  | _ => False

def isE : Op → Bool
  | .store .. => true
  | .mapUpdate .. => true
  | .call c => (match c.callee with
    | .builtin .clear => true
    | .builtin .delete => true
    | .builtin .copy => true
    | _ => false)
  | _ => false

/-! ### regions and code -/

/-- What became of one operation of a region: passed over; done; a write. -/
inductive Did where
  | skip
  | quiet (nx : Nat) (q : Q)
  | write (w : W)

def putA (dst : Option Tmp) (v : AVal) (tm : List (Nat × AVal)) : List (Nat × AVal) :=
  match dst with
  | some d => (d, v) :: tm
  | none => tm

def okDst (n : Nat) : Option Tmp → Bool
  | some d => d < n
  | none => true

/-- What is done where an iterator asks for a round. -/
abbrev Hand := List AVal → AState → (Bool → AState → Prop) → Prop

def yieldArgs (P : Program) (op : Op) (ev : Operand → AVal) : Option (List AVal) :=
  match op with
  | .call c => (match c.callee with
    | .value g => (match ev g with
      | .yieldv => some (typedL P c.argTypes.toList (c.args.toList.map ev))
      | _ => none)
    | _ => none)
  | _ => none

def stepA (Γ : Env) (Y : Option Hand) (P : Program) (o : Oper) (st : AState) (k : AState → Did → Prop) : Prop :=
  if okDst st.n o.dst then
    (if isE o.op then awpE P o (evA st.tmps) (mget st.M) (fun w => k { st with tmps := putA o.dst .unk st.tmps, M := setL st.M w.set } (.write w))
    else (match yieldArgs P o.op (evA st.tmps) with
      | some args => (match Y with
        | some h => h args st (fun b st' => k { st' with tmps := putA o.dst (.bool b) st'.tmps } .skip)
        | none => False)
      | none => awpQ Γ P o (evA st.tmps) st.nx (mget st.M) (fun q => k { st with tmps := putA o.dst q.val st.tmps, nx := st.nx + q.new.length, M := q.ml st.nx st.M } (.quiet st.nx q))))
  else False

def dstsOk (n : Nat) : List Oper → Bool
  | [] => true
  | o :: os => okDst n o.dst && dstsOk n os

def awpOps (Γ : Env) (Y : Option Hand) (P : Program) (all : Array Oper) : List Oper → AState → List Did → (AState → List Did → Prop) → Prop
  | [], st, tr, k => k st tr
  | o :: rest, st, tr, k =>
    match o.guard with
    | none => stepA Γ Y P o st (fun st' d => awpOps Γ Y P all rest st' (d :: tr) k)
    | some (j, want) => match (all[j]?).bind (·.dst) with
      | some d => match aget st.tmps d with
        | .bool b =>
          if okDst st.n o.dst then
            br (b == want)
              (stepA Γ Y P o { st with tmps := (d, .bool want) :: st.tmps } (fun st' d => awpOps Γ Y P all rest st' (d :: tr) k))
              (awpOps Γ Y P all rest { st with tmps := putA o.dst (.tup []) ((d, .bool (!want)) :: st.tmps) } (.skip :: tr) k)
          else False
        | .tup [] => if okDst st.n o.dst then awpOps Γ Y P all rest { st with tmps := putA o.dst (.tup []) st.tmps } (.skip :: tr) k else False
        | _ => False
      | none => False

/-! ### regions that draw their order -/

/-- A number is reckoned out, then handed on. -/
def forceN {α : Type} (n : Nat) (f : Nat → α) : α := match n with
  | 0 => f 0
  | k + 1 => f (k + 1)
theorem forceN_eq {α : Type} (n : Nat) (f : Nat → α) : forceN n f = f n := by cases n <;> rfl
def maskOf (acc : List Nat) : List Nat → Nat → Nat
  | [], m => m
  | j :: d, m => forceN (Nat.lor m (Nat.lor (2 ^ j) (acc.getD j 0))) fun m' => maskOf acc d m'
/-- All operations that surely come before each, by bits. -/
def ancsGo : List Oper → List Nat → List Nat
  | [], acc => acc
  | o :: r, acc => forceN (maskOf acc ((o.after.toList.filter (Region.binds .any)).map (·.on)) 0) fun m => ancsGo r (acc ++ [m])
def ancs (ops : List Oper) : List Nat := ancsGo ops []

def edgesOk : List Oper → Nat → Bool
  | [], _ => true
  | o :: r, i => (o.after.toList.all fun e => !Region.binds .any e || decide (e.on < i)) && edgesOk r (i + 1)

def Did.rd : Did → List Nat
  | .skip => []
  | .quiet _ q => q.reads
  | .write w => w.reads
def rangeL : Nat → Nat → List Nat
  | _, 0 => []
  | n, k + 1 => n :: rangeL (n + 1) k
def Did.wr : Did → List Nat
  | .skip => []
  | .quiet n q => q.use.map (·.1) ++ rangeL n q.new.length
  | .write w => w.set.map (·.1)

def disj (a b : List Nat) : Bool := a.all fun x => !b.contains x

/-- What two operations do to regions may come in either order. -/
def dis2 (d1 d2 : Did) : Bool := disj d1.wr d2.rd && disj d1.wr d2.wr && disj d1.rd d2.wr

/-- Each later operation is free of this one, or surely comes behind it. -/
def freeOf (R : Oper → Did → Oper → Did → Bool) (i : Nat) (o1 : Oper) (d1 : Did) : List Oper → List Did → List Nat → Bool
  | o2 :: os, d2 :: ds, a :: as => (a.testBit i || R o1 d1 o2 d2) && freeOf R i o1 d1 os ds as
  | _, _, _ => true
def freeAll (R : Oper → Did → Oper → Did → Bool) : Nat → List Oper → List Did → List Nat → Bool
  | i, o :: os, d :: ds, _ :: as => freeOf R i o d os ds as && freeAll R (i + 1) os ds as
  | _, _, _, _ => true

def noSelect (ops : List Oper) : Bool := ops.all fun o => match o.op with
  | .select _ _ => false
  | _ => true

/-- A region that draws its order: what can be seen from its text. -/
def textOk (ops : Array Oper) : Bool :=
  edgesOk ops.toList 0 && freeAll (fun o1 _ o2 _ => o1.apart ops o2) 0 ops.toList (ops.toList.map fun _ => .skip) (ancs ops.toList)
/-- And what cannot: which regions are written. -/
def drawOk (ops : Array Oper) (tr : List Did) : Bool :=
  if tr.all (fun d => d.wr.isEmpty) then true else freeAll (fun _ d1 _ d2 => dis2 d1 d2) 0 ops.toList tr (ancs ops.toList)

/-- All regions of a piece of code that draw their order. -/
def Code.textsOk : Code → Bool
  | .region _ ops draw => !draw || textOk ops
  | .seq a b => Code.textsOk a && Code.textsOk b
  | .cond _ a b => Code.textsOk a && Code.textsOk b
  | .block _ a => Code.textsOk a
  | .loop a => Code.textsOk a
  | .scope a => Code.textsOk a
  | .rangeFunc _ _ a b => Code.textsOk a && Code.textsOk b
  | _ => true

/-! ### code -/

/-- The references in a value. -/
def refs : Nat → AVal → List Nat
  | 0, _ => []
  | d + 1, v => match v with
    | .reg r _ => [r]
    | .sub r _ _ _ => [r]
    | .ptr r _ => [r]
    | .eptr r _ _ => [r]
    | .aptr r => [r]
    | .iptr cs => (cs.map (refs d)).flatten
    | .agg cs => (cs.map (refs d)).flatten
    | .tup cs => (cs.map (refs d)).flatten
    | .fn _ a b => (a.map (refs d)).flatten ++ (b.map (refs d)).flatten
    | _ => []

/-- Values, with nil slices as regions of their own. -/
def ownNil : List (Nat × AVal) → Nat → Mem → List (Nat × AVal) × Nat × Mem
  | [], n, M => ([], n, M)
  | (t, .nils ty) :: r, n, M =>
    let x := ownNil r (n + 1) ((n, (.sl ty [], .own)) :: M)
    ((t, .reg n false) :: x.1, x.2)
  | u :: r, n, M =>
    let x := ownNil r n M
    (u :: x.1, x.2)

def keepT (tm : List (Nat × AVal)) (ks : List Nat) : List (Nat × AVal) := ks.map fun t => (t, aget tm t)

def boxNils : List AVal → Nat → Mem → List AVal × Nat × Mem
  | [], n, M => ([], n, M)
  | .nils ty :: r, n, M =>
    let x := boxNils r (n + 1) ((n, (.sl ty [], .own)) :: M)
    (.reg n false :: x.1, x.2)
  | v :: r, n, M =>
    let x := boxNils r n M
    (v :: x.1, x.2)

/-- The nil slices in boxes of one's own, as regions of their own. -/
def ownBoxes : List Nat → Nat → Mem → Nat × Mem
  | [], n, M => (n, M)
  | r :: rs, n, M => match mget M r with
    | some (.box cells, .own) =>
      if r < n then
        let x := boxNils cells n M
        ownBoxes rs x.2.1 ((r, (.box x.1, .own)) :: x.2.2)
      else ownBoxes rs n M
    | _ => ownBoxes rs n M

def uniq : List Nat → List Nat → List Nat
  | [], acc => acc
  | a :: l, acc => if acc.contains a then uniq l acc else uniq l (acc ++ [a])

def contRefs : Cont → List Nat
  | .box cells => (cells.map (refs 3)).flatten
  | .sl _ _ => []

def reach (M : Mem) : Nat → List Nat → List Nat
  | 0, l => l
  | d + 1, l => reach M d (uniq ((l.map fun r => match mget M r with
    | some (c, _) => contRefs c
    | none => []).flatten) l)

def idx : List Nat → Nat → Nat → Option Nat
  | [], _, _ => none
  | a :: l, r, i => if a = r then some i else idx l r (i + 1)

mutual
/-- References by new numbers; slices not known to be full. -/
def AVal.ren (l : List Nat) : AVal → AVal
  | .reg r _ => match idx l r 0 with
    | some i => .reg i false
    | none => .unk
  | .sub r lo len f => match idx l r 0 with
    | some i => .sub i lo len f
    | none => .unk
  | .ptr r o => match idx l r 0 with
    | some i => .ptr i o
    | none => .unk
  | .eptr r a o => match idx l r 0 with
    | some i => .eptr i a o
    | none => .unk
  | .aptr r => match idx l r 0 with
    | some i => .aptr i
    | none => .unk
  | .imm t x _ => .imm t x false
  | .iptr cs => .iptr (renL l cs)
  | .agg cs => .agg (renL l cs)
  | .tup cs => .tup (renL l cs)
  | .fn f a b => .fn f (renL l a) (renL l b)
  | v => v
def renL (l : List Nat) : List AVal → List AVal
  | [] => []
  | v :: vs => v.ren l :: renL l vs
end

def Cont.ren (l : List Nat) : Cont → Cont
  | .box cells => .box (renL l cells)
  | .sl t x => .sl t x

def renMem (l : List Nat) (M : Mem) : List Nat → Nat → Mem
  | [], _ => []
  | r :: rs, i => match mget M r with
    | some (c, f) => (i, (c.ren l, f)) :: renMem l M rs (i + 1)
    | none => renMem l M rs (i + 1)

/-- The state in its plainest form: what is kept, regions numbered in order. -/
def canon (ks : List Nat) (st : AState) : AState :=
  let x := ownNil (keepT st.tmps ks) st.nx st.M
  let l0 := uniq ((x.1.map fun u => refs 3 u.2).flatten ++ (st.gh.map (refs 3)).flatten) []
  let y := ownBoxes l0 x.2.1 x.2.2
  let l := reach y.2 2 l0
  { n := st.n, tmps := x.1.map fun u => (u.1, u.2.ren l), nx := l.length, M := renMem l y.2 l 0, gh := renL l st.gh, pend := st.pend }

def loopKey : Code → Nat
  | .region id _ _ => id
  | .seq a _ => loopKey a
  | .block _ a => loopKey a
  | .loop a => loopKey a
  | .scope a => loopKey a
  | _ => 0

def iter {σ : Type} (B : (σ → Prop) → σ → Prop) : Nat → σ → Prop
  | 0, _ => False
  | n + 1, s => B (iter B n) s

def Loop {σ : Type} (B : (σ → Prop) → σ → Prop) (s : σ) : Prop := ∃ n, iter B n s

/-! ### shapes: what stays the same in a state from round to round -/

inductive VS where
  | int (k : IntKind)
  | bool
  | imm (t : Ty) (f : Bool)
  | arrv (t : Ty)
  | reg (r : Nat) (f : Bool)
  | sub (r : Nat) (f : Bool)
  | ptr (r o : Nat)
  | eptr (r o : Nat)
  | aptr (r : Nat)
  | iptr (l : VS)
  | agg (l : VS)
  | tup (l : VS)
  | fn (f : FuncId) (a b : VS)
  | nilc
  | nils (t : Ty)
  | nilfn
  | yieldv
  | sem
  | unk
  | nl
  | cs (a l : VS)

def VS.den : VS → Type → Type
  | .int _, R => Int × R
  | .bool, R => Bool × R
  | .imm t _, R => List t.den × R
  | .arrv t, R => List t.den × R
  | .sub _ _, R => Nat × Nat × R
  | .eptr _ _, R => Nat × R
  | .sem, R => SemP × R
  | .iptr l, R => l.den R
  | .agg l, R => l.den R
  | .tup l, R => l.den R
  | .fn _ a b, R => a.den (b.den R)
  | .cs a l, R => a.den (l.den R)
  | _, R => R

mutual
def AVal.shape : AVal → VS
  | .unk => .unk
  | .bool _ => .bool
  | .int k _ => .int k
  | .nilc => .nilc
  | .nils t => .nils t
  | .imm t _ f => .imm t f
  | .reg r f => .reg r f
  | .sub r _ _ f => .sub r f
  | .ptr r o => .ptr r o
  | .eptr r _ o => .eptr r o
  | .aptr r => .aptr r
  | .iptr l => .iptr (shapeL l)
  | .agg l => .agg (shapeL l)
  | .arrv t _ => .arrv t
  | .tup l => .tup (shapeL l)
  | .fn (.func f) a b => .fn f (shapeL a) (shapeL b)
  | .fn _ _ _ => .unk
  | .nilfn => .nilfn
  | .yieldv => .yieldv
  | .sem _ => .sem
def shapeL : List AVal → VS
  | [] => .nl
  | v :: vs => .cs v.shape (shapeL vs)
end

/-- The values of a shape, out of their leaves; and the leaves that are left. -/
def VS.enc : (s : VS) → (R : Type) → s.den R → List AVal × R
  | .int k, _, x => ([.int k x.1], x.2)
  | .bool, _, x => ([.bool x.1], x.2)
  | .imm t f, _, x => ([.imm t x.1 f], x.2)
  | .arrv t, _, x => ([.arrv t x.1], x.2)
  | .reg r f, _, x => ([.reg r f], x)
  | .sub r f, _, x => ([.sub r x.1 x.2.1 f], x.2.2)
  | .ptr r o, _, x => ([.ptr r o], x)
  | .eptr r o, _, x => ([.eptr r x.1 o], x.2)
  | .aptr r, _, x => ([.aptr r], x)
  | .iptr l, R, x => ([.iptr (l.enc R x).1], (l.enc R x).2)
  | .agg l, R, x => ([.agg (l.enc R x).1], (l.enc R x).2)
  | .tup l, R, x => ([.tup (l.enc R x).1], (l.enc R x).2)
  | .fn f a b, R, x => ([.fn (.func f) (a.enc (b.den R) x).1 (b.enc R (a.enc (b.den R) x).2).1], (b.enc R (a.enc (b.den R) x).2).2)
  | .nilc, _, x => ([.nilc], x)
  | .nils t, _, x => ([.nils t], x)
  | .nilfn, _, x => ([.nilfn], x)
  | .yieldv, _, x => ([.yieldv], x)
  | .sem, _, x => ([.sem x.1], x.2)
  | .unk, _, x => ([.unk], x)
  | .nl, _, x => ([], x)
  | .cs a l, R, x => ((a.enc (l.den R) x).1 ++ (l.enc R (a.enc (l.den R) x).2).1, (l.enc R (a.enc (l.den R) x).2).2)

def castL {t t' : Ty} (h : t' = t) (l : List t'.den) : List t.den := h ▸ l

def VS.d_int {R : Type} (k : IntKind) (v : List AVal) (r : R) : Option (Int × R) := match v with
  | [.int k' n] => if k' = k then some (n, r) else none
  | _ => none
def VS.d_bool {R : Type}  (v : List AVal) (r : R) : Option (Bool × R) := match v with
  | [.bool b] => some (b, r)
  | _ => none
def VS.d_arrv {R : Type} (t : Ty) (v : List AVal) (r : R) : Option (List t.den × R) := match v with
  | [.arrv t' l] => if h : t' = t then some (castL h l, r) else none
  | _ => none
def VS.d_reg {R : Type} (i : Nat) (f : Bool) (v : List AVal) (r : R) : Option (R) := match v with
  | [.reg i' f'] => if i' = i ∧ f' = f then some r else none
  | _ => none
def VS.d_sub {R : Type} (i : Nat) (f : Bool) (v : List AVal) (r : R) : Option (Nat × Nat × R) := match v with
  | [.sub i' lo len f'] => if i' = i ∧ f' = f then some (lo, len, r) else none
  | _ => none
def VS.d_ptr {R : Type} (i o : Nat) (v : List AVal) (r : R) : Option (R) := match v with
  | [.ptr i' o'] => if i' = i ∧ o' = o then some r else none
  | _ => none
def VS.d_eptr {R : Type} (i o : Nat) (v : List AVal) (r : R) : Option (Nat × R) := match v with
  | [.eptr i' n o'] => if i' = i ∧ o' = o then some (n, r) else none
  | _ => none
def VS.d_aptr {R : Type} (i : Nat) (v : List AVal) (r : R) : Option (R) := match v with
  | [.aptr i'] => if i' = i then some r else none
  | _ => none
def VS.d_nilc {R : Type}  (v : List AVal) (r : R) : Option (R) := match v with
  | [.nilc] => some r
  | _ => none
def VS.d_nils {R : Type} (t : Ty) (v : List AVal) (r : R) : Option (R) := match v with
  | [.nils t'] => if t' = t then some r else none
  | _ => none
def VS.d_nilfn {R : Type}  (v : List AVal) (r : R) : Option (R) := match v with
  | [.nilfn] => some r
  | _ => none
def VS.d_yieldv {R : Type}  (v : List AVal) (r : R) : Option (R) := match v with
  | [.yieldv] => some r
  | _ => none
def VS.d_sem {R : Type}  (v : List AVal) (r : R) : Option (SemP × R) := match v with
  | [.sem p] => some (p, r)
  | _ => none
def VS.d_unk {R : Type}  (v : List AVal) (r : R) : Option (R) := match v with
  | [.unk] => some r
  | _ => none
def VS.d_nl {R : Type}  (v : List AVal) (r : R) : Option (R) := match v with
  | [] => some r
  | _ => none
def VS.d_imm {R : Type} (t : Ty) (f : Bool) (v : List AVal) (r : R) : Option (List t.den × R) := match v with
  | [.imm t' l f'] => if h : t' = t then (if f' = f then some (castL h l, r) else none) else none
  | _ => none
def VS.inIptr : List AVal → Option (List AVal)
  | [.iptr l] => some l
  | _ => none
def VS.inAgg : List AVal → Option (List AVal)
  | [.agg l] => some l
  | _ => none
def VS.inTup : List AVal → Option (List AVal)
  | [.tup l] => some l
  | _ => none
def VS.inFn (f : FuncId) : List AVal → Option (List AVal × List AVal)
  | [.fn (.func f') a b] => if f' = f then some (a, b) else none
  | _ => none
def VS.into {A B : Type} (x : Option A) (f : A → Option B) : Option B := match x with
  | some a => f a
  | none => none
def VS.inCons : List AVal → Option (AVal × List AVal)
  | x :: xs => some (x, xs)
  | _ => none

/-- The leaves of values of this shape. -/
def VS.dec : (s : VS) → List AVal → (R : Type) → R → Option (s.den R)
  | .int k, v, _, r => VS.d_int k v r
  | .bool, v, _, r => VS.d_bool  v r
  | .arrv t, v, _, r => VS.d_arrv t v r
  | .reg i f, v, _, r => VS.d_reg i f v r
  | .sub i f, v, _, r => VS.d_sub i f v r
  | .ptr i o, v, _, r => VS.d_ptr i o v r
  | .eptr i o, v, _, r => VS.d_eptr i o v r
  | .aptr i, v, _, r => VS.d_aptr i v r
  | .nilc, v, _, r => VS.d_nilc  v r
  | .nils t, v, _, r => VS.d_nils t v r
  | .nilfn, v, _, r => VS.d_nilfn  v r
  | .yieldv, v, _, r => VS.d_yieldv  v r
  | .sem, v, _, r => VS.d_sem  v r
  | .unk, v, _, r => VS.d_unk  v r
  | .nl, v, _, r => VS.d_nl  v r
  | .imm t f, v, _, r => VS.d_imm t f v r
  | .iptr l, v, R, r => VS.into (VS.inIptr v) fun l' => l.dec l' R r
  | .agg l, v, R, r => VS.into (VS.inAgg v) fun l' => l.dec l' R r
  | .tup l, v, R, r => VS.into (VS.inTup v) fun l' => l.dec l' R r
  | .fn f a b, v, R, r => VS.into (VS.inFn f v) fun l' => VS.into (b.dec l'.2 R r) fun y => a.dec l'.1 (b.den R) y
  | .cs a l, v, R, r => VS.into (VS.inCons v) fun l' => VS.into (l.dec l'.2 R r) fun y => a.dec [l'.1] (l.den R) y

inductive CS where
  | box (l : VS)
  | sl (t : Ty)
def CS.den : CS → Type → Type
  | .box l, R => l.den R
  | .sl t, R => List t.den × R
def Cont.shape : Cont → CS
  | .box l => .box (shapeL l)
  | .sl t _ => .sl t
def CS.enc : (c : CS) → (R : Type) → c.den R → Cont × R
  | .box l, R, x => (.box (l.enc R x).1, (l.enc R x).2)
  | .sl t, _, x => (.sl t x.1, x.2)
def CS.dec : (c : CS) → Cont → (R : Type) → R → Option (c.den R)
  | .box l, c, R, r => (match c with
    | .box l' => l.dec l' R r
    | _ => none)
  | .sl t, c, _, r => (match c with
    | .sl t' l => if h : t' = t then some (castL h l, r) else none
    | _ => none)

/-- The temporaries' values and their numbers. -/
def zipT : List Nat → List AVal → List (Nat × AVal)
  | t :: ts, v :: vs => (t, v) :: zipT ts vs
  | _, _ => []

def denM : List (Nat × (CS × Flag)) → Type → Type
  | [], R => R
  | u :: us, R => u.2.1.den (denM us R)
def encM : (l : List (Nat × (CS × Flag))) → (R : Type) → denM l R → Mem × R
  | [], _, x => ([], x)
  | u :: us, R, x => ((u.1, ((u.2.1.enc (denM us R) x).1, u.2.2)) :: (encM us R (u.2.1.enc (denM us R) x).2).1, (encM us R (u.2.1.enc (denM us R) x).2).2)
def decM : (l : List (Nat × (CS × Flag))) → Mem → (R : Type) → R → Option (denM l R)
  | [], m, _, r => (match m with
    | [] => some r
    | _ => none)
  | u :: us, m, R, r => (match m with
    | x :: xs => if x.1 = u.1 ∧ x.2.2 = u.2.2 then (match decM us xs R r with
      | some y => u.2.1.dec x.2.1 (denM us R) y
      | none => none) else none
    | _ => none)

structure Shape where
  n : Nat
  ts : List Nat
  vs : VS
  nx : Nat
  M : List (Nat × (CS × Flag))
  gh : VS
  pend : Option AExit
def Shape.den (S : Shape) : Type := S.vs.den (S.gh.den (denM S.M Unit))
def shapeOf (st : AState) : Shape := ⟨st.n, st.tmps.map (·.1), shapeL (st.tmps.map (·.2)), st.nx, st.M.map fun u => (u.1, (u.2.1.shape, u.2.2)), shapeL st.gh, st.pend⟩
def Shape.enc (S : Shape) (x : S.den) : AState :=
  { n := S.n, tmps := zipT S.ts (S.vs.enc (S.gh.den (denM S.M Unit)) x).1, nx := S.nx, M := (encM S.M Unit (S.gh.enc (denM S.M Unit) (S.vs.enc (S.gh.den (denM S.M Unit)) x).2).2).1, gh := (S.gh.enc (denM S.M Unit) (S.vs.enc (S.gh.den (denM S.M Unit)) x).2).1, pend := S.pend }
def Shape.dec (S : Shape) (st : AState) : Option S.den :=
  if st.n = S.n ∧ st.nx = S.nx ∧ st.tmps.map (·.1) = S.ts ∧ st.pend = S.pend then (match decM S.M st.M Unit () with
    | some y => (match S.gh.dec st.gh (denM S.M Unit) y with
      | some z => S.vs.dec (st.tmps.map (·.2)) (S.gh.den (denM S.M Unit)) z
      | none => none)
    | none => none) else none

/-- A loop, over the leaves of its states. -/
def loopA (S : Shape) (ks : List Nat) (body : AState → (AExit → AState → Prop) → Prop) (s0 : AState) (k : AExit → AState → Prop) : Prop :=
  match S.dec s0 with
  | some x => Loop (fun K x => body (S.enc x) (fun e st' => match e with
    | .normal => (match S.dec (canon ks st') with
      | some y => K y
      | none => False)
    | e => k e st')) x
  | none => False

def argT : List AVal → Nat → List (Nat × AVal)
  | [], _ => []
  | v :: vs, i => (i, v) :: argT vs (i + 1)

/-! ### values without a call for a round -/

mutual
def AVal.noY : AVal → Bool
  | .yieldv => false
  | .iptr cs => noYL cs
  | .agg cs => noYL cs
  | .tup cs => noYL cs
  | .fn _ a b => noYL a && noYL b
  | _ => true
def noYL : List AVal → Bool
  | [] => true
  | v :: vs => v.noY && noYL vs
end
def Cont.noY : Cont → Bool
  | .box cs => noYL cs
  | .sl _ _ => true
def noYC : List Cont → Bool
  | [] => true
  | c :: cs => c.noY && noYC cs
def noYM : Mem → Bool
  | [] => true
  | u :: us => u.2.1.noY && noYM us

/-! ### regions that draw their order and only read: their text serves every order -/

def hasLook : List Oper → Bool
  | [] => false
  | o :: os => (match o.op with
    | .lookup .. => true
    | _ => false) || hasLook os

def stillOp : Op → Bool
  | .move _ => true
  | .assign _ => true
  | .load _ _ => true
  | .fieldAddr _ _ _ => true
  | .extract _ _ => true
  | _ => false

def ptrVal : AVal → Bool
  | .ptr _ _ => true
  | .iptr _ => true
  | .aptr _ => true
  | _ => false

def awpStill (Γ : Env) (P : Program) : List Oper → AState → (AState → Prop) → Prop
  | [], st, k => k st
  | o :: rest, st, k => if okDst st.n o.dst && o.guard.isNone then (match o.op with
    | .lookup t x i ck => lookA P t (evA st.tmps x) (evA st.tmps i) ck (fun v => awpStill Γ P rest { st with tmps := putA o.dst v st.tmps } k)
    | .nilCheck x => if ptrVal (evA st.tmps x) then awpStill Γ P rest { st with tmps := putA o.dst (evA st.tmps x) st.tmps } k else False
    | op => if stillOp op then awpQ Γ P o (evA st.tmps) st.nx (mget st.M) (fun q => if q.new.isEmpty && q.use.isEmpty then awpStill Γ P rest { st with tmps := putA o.dst q.val st.tmps } k else False) else False) else False

/-- Where code runs: in a function; in an iterator; in a round. -/
inductive Where where
  | top
  | it (h : Hand)
  | rd
def Where.hand : Where → Option Hand
  | .it h => some h
  | _ => none
def Where.flat : Where → Bool
  | .rd => false
  | _ => true

/-! ### ranges over a function -/

def setArgs : List Nat → List AVal → List (Nat × AVal) → List (Nat × AVal)
  | p :: ps, v :: vs, tm => setArgs ps vs ((p, v) :: tm)
  | _, _, tm => tm

def AExit.isNormal : AExit → Bool
  | .normal => true
  | _ => false
def AExit.left : AExit → Option AExit
  | .normal => none
  | e => some e

def allLt (n : Nat) : List Nat → Bool
  | [] => true
  | a :: l => decide (a < n) && allLt n l

/-- One round: the loop's variables are set; the body runs in the frame as it was where the loop began. -/
def handA (n0 : Nat) (nums ps : List Nat) (assign body : AState → (AExit → AState → Prop) → Prop) : Hand := fun args sti kk =>
  if sti.pend = none ∧ args.length = ps.length ∧ allLt n0 ps = true ∧ noYL args = true ∧ noYM sti.M = true then
    assign { n := n0, tmps := setArgs ps args (zipT nums (sti.gh.take nums.length)), nx := sti.nx, M := sti.M, gh := (dedup (sti.tmps.map (·.1))).map (aget sti.tmps) ++ sti.gh, pend := none }
      (fun e s1 => match e with
        | .normal => body s1 (fun e s2 => if noYM s2.M = true then kk e.isNormal { n := sti.n, tmps := zipT (dedup (sti.tmps.map (·.1))) (s2.gh.take (dedup (sti.tmps.map (·.1))).length), nx := s2.nx, M := s2.M, gh := s2.gh.drop (dedup (sti.tmps.map (·.1))).length, pend := e.left } else False)
        | _ => False)
  else False

/-- How iterators are run: with a handler of rounds, which function, on which arguments, from which state. -/
abbrev Iter := Hand → FuncId → List AVal → AState → (AState → Prop) → Prop

def rangeA (IT : Iter) (g : Operand) (ps : List Nat) (assign body : AState → (AExit → AState → Prop) → Prop) (s0 : AState) (k : AExit → AState → Prop) : Prop :=
  match evA s0.tmps g with
  | .fn (.func gf) [] cap => if noYL cap = true ∧ noYM s0.M = true then
      IT (handA s0.n (s0.tmps.map (·.1)) ps assign body) gf (.yieldv :: cap) s0 (fun s1 =>
        if noYM s1.M = true then
          k (s1.pend.getD .normal) { n := s0.n, tmps := zipT (s0.tmps.map (·.1)) (s1.gh.take (s0.tmps.map (·.1)).length), nx := s1.nx, M := s1.M, gh := s1.gh.drop (s0.tmps.map (·.1)).length, pend := s0.pend }
        else False) else False
  | _ => False

def awp (Γ : Env) (P : Program) (keep : Nat → List Nat) (IT : Iter) : Code → Where → AState → (AExit → AState → Prop) → Prop
  | .skip, _, st, k => k .normal st
  | .region _ ops draw, Y, st, k => if dstsOk st.n ops.toList then if draw && (Y.flat && hasLook ops.toList) then (if Region.lexB .any ops then awpStill Γ P ops.toList st (fun st' => k .normal st') else False) else awpOps Γ (if draw then none else Y.hand) P ops ops.toList st [] (fun st' tr => if draw then (if drawOk ops tr.reverse then k .normal st' else False) else k .normal st') else False
  | .seq a b, Y, st, k => awp Γ P keep IT a Y st (fun e st' => match e with
    | .normal => awp Γ P keep IT b Y st' k
    | e => k e st')
  | .cond c a b, Y, st, k => match evA st.tmps c with
    | .bool x => br x (awp Γ P keep IT a Y st k) (awp Γ P keep IT b Y st k)
    | _ => False
  | .block id c, Y, st, k => awp Γ P keep IT c Y st (fun e st' => match e with
    | .exit i => if i = id then k .normal st' else k (.exit i) st'
    | e => k e st')
  | .loop c, Y, st, k => loopA (shapeOf (canon (keep (loopKey c)) st)) (keep (loopKey c)) (fun s k' => awp Γ P keep IT c Y s k') (canon (keep (loopKey c)) st) k
  | .exit id, _, st, k => k (.exit id) st
  | .ret, _, st, k => k .ret st
  | .scope c, Y, st, k => awp Γ P keep IT c Y st k
  | .label _, _, st, k => k .normal st
  | .rangeFunc g ps assign body, _, st, k => rangeA IT g ps.toList (fun s k' => awp Γ P keep IT assign .rd s k') (fun s k' => awp Γ P keep IT body .rd s k') (canon (keep (1000 + loopKey body)) st) k
  | _, _, _, _ => False

/-- No iterators. -/
def iter0 : Iter := fun _ _ _ _ _ => False

/-- Iterators that hold no range over a function themselves. -/
def iterA (Γ : Env) (P : Program) (kt : FuncId → Nat → List Nat) (IT : Iter) : Iter := fun h gf args s0 k =>
  match P.funcs[gf]? with
  | some fi => (match fi.body with
    | some c => if Code.textsOk c = true ∧ fi.results.size = 0 ∧ (fi.name == "runtime.NumGoroutine") = false then awp Γ P (kt gf) IT c (.it h) { n := max args.length fi.ntmps, tmps := argT args 0, nx := s0.nx, M := s0.M, gh := (s0.tmps.map (·.1)).map (aget s0.tmps) ++ s0.gh, pend := none }
        (fun e s => match e with
          | .normal => k s
          | .ret => k s
          | .exit _ => False) else False
    | none => False)
  | none => False

/-! ### functions -/

/-- A result: by its view; or, where slices are to be handed back as the caller's own, those of one's own as such. -/
def outOne (imm : Bool) (m : Mm) (v : AVal) (n : Nat) : Option (AVal × List Cont × List (Nat × Flag)) :=
  match imm, v with
  | false, .reg r _ => (match m r with
    | some (.sl t l, .own) => some (.reg n false, [.sl t l], [(r, .dead)])
    | _ => none)
  | false, .nils t => some (.reg n false, [.sl t []], [])
  | _, v => (match view m 6 v with
    | some (v', rs) => some (v'.ren [], [], frzAll rs)
    | none => none)

def outAll (imm : Bool) : Mm → List AVal → Nat → Option (List AVal × List Cont)
  | _, [], _ => some ([], [])
  | m, v :: vs, n => match outOne imm m v n with
    | some (v', c, u) => match outAll imm (flagsM m u) vs (n + c.length) with
      | some (vs', cs) => some (v' :: vs', c ++ cs)
      | none => none
    | none => none

def resA (P : Program) (m : Mm) (tm : List (Nat × AVal)) : ResultVar → Option AVal
  | .tmp t => some (aget tm t)
  | .cell a t => match aget tm a with
    | .ptr r off => match m r with
      | some (.box cells, f) => if f = .dead then none else ldA P t (cells.drop off)
      | _ => none
    | _ => none

def resAll (P : Program) (m : Mm) (tm : List (Nat × AVal)) : List ResultVar → Option (List AVal)
  | [] => some []
  | r :: rs => match resA P m tm r, resAll P m tm rs with
    | some v, some vs => some (v :: vs)
    | _, _ => none

def retA (imm : Bool) (P : Program) (fn : Func) (st : AState) (k : AVal → List Cont → Prop) : Prop :=
  match resAll P (mget st.M) st.tmps fn.results.toList with
  | some vs => match outAll imm (mget st.M) (typedL P fn.resultTypes.toList vs) 0 with
    | some ([v], cs) => if v.noY && noYC cs then k v cs else False
    | some (vs, cs) => if noYL vs && noYC cs then k (.tup vs) cs else False
    | none => False
  | none => False

def argM : List Cont → Nat → Mem
  | [], _ => []
  | c :: cs, i => (i, (c, .own)) :: argM cs (i + 1)

/-- A function's body, from its arguments on. -/
def awpF (Γ : Env) (P : Program) (kt : FuncId → Nat → List Nat) (f : FuncId) (imm : Bool) (fn : Func) (as : List AVal) (cs : List Cont) (k : AVal → List Cont → Prop) : Prop :=
  match fn.body with
  | some c => if noYL as && noYC cs then awp Γ P (kt f) (iterA Γ P kt iter0) c .top { n := max as.length fn.ntmps, tmps := argT as 0, nx := cs.length, M := argM cs 0, gh := [], pend := none } (fun e st => match e with
    | .normal => retA imm P fn st k
    | .ret => retA imm P fn st k
    | .exit _ => False) else False
  | none => False

attribute [irreducible] awpF
end Go.Abs
end

section
/- Contracts, by shapes of arguments. -/
namespace Go.Abs
/-- What a function does at arguments of one shape. -/
structure Var where
  S : VS
  pre : S.den Unit → Prop
  res : S.den Unit → RTree

def Var.p (v : Var) (x : v.S.den Unit) : Prop := v.pre x

def preVars : List Var → List AVal → Prop
  | [], _ => False
  | v :: vs, as => match v.S.dec as Unit () with
    | some x => v.p x
    | none => preVars vs as
def resVars : List Var → List AVal → RTree
  | [], _ => .leaf .unk []
  | v :: vs, as => match v.S.dec as Unit () with
    | some x => v.res x
    | none => resVars vs as

def mkC (vs : List Var) : Contract where
  pre := fun as cs => match cs with
    | [] => preVars vs (renL [] as)
    | _ => False
  res := fun as _ => resVars vs (renL [] as)

def envOf : List (FuncId × Contract) → Env
  | [], _ => none
  | (g, c) :: l, f => if g = f then some c else envOf l f

/-- The same, of arguments below a measure alone. -/
def Var.below (v : Var) (μ : v.S.den Unit → Nat) (n : Nat) : Var := ⟨v.S, fun x => v.pre x ∧ μ x < n, v.res⟩

end Go.Abs
end

section
/- Which temporaries loops keep (found by a program). -/
namespace Go.Abs.King
def lk {α : Type} (d : α) : List (Nat × α) → Nat → α
  | [], _ => d
  | (i, x) :: r, k => if i = k then x else lk d r k
def keeps : List (Nat × List (Nat × List Nat)) := [
  (7, [(13, [1, 5, 9, 12, 14, 15]), (17, [1, 5, 9, 12, 14, 16])]),
  (9, [(8, [3, 7, 8, 9])]),
  (10, [(12, [4, 9, 10, 11, 13, 15, 16, 17, 18]), (20, [4, 9, 10, 11, 13, 15, 16, 17, 18, 19, 21, 23]), (24, [4, 9, 10, 11, 13, 15, 16, 17, 18, 19, 21, 23, 24, 25])]),
  (11, [(5, [1, 2, 3, 7, 8]), (11, [2, 3, 7, 9, 10, 11])]),
  (12, [(5, [1, 2, 3, 4, 9, 10]), (10, [1, 2, 3, 4, 9, 10, 11, 12, 13])]),
  (13, [(17, [8, 21, 22, 23, 24])]),
  (15, [(5, [1, 3, 4])]),
  (18, [(6, [1, 2, 7, 9, 23, 24, 25])]),
  (23, [(4, [1, 3]), (9, [1, 4]), (12, [1, 4, 5])]),
  (24, [(4, [0, 1, 5])]),
  (25, [(5, [4, 18, 19])]),
  (26, [(6, [1, 4, 5, 6]), (17, [4, 11]), (20, [4, 11, 12])]),
  (27, [(6, [1, 4, 6, 20, 21]), (9, [1, 4, 6, 7, 20, 21, 26, 27]), (12, [1, 4, 6, 7, 8, 20, 21, 26, 27, 30, 31])]),
  (28, [(5, [1, 4, 5]), (10, [1, 4, 5, 6, 7, 8]), (13, [1, 4, 5, 6, 7, 8, 9])]),
  (29, [(4, [0, 1, 5])]),
  (33, [(9, [2, 6, 7, 8])]),
  (34, [(5, [0, 3, 4])]),
  (35, [(11, [1, 46, 47, 48]), (14, [1, 8, 9, 10, 46, 47, 48]), (22, [11, 12, 79, 80, 81]), (26, [11, 12, 13, 79, 80, 81, 93, 94, 95])]),
  (36, [(10, [1, 2, 6])]),
  (39, [(3, [1, 3, 4]), (8, [1, 3, 4, 5])]),
  (41, [(3, [0, 1, 5, 6])]),
  (42, [(7, [1, 5, 7])]),
  (43, [(2, [0, 1, 5])]),
  (44, [(2, [1, 2, 3, 4, 9])]),
  (45, [(3, [1, 3, 4])]),
  (46, [(3, [1, 2, 3, 7, 8])]),
  (52, [(3, [1, 4, 5, 6])]),
  (57, [(3, [0, 3, 7, 17, 18]), (6, [0, 3, 7, 8, 9, 17, 18])]),
  (58, [(2, [1, 2, 7]), (5, [1, 2, 7, 8])]),
  (59, [(10, [5, 7, 9, 36, 37, 38])]),
  (60, [(3, [1, 3, 5])]),
  (61, [(6, [1, 5])]),
  (62, [(3, [1, 2, 5, 6]), (7, [1, 2, 5, 6, 7, 8])]),
  (66, [(11, [0, 1, 2, 11, 12])]),
  (67, [(2, [0, 1, 5])]),
  (68, [(3, [0, 1, 2, 7, 13, 14])]),
  (69, [(8, [0, 3, 7, 32, 33])]),
  (70, [(3, [0, 3, 5, 15, 16])]),
  (71, [(3, [1, 2, 3, 4, 9, 10])]),
  (72, [(10, [1, 2, 6, 31, 32, 33]), (13, [1, 2, 6, 7, 31, 32, 33, 39, 40, 41]), (22, [72, 73, 74])]),
  (73, [(4, [1, 2, 5]), (9, [1, 2, 6]), (15, [1, 2, 7, 8]), (18, [1, 2, 7, 8, 9]), (26, [1, 7, 11])]),
  (74, [(3, [1, 2, 3, 7, 8])]),
  (75, [(3, [0, 1, 5, 6])]),
  (77, [(1008, [3, 4, 7, 8, 10, 34, 36])]),
  (84, [(3, [0, 2, 3, 8, 9, 13, 14, 15])]),
  (85, [(2, [0, 1, 7, 8])]),
  (87, [(1006, [3, 6, 7, 9, 19, 21])]),
  (88, [(3, [1, 5, 12, 13, 14])]),
  (90, [(3, [1, 2, 3, 4, 9, 10])]),
  (95, [(2, [0, 1, 7, 8])]),
  (96, [(2, [0, 1, 7, 8])]),
  (99, [(4, [0, 2, 4, 7, 13, 14, 15])]),
  (100, [(2, [0, 1, 7, 8])]),
  (101, [(1, [0, 1, 2, 3, 6])])]
def kt (f k : Nat) : List Nat := lk [] (lk [] keeps f) k
end Go.Abs.King
end

section
/- What the king's functions compute: plain definitions. -/
namespace Go.Abs.King
/-- Longer than any list that can come in. -/
abbrev big60 : Nat := 1152921504606846976
def great (pots : List (List Int)) : Bool := decide (14 < pots.length) || pots.any (fun p => decide (12 < p.length))
def wide (t : List (Int × List Int)) : Bool := decide (14 < t.length) || t.any (fun p => decide (12 < p.2.length))
def eqL (a b : List Int) : Bool := decide (a = b)
def eqLL (a b : List (List Int)) : Bool := decide (a = b)
def longL (a : List Int) : Bool := decide (20 < a.length)
def checkShelf (m : Int) (pots : List (List Int)) : Int :=
  if m < 1 ∨ 6 < m ∨ pots.length < 1 ∨ 8 < pots.length then 6
  else if pots.any (fun p => decide ((p.length : Int) ≠ m)) then 15
  else if pots.any (fun p => p.any (fun x => decide (x < 0 ∨ 4 < x))) then 3 else 0
def rises : Int → List Int → Int → Bool
  | _, [], _ => true
  | a, x :: l, b => decide (a ≤ x ∧ x < b) && rises (x + 1) l b
def isList (l : List Int) (b : Int) : Bool := rises 0 l b
def within (lo hi : Int) (l : List Int) : Bool := l.all (fun n => decide (lo ≤ n ∧ n ≤ hi))
/-- The first index at which something is so; -1: none. -/
def indexOf {α : Type} (p : α → Bool) : List α → Int
  | [] => -1
  | x :: l => if p x then 0 else (if indexOf p l < 0 then -1 else indexOf p l + 1)
def outOf (lo hi y : Int) : Bool := decide (y < lo ∨ hi < y)
def isI (x y : Int) : Bool := decide (x = y)
def hasI (l : List Int) (x : Int) : Bool := l.any (isI x)
def anyOut (lo hi : Int) (l : List Int) : Bool := l.any (outOf lo hi)
def anyHas (l : List Int) (marks : List Int) : Bool := l.any (hasI marks)
def indexOut (lo hi : Int) (l : List Int) : Int := indexOf (outOf lo hi) l
def indexHas (l marks : List Int) : Int := indexOf (hasI marks) l
def indexI (x : Int) (l : List Int) : Int := indexOf (isI x) l
/-- What mark j of pot i looks like. -/
def mk (pots : List (List Int)) (i j : Nat) : Int := (pots.getD i []).getD j 0
def mkI (pots : List (List Int)) (i j : Int) : Int := mk pots i.toNat j.toNat
def tells (pots : List (List Int)) (marks : List Int) (one two : Int) : Bool := marks.any (fun j => decide (mkI pots one j ≠ mkI pots two j))
/-- All pairs, the first ones first. -/
def pairs (n : Nat) : List (Nat × Nat) := (List.range n).flatMap (fun i => (List.range' (i + 1) (n - (i + 1))).map (fun k => (i, k)))
def hardP (pots : List (List Int)) (marks : List Int) : Option (Nat × Nat) := (pairs pots.length).find? (fun u => !tells pots marks u.1 u.2)
def hardOf (pots : List (List Int)) (marks : List Int) : Int × Int × Bool := match hardP pots marks with
  | some u => (u.1, u.2, true)
  | none => (0, 0, false)
def hardI (pots : List (List Int)) (marks : List Int) : Int := (hardOf pots marks).1
def hardK (pots : List (List Int)) (marks : List Int) : Int := (hardOf pots marks).2.1
def hardB (pots : List (List Int)) (marks : List Int) : Bool := (hardOf pots marks).2.2
/-- What Hard returns. -/
def hardN (m : Int) (pots : List (List Int)) (marks : List Int) : Int :=
  if checkShelf m pots ≠ 0 then checkShelf m pots else if !isList marks m then 2 else if hardB pots marks then 0 else 5
def hardX (m : Int) (pots : List (List Int)) (marks : List Int) : Int := if hardN m pots marks = 0 then hardI pots marks else 0
def hardY (m : Int) (pots : List (List Int)) (marks : List Int) : Int := if hardN m pots marks = 0 then hardK pots marks else 0
/-- Sets by bits. -/
def listed (bits : Nat) (n : Nat) : List Int := ((List.range n).filter (fun i => bits.testBit i)).map Int.ofNat
def bitsOf (n : Nat) (p : Nat → Bool) : Nat := (List.range n).foldl (fun b i => if p i then b ||| 2 ^ i else b) 0
def agree (pots : List (List Int)) (m : Nat) (seen : List Int) : Nat := bitsOf pots.length (fun i => (List.range m).all (fun k => decide (seen.getD k 0 < 0 ∨ seen.getD k 0 = mk pots i k)))
def partOf (pots : List (List Int)) (bits : Nat) (mark : Nat) (v : Int) : Nat := bitsOf pots.length (fun i => bits.testBit i && decide (mk pots i mark = v))
def seenErr (m : Int) (pots : List (List Int)) (seen : List Int) : Int :=
  if checkShelf m pots ≠ 0 then checkShelf m pots
  else if (seen.length : Int) ≠ m then 15
  else if !within (-1) 4 seen then 3 else 0
def apart (pots : List (List Int)) (m : Nat) (i k : Nat) : List Int := ((List.range m).filter (fun j => decide (mk pots i j ≠ mk pots k j))).map Int.ofNat
def seenOf (pots : List (List Int)) (m pot bits : Nat) : List Int := (List.range m).map (fun i => if bits.testBit i then mk pots pot i else -1)
/-! looks -/
def cnt (b n : Nat) : Nat := (listed b n).length
def parts5 (pots : List (List Int)) (b j : Nat) : List Nat := [0, 1, 2, 3, 4].map (fun v => partOf pots b j v)
def worstOf (g : Nat → Int) (pots : List (List Int)) (b j : Nat) : Int :=
  if (parts5 pots b j).any (fun p => decide (p = b ∨ g p < 0)) then -1 else (parts5 pots b j).foldl (fun n p => max n (g p)) 0
def bestStep (g : Nat → Int) (pots : List (List Int)) (b : Nat) (out : Int) (j : Nat) : Int :=
  if worstOf g pots b j ≥ 0 ∧ (out < 0 ∨ worstOf g pots b j + 1 < out) then worstOf g pots b j + 1 else out
def bestOf (g : Nat → Int) (pots : List (List Int)) (m b : Nat) : Int := (List.range m).foldl (bestStep g pots b) (-1)
def looksF (pots : List (List Int)) (m : Nat) : Nat → Nat → Int
  | 0, _ => 0
  | f + 1, b => if cnt b pots.length < 2 then 0 else bestOf (looksF pots m f) pots m b
def looks (pots : List (List Int)) (m b : Nat) : Int := looksF pots m (b + 1) b
def looksI (m : Int) (pots : List (List Int)) (b : Int) : Int := looks pots m.toNat b.toNat
def notFine (m : Int) (pots : List (List Int)) : Bool := decide (checkShelf m pots ≠ 0)
def badSeen (m : Int) (pots : List (List Int)) (seen : List Int) : Bool := decide (seenErr m pots seen ≠ 0)
def csIs (m : Int) (pots : List (List Int)) (e : Int) : Bool := decide (checkShelf m pots = e)
def seIs (m : Int) (pots : List (List Int)) (seen : List Int) (e : Int) : Bool := decide (seenErr m pots seen = e)
def lenNot (m : Int) (p : List Int) : Bool := decide ((p.length : Int) ≠ m)
def outMarks (p : List Int) : Bool := !within 0 4 p
def seenL (m : Int) (pots : List (List Int)) (seen : List Int) : List Int := if seenErr m pots seen ≠ 0 then [] else listed (agree pots m.toNat seen) pots.length
/-! lists of marks -/
def nextOf : List Int → Nat
  | [] => 0
  | [x] => (x + 1).toNat
  | _ :: l => nextOf l
def listsN (pots : List (List Int)) (m : Nat) : Nat → List Int → List (List Int)
  | 0, begun => if hardB pots begun then [] else [begun]
  | n + 1, begun => (List.range' (nextOf begun) (m - nextOf begun)).flatMap (fun j : Nat => listsN pots m n (begun ++ [(j : Int)]))
def listsI (m : Int) (pots : List (List Int)) (begun : List Int) (many : Int) : List (List Int) := listsN pots m.toNat many.toNat begun
def fewK (m : Int) (pots : List (List Int)) : Option Nat := (List.range (m.toNat + 1)).find? (fun n => decide (0 < (listsN pots m.toNat n []).length))
def fewL (m : Int) (pots : List (List Int)) : List (List Int) := if checkShelf m pots ≠ 0 then [] else match fewK m pots with
  | some n => listsN pots m.toNat n []
  | none => []
def fewE (m : Int) (pots : List (List Int)) : Int := if checkShelf m pots ≠ 0 then checkShelf m pots else match fewK m pots with
  | some _ => 0
  | none => 27
def beforeL : List Int → List Int → Bool
  | x :: a, y :: b => if x = y then beforeL a b else decide (x < y)
  | _, _ => false
def isNeeded (pots : List (List Int)) (m j : Nat) : Bool := (List.range pots.length).any (fun i => (List.range i).any (fun k => decide (apart pots m i k = [(j : Int)])))
def neededL (m : Int) (pots : List (List Int)) : List Int := if checkShelf m pots ≠ 0 then [] else ((List.range m.toNat).filter (isNeeded pots m.toNat)).map Int.ofNat
/-! looks, once more -/
def ones (x : Int) : Int := (cnt x.toNat 8 : Int)
def proper (pots : List (List Int)) (b j : Nat) : Bool := !(parts5 pots b j).any (fun p => decide (p = b))
def betterB (x y : Int) : Bool := decide (x > 0) && (decide (y < 0) || decide (x < y))
def bestL : List Int → Int
  | [] => 0
  | a :: l => l.foldl (fun o x => if betterB x o then x else o) a
def worstI (m : Int) (pots : List (List Int)) (b j : Int) : Int := worstOf (looks pots m.toNat) pots b.toNat j.toNat
def firstN (pots : List (List Int)) (m b : Nat) : Nat := ((List.range m).find? (fun j => decide (0 ≤ worstOf (looks pots m) pots b j ∧ worstOf (looks pots m) pots b j < looks pots m b))).getD 0
def firstI (m : Int) (pots : List (List Int)) (b : Int) : Int := (firstN pots m.toNat b.toNat : Int)
def looksE (m : Int) (pots : List (List Int)) (seen : List Int) : Int := if seenErr m pots seen ≠ 0 then 0 else looks pots m.toNat (agree pots m.toNat seen)
def nextE (m : Int) (pots : List (List Int)) (seen : List Int) : Int := if seenErr m pots seen ≠ 0 then seenErr m pots seen else if looks pots m.toNat (agree pots m.toNat seen) = 0 then 5 else if looks pots m.toNat (agree pots m.toNat seen) < 0 then 27 else 0
def nextN (m : Int) (pots : List (List Int)) (seen : List Int) : Int := if nextE m pots seen ≠ 0 then 0 else (firstN pots m.toNat (agree pots m.toNat seen) : Int)
end Go.Abs.King
end

section
/- The contracts of the king's functions. -/
namespace Go.Abs.King
abbrev sI : VS := .int .i64
abbrev sU : VS := .int .u64
abbrev sU8 : VS := .int .u8
abbrev sL : VS := .imm (.int .i64) false
abbrev sLL : VS := .imm (.slice (.int .i64)) false
abbrev sSh : VS := .agg (.cs sI (.cs sLL .nl))
abbrev sB : VS := .iptr (.cs sI (.cs sLL (.cs .sem .nl)))
abbrev sSet : VS := .agg (.cs sI .nl)
abbrev sT : VS := .imm (.pair (.int .i64) (.slice (.int .i64))) false
abbrev rI (n : Int) : AVal := .int .i64 n
abbrev one (v : AVal) : RTree := .leaf v []
abbrev own (l : List Int) : RTree := .leaf (.reg 0 false) [.sl (.int .i64) l]
abbrev r3 (a b : Int) (c : Bool) : RTree := one (.tup [rI a, rI b, .bool c])
abbrev r3i (a b c : Int) : RTree := one (.tup [rI a, rI b, rI c])
/-- A shelf that is right. -/
abbrev Fine (m : Int) (pots : List (List Int)) : Prop := checkShelf m pots = 0
abbrev inPots (pots : List (List Int)) (i : Int) : Prop := 0 ≤ i ∧ i < (pots.length : Int)
abbrev inMarks (m : Int) (l : List Int) : Prop := ∀ j ∈ l, 0 ≤ j ∧ j < m

def v15 : Var := ⟨.cs sSh .nl, fun _ => True, fun x => one (.bool (great x.2.1))⟩
def v16 : Var := ⟨.cs sL .nl, fun _ => True, fun x => one (.bool (longL x.1))⟩
def v34 : Var := ⟨.cs sT .nl, fun _ => True, fun x => one (.bool (wide x.1))⟩
def v23 : Var := ⟨.cs sSh .nl, fun x => x.2.1.length ≤ 14, fun x => one (rI (checkShelf x.1 x.2.1))⟩
def v22 : Var := ⟨.cs sSh .nl, fun x => x.2.1.length ≤ 14 ∧ ∀ p ∈ x.2.1, p.length ≤ 12, fun x => one (rI (checkShelf x.1 x.2.1))⟩
def v24 : Var := ⟨.cs sL (.cs sL .nl), fun x => x.1.length ≤ big60 ∧ x.2.1.length ≤ big60, fun x => one (.bool (eqL x.1 x.2.1))⟩
def v29 : Var := ⟨.cs sLL (.cs sLL .nl), fun x => (x.1.length ≤ big60 ∧ x.2.1.length ≤ big60) ∧ (∀ p ∈ x.1, p.length ≤ big60) ∧ ∀ p ∈ x.2.1, p.length ≤ big60, fun x => one (.bool (eqLL x.1 x.2.1))⟩
def v43 : Var := ⟨.cs sL (.cs sI .nl), fun x => x.1.length ≤ big60, fun x => one (.bool (isList x.1 x.2.1))⟩
def v44 : Var := ⟨.cs sSh (.cs sL (.cs sI (.cs sI .nl))), fun x => Fine x.1 x.2.1 ∧ x.2.2.1.length ≤ big60 ∧ inMarks x.1 x.2.2.1 ∧ inPots x.2.1 x.2.2.2.1 ∧ inPots x.2.1 x.2.2.2.2.1, fun x => one (.bool (tells x.2.1 x.2.2.1 x.2.2.2.1 x.2.2.2.2.1))⟩
def v58 : Var := ⟨.cs sSh (.cs sL .nl), fun x => Fine x.1 x.2.1 ∧ x.2.2.1.length ≤ big60 ∧ inMarks x.1 x.2.2.1, fun x => r3 (hardI x.2.1 x.2.2.1) (hardK x.2.1 x.2.2.1) (hardB x.2.1 x.2.2.1)⟩
def v19 : Var := ⟨.cs sSh (.cs sL .nl), fun x => x.2.1.length ≤ 14 ∧ x.2.2.1.length ≤ big60, fun x => r3i (hardX x.1 x.2.1 x.2.2.1) (hardY x.1 x.2.1 x.2.2.1) (hardN x.1 x.2.1 x.2.2.1)⟩
abbrev isBits (n : Int) : Prop := 0 ≤ n ∧ n < 4611686018427387904
def v41 : Var := ⟨.cs sI (.cs sI .nl), fun x => isBits x.1 ∧ 0 ≤ x.2.1 ∧ x.2.1 ≤ 40, fun x => own (listed x.1.toNat x.2.1.toNat)⟩
def v49 : Var := ⟨.cs sI .nl, fun x => 0 ≤ x.1 ∧ x.1 ≤ 40, fun x => own (listed (2 ^ x.1.toNat - 1) x.1.toNat)⟩
def v61 : Var := ⟨.cs sSh (.cs sL .nl), fun x => x.2.1.length ≤ 14 ∧ x.2.2.1.length ≤ big60, fun x => one (rI (seenErr x.1 x.2.1 x.2.2.1))⟩
def v62 : Var := ⟨.cs sSh (.cs sL .nl), fun x => seenErr x.1 x.2.1 x.2.2.1 = 0, fun x => one (rI (agree x.2.1 x.1.toNat x.2.2.1))⟩
def v90 : Var := ⟨.cs sSh (.cs sI (.cs sI (.cs sI .nl))), fun x => Fine x.1 x.2.1 ∧ isBits x.2.2.1 ∧ (0 ≤ x.2.2.2.1 ∧ x.2.2.2.1 < x.1), fun x => one (rI (partOf x.2.1 x.2.2.1.toNat x.2.2.2.1.toNat x.2.2.2.2.1))⟩
def v45 : Var := ⟨.cs sSh .nl, fun x => x.1 ≤ 100, fun x => own (List.replicate x.1.toNat (-1))⟩
def v46 : Var := ⟨.cs sSh (.cs sI (.cs sU8 .nl)), fun x => Fine x.1 x.2.1 ∧ inPots x.2.1 x.2.2.1 ∧ 0 ≤ x.2.2.2.1 ∧ x.2.2.2.1 ≤ 255, fun x => own (seenOf x.2.1 x.1.toNat x.2.2.1.toNat x.2.2.2.1.toNat)⟩
def v96 : Var := ⟨.cs sL (.cs sI .nl), fun x => x.1.length ≤ big60, fun x => one (rI (indexI x.2.1 x.1))⟩
def v83 : Var := ⟨.cs sL (.cs sI .nl), fun x => x.1.length ≤ big60, fun x => one (.bool (hasI x.1 x.2.1))⟩
def v47 : Var := ⟨.cs sL .nl, fun _ => True, fun x => one (.imm (.int .i64) x.1 false)⟩
/- the test of within, of the wanted marks; and what looks for one -/
def v81 : Var := ⟨.cs sI (.cs (.iptr (.cs sI .nl)) (.cs (.iptr (.cs sI .nl)) .nl)), fun _ => True, fun x => one (.bool (outOf x.2.1 x.2.2.1 x.1))⟩
def v82 : Var := ⟨.cs sI (.cs (.iptr (.cs sL .nl)) .nl), fun x => x.2.1.length ≤ big60, fun x => one (.bool (hasI x.2.1 x.1))⟩
def v95a : Var := ⟨.cs sL (.cs (.fn 81 .nl (.cs (.iptr (.cs sI .nl)) (.cs (.iptr (.cs sI .nl)) .nl))) .nl), fun x => x.1.length ≤ big60, fun x => one (rI (indexOut x.2.1 x.2.2.1 x.1))⟩
def v95b : Var := ⟨.cs sL (.cs (.fn 82 .nl (.cs (.iptr (.cs sL .nl)) .nl)) .nl), fun x => x.1.length ≤ big60 ∧ x.2.1.length ≤ big60, fun x => one (rI (indexHas x.1 x.2.1))⟩
def v80a : Var := ⟨v95a.S, v95a.pre, fun x => one (.bool (anyOut x.2.1 x.2.2.1 x.1))⟩
def v80b : Var := ⟨v95b.S, v95b.pre, fun x => one (.bool (anyHas x.1 x.2.1))⟩
def v56 : Var := ⟨.cs sI (.cs sI (.cs sL .nl)), fun x => x.2.2.1.length ≤ big60, fun x => one (.bool (within x.1 x.2.1 x.2.2.1))⟩
/- benches -/
abbrev inBits (pots : List (List Int)) (n : Int) : Prop := 0 ≤ n ∧ n < ((2 ^ pots.length : Nat) : Int)
abbrev bench (m : Int) (pots : List (List Int)) : AVal := .iptr [rI m, .imm (.slice (.int .i64)) pots false, .sem (memoP (looksI m pots))]
abbrev own2 (l : List Int) (e : Int) : RTree := .leaf (.tup [.reg 0 false, rI e]) [.sl (.int .i64) l]
abbrev aS (n : Int) : AVal := .agg [rI n]
def v60 : Var := ⟨.cs sSet .nl, fun x => isBits x.1, fun x => own (listed x.1.toNat 8)⟩
def v84 : Var := ⟨.cs sB (.cs sSet (.cs sI (.cs sI .nl))), fun x => Fine x.1 x.2.1 ∧ inBits x.2.1 x.2.2.2.1 ∧ (0 ≤ x.2.2.2.2.1 ∧ x.2.2.2.2.1 < x.1), fun x => one (aS (partOf x.2.1 x.2.2.2.1.toNat x.2.2.2.2.1.toNat x.2.2.2.2.2.1))⟩
def v76 : Var := ⟨.cs sB .nl, fun x => Fine x.1 x.2.1, fun x => one (aS (((2 ^ x.2.1.length - 1 : Nat) : Int)))⟩
def v68 : Var := ⟨.cs sB (.cs sI (.cs sI .nl)), fun x => Fine x.1 x.2.1 ∧ inPots x.2.1 x.2.2.2.1 ∧ inPots x.2.1 x.2.2.2.2.1, fun x => own (apart x.2.1 x.1.toNat x.2.2.2.1.toNat x.2.2.2.2.1.toNat)⟩
def v57 : Var := ⟨.cs sB (.cs sL .nl), fun x => Fine x.1 x.2.1 ∧ x.2.2.2.1.length ≤ big60 ∧ inMarks x.1 x.2.2.2.1, fun x => r3 (hardI x.2.1 x.2.2.2.1) (hardK x.2.1 x.2.2.2.1) (hardB x.2.1 x.2.2.2.1)⟩
def v79 : Var := ⟨.cs sSh .nl, fun _ => True, fun x => one (bench x.1 x.2.1)⟩
def v64 : Var := ⟨.cs (.agg (.cs sL .nl)) (.cs (.iptr (.cs sI (.cs sLL .nl))) .nl), fun x => x.1.length ≤ big60, fun x => one (.bool (lenNot x.2.1 x.1))⟩
def v65 : Var := ⟨.cs (.agg (.cs sL .nl)) .nl, fun x => x.1.length ≤ big60, fun x => one (.bool (outMarks x.1))⟩
abbrev shortP (pots : List (List Int)) : Prop := pots.length ≤ big60 ∧ ∀ p ∈ pots, p.length ≤ big60
def indexLen (m : Int) (l : List (List Int)) : Int := indexOf (lenNot m) l
def indexMarks (l : List (List Int)) : Int := indexOf outMarks l
def anyLen (m : Int) (l : List (List Int)) : Bool := l.any (lenNot m)
def anyMarks (l : List (List Int)) : Bool := l.any outMarks
def v85a : Var := ⟨.cs sLL (.cs (.fn 64 .nl (.cs (.iptr (.cs sI (.cs sLL .nl))) .nl)) .nl), fun x => shortP x.1, fun x => one (rI (indexLen x.2.1 x.1))⟩
def v85b : Var := ⟨.cs sLL (.cs (.fn 65 .nl .nl) .nl), fun x => shortP x.1, fun x => one (rI (indexMarks x.1))⟩
def v63a : Var := ⟨v85a.S, v85a.pre, fun x => one (.bool (anyLen x.2.1 x.1))⟩
def v63b : Var := ⟨v85b.S, v85b.pre, fun x => one (.bool (anyMarks x.1))⟩
/-- An error of a shelf, by its number. -/
abbrev errs (m : Int) (pots : List (List Int)) (f : Int → RTree) (ok : RTree) : RTree := .br (csIs m pots 6) (f 6) (.br (csIs m pots 15) (f 15) (.br (csIs m pots 3) (f 3) ok))
abbrev errsS (m : Int) (pots : List (List Int)) (seen : List Int) (f : Int → RTree) (ok : RTree) : RTree := .br (seIs m pots seen 6) (f 6) (.br (seIs m pots seen 15) (f 15) (.br (seIs m pots seen 3) (f 3) ok))
def v55 : Var := ⟨.cs sSh .nl, fun x => x.2.1.length ≤ 14 ∧ ∀ p ∈ x.2.1, p.length ≤ 12, fun x => errs x.1 x.2.1 (fun e => .leaf (.tup [.unk, rI e]) []) (.leaf (.tup [bench x.1 x.2.1, rI 0]) [])⟩
def v18 : Var := ⟨.cs sSh (.cs sL .nl), fun x => (x.2.1.length ≤ 14 ∧ ∀ p ∈ x.2.1, p.length ≤ 12) ∧ x.2.2.1.length ≤ big60, fun x => r3i (hardX x.1 x.2.1 x.2.2.1) (hardY x.1 x.2.1 x.2.2.1) (hardN x.1 x.2.1 x.2.2.1)⟩
def v59 : Var := ⟨.cs sSh (.cs sL .nl), fun x => (x.2.1.length ≤ 14 ∧ ∀ p ∈ x.2.1, p.length ≤ 12) ∧ x.2.2.1.length ≤ big60, fun x => errsS x.1 x.2.1 x.2.2.1 (fun e => .leaf (.tup [.unk, aS 0, rI e]) []) (.leaf (.tup [bench x.1 x.2.1, aS (agree x.2.1 x.1.toNat x.2.2.1), rI 0]) [])⟩
def v20 : Var := ⟨.cs sSh (.cs sL .nl), fun x => (x.2.1.length ≤ 14 ∧ ∀ p ∈ x.2.1, p.length ≤ 12) ∧ x.2.2.1.length ≤ big60, fun x => own2 (seenL x.1 x.2.1 x.2.2.1) (seenErr x.1 x.2.1 x.2.2.1)⟩
def v21 : Var := ⟨.cs sSh (.cs sL .nl), fun x => x.2.1.length ≤ 14 ∧ x.2.2.1.length ≤ big60, fun x => own2 (seenL x.1 x.2.1 x.2.2.1) (seenErr x.1 x.2.1 x.2.2.1)⟩
/- lists of marks -/
abbrev ownLL (l : List (List Int)) : RTree := .leaf (.reg 0 false) [.sl (.slice (.int .i64)) l]
abbrev own2LL (l : List (List Int)) (e : Int) : RTree := .leaf (.tup [.reg 0 false, rI e]) [.sl (.slice (.int .i64)) l]
def v66 : Var := ⟨.cs sB (.cs sL (.cs sI .nl)), fun x => Fine x.1 x.2.1 ∧ isList x.2.2.2.1 x.1 = true ∧ 0 ≤ x.2.2.2.2.1 ∧ x.2.2.2.2.1 ≤ 6, fun x => ownLL (listsI x.1 x.2.1 x.2.2.2.1 x.2.2.2.2.1)⟩
def m66 (x : v66.S.den Unit) : Nat := Int.toNat x.2.2.2.2.1
def v66n (n : Nat) : Var := v66.below m66 n
def v25 : Var := ⟨.cs sSh .nl, fun x => x.2.1.length ≤ 14 ∧ ∀ p ∈ x.2.1, p.length ≤ 12, fun x => own2LL (fewL x.1 x.2.1) (fewE x.1 x.2.1)⟩
def v67 : Var := ⟨.cs sL (.cs sL .nl), fun x => x.1.length ≤ big60 ∧ x.2.1.length ≤ big60, fun x => one (.bool (beforeL x.1 x.2.1))⟩
def v27 : Var := ⟨.cs sSh .nl, fun x => x.2.1.length ≤ 14 ∧ ∀ p ∈ x.2.1, p.length ≤ 12, fun x => own2 (neededL x.1 x.2.1) (checkShelf x.1 x.2.1)⟩
def v28 : Var := ⟨.cs sSh .nl, fun x => x.2.1.length ≤ 14, fun x => own2 (neededL x.1 x.2.1) (checkShelf x.1 x.2.1)⟩
/- looks -/
abbrev Known (m : Int) (pots : List (List Int)) (q : SemP) : Prop := q = memoP (looksI m pots)
abbrev byte (n : Int) : Prop := 0 ≤ n ∧ n < 256
def v98 : Var := ⟨.cs sU .nl, fun x => byte x.1, fun x => one (rI (ones x.1))⟩
def v86 : Var := ⟨.cs sU .nl, fun x => byte x.1, fun x => one (rI (ones x.1))⟩
def v99 : Var := ⟨.cs sB (.cs sSet (.cs sI .nl)), fun x => Fine x.1 x.2.1 ∧ inBits x.2.1 x.2.2.2.1 ∧ (0 ≤ x.2.2.2.2.1 ∧ x.2.2.2.2.1 < x.1), fun x => one (.bool (proper x.2.1 x.2.2.2.1.toNat x.2.2.2.2.1.toNat))⟩
def v94 : Var := ⟨.cs sB (.cs sSet (.cs sI .nl)), fun _ => True, fun x => one (.fn (.func 101) [] [.iptr [.iptr [rI x.1, .imm (.slice (.int .i64)) x.2.1 false, .sem x.2.2.1]], .iptr [rI x.2.2.2.1], .iptr [rI x.2.2.2.2.1]])⟩
def v69 : Var := ⟨.cs sB (.cs sSet .nl), fun x => Fine x.1 x.2.1 ∧ Known x.1 x.2.1 x.2.2.1 ∧ inBits x.2.1 x.2.2.2.1, fun x => one (rI (looksI x.1 x.2.1 x.2.2.2.1))⟩
def m69 (x : v69.S.den Unit) : Nat := Int.toNat x.2.2.2.1
def v69n (n : Nat) : Var := v69.below m69 n
def v87 : Var := ⟨.cs sB (.cs sSet (.cs sI .nl)), fun x => Fine x.1 x.2.1 ∧ Known x.1 x.2.1 x.2.2.1 ∧ inBits x.2.1 x.2.2.2.1 ∧ (0 ≤ x.2.2.2.2.1 ∧ x.2.2.2.2.1 < x.1), fun x => one (rI (worstI x.1 x.2.1 x.2.2.2.1 x.2.2.2.2.1))⟩
def m87 (x : v87.S.den Unit) : Nat := Int.toNat x.2.2.2.1
def v87n (n : Nat) : Var := v87.below m87 n
def v89 : Var := ⟨.cs sI (.cs sI .nl), fun _ => True, fun x => one (.bool (betterB x.1 x.2.1))⟩
def v88 : Var := ⟨.cs sL (.cs (.fn 89 .nl .nl) .nl), fun x => x.1.length ≤ big60 ∧ 0 < x.1.length, fun x => one (rI (bestL x.1))⟩
def v70 : Var := ⟨.cs sB (.cs sSet .nl), fun x => Fine x.1 x.2.1 ∧ Known x.1 x.2.1 x.2.2.1 ∧ inBits x.2.1 x.2.2.2.1, fun x => one (rI (firstI x.1 x.2.1 x.2.2.2.1))⟩
def v30 : Var := ⟨.cs sSh (.cs sL .nl), fun x => (x.2.1.length ≤ 14 ∧ ∀ p ∈ x.2.1, p.length ≤ 12) ∧ x.2.2.1.length ≤ big60, fun x => one (.tup [rI (looksE x.1 x.2.1 x.2.2.1), rI (seenErr x.1 x.2.1 x.2.2.1)])⟩
def v32 : Var := ⟨.cs sSh (.cs sL .nl), fun x => (x.2.1.length ≤ 14 ∧ ∀ p ∈ x.2.1, p.length ≤ 12) ∧ x.2.2.1.length ≤ big60, fun x => one (.tup [rI (nextN x.1 x.2.1 x.2.2.1), rI (nextE x.1 x.2.1 x.2.2.1)])⟩
end Go.Abs.King
end

section
/- What an operation leaves behind; the immutable view of a value; freezing. -/
namespace Go.Abs

/-- The blocks of F are known as they were. -/
def Fix (F : Nat → Prop) (K K' : Know) : Prop := ∀ b, F b → K'.cells b = K.cells b ∧ K'.inv b = K.inv b
theorem Fix.refl (F : Nat → Prop) (K : Know) : Fix F K K := fun _ _ => ⟨rfl, rfl⟩
theorem Fix.trans {F : Nat → Prop} {A B C : Know} (h : Fix F A B) (k : Fix F B C) : Fix F A C :=
  fun b hb => ⟨(k b hb).1.trans (h b hb).1, (k b hb).2.trans (h b hb).2⟩

structure After (F : Nat → Prop) (K : Know) (H : Nat → Option Hd) (w : World) (m : Mm) (nx : Nat) (q : Q) (v : Value) (w' : World) (K' : Know) (H' : Nat → Option Hd) : Prop where
  le : K.le K'
  hle : HLe H H'
  hnew : ∀ r, H r = none → H' r ≠ none → nx ≤ r ∧ r < nx + q.new.length
  rep : Rep K' H' q.val v
  mem : MRel F K' H' w' (q.mm nx m)
  ok : WOk F K' w'
  kept : Kept F w w'
  fix : Fix F K K'

/-- What a run of an operation gives: a value, or a call that gives one. -/
def Gives (P : Program) (F : Nat → Prop) (K : Know) (H : Nat → Option Hd) (w : World) (m : Mm) (nx : Nat) (k : Q → Prop) : Result Next → Prop
  | .ok (.value v) w' => ∃ q K' H', k q ∧ After F K H w m nx q v w' K' H'
  | .ok (.enter f args) w' => w' = w ∧ Calls P f args w (fun e w'' => ∃ v q K' H', e = .returned v ∧ k q ∧ After F K H w m nx q v w'' K' H')
  | _ => False

theorem after_same {F : Nat → Prop} {K : Know} {H : Nat → Option Hd} {w : World} {m : Mm} {nx : Nat} (hok : WOk F K w) (hm : MRel F K H w m) {a : AVal} {v : Value} (rs : List Nat) (hr : Rep K H a v) :
    After F K H w m nx ⟨a, [], [], rs⟩ v w K H :=
  ⟨.refl K, .refl H, fun _ h h' => absurd h h', hr, hm, hok, .refl F w, .refl F K⟩

section
variable {P : Program} {F : Nat → Prop} {K : Know} {H : Nat → Option Hd} {w : World} {m : Mm} {nx : Nat} {k : Q → Prop}

theorem gives_pure (hok : WOk F K w) (hm : MRel F K H w m) {a : AVal} {v : Value} (hr : Rep K H a v) (hk : k (.pure a)) : Gives P F K H w m nx k (.ok (.value v) w) :=
  ⟨_, K, H, hk, after_same hok hm [] hr⟩
theorem gives_read (hok : WOk F K w) (hm : MRel F K H w m) {a : AVal} {v : Value} (r : Nat) (hr : Rep K H a v) (hk : k (.read a r)) : Gives P F K H w m nx k (.ok (.value v) w) :=
  ⟨_, K, H, hk, after_same hok hm [r] hr⟩

theorem WOk.alloc (h : WOk F K w) (o : Obj) : WOk F K (w.alloc o) := by
  have old : ∀ b, b < w.heap.size → (w.alloc o).heap[b]? = w.heap[b]? := fun b hb => RowKit.Below.heap_alloc w o b hb
  refine ⟨⟨?_, ?_⟩, fun b hb => ?_, h.inv, h.apart⟩
  · intro b cs hc
    obtain ⟨e, fz, g⟩ := h.knows.1 b cs hc
    exact ⟨e, fz, by rw [old b (lt_of_heap g)]; exact g⟩
  · intro b p hc
    obtain ⟨o', g, hp⟩ := h.knows.2 b p hc
    exact ⟨o', by rw [old b (lt_of_heap g)]; exact g, hp⟩
  · have := h.lt b hb
    simp; omega

theorem kept_alloc (h : WOk F K w) (o : Obj) : Kept F w (w.alloc o) :=
  ⟨rfl, rfl, rfl, by simp, fun b hb => RowKit.Below.heap_alloc w o b (h.lt b hb)⟩

theorem alloc_new (w : World) (o : Obj) : (w.alloc o).heap[w.heap.size]? = some o := by
  show (w.heap.push o)[w.heap.size]? = some o
  simp

/-- A new block, a region of one's own. -/
theorem after_alloc (hok : WOk F K w) (hm : MRel F K H w m) (hf : H nx = none) (cs : Array Value) (e : TypeId) (c : Cont) (hd : Hd) (hb : hd.base = some w.heap.size)
    (hc : ContRel K (upd H nx hd) (w.alloc (.cells cs e)) hd c) (a : AVal) (v : Value) (ha : Rep K (upd H nx hd) a v) (rs : List Nat) :
    After F K H w m nx ⟨a, [c], [], rs⟩ v (w.alloc (.cells cs e)) K (upd H nx hd) := by
  refine ⟨.refl K, hle_upd hf, ?_, ha, ?_, hok.alloc _, kept_alloc hok _, .refl F K⟩
  · intro r h1 h2
    by_cases e' : r = nx
    · subst e'; simp
    · rw [upd_ne _ _ _ _ e'] at h2; exact absurd h1 h2
  · have hw : MRel F K H (w.alloc (.cells cs e)) m := hm.world (fun r c f hd b h1 h2 h3 h4 => RowKit.Below.heap_alloc w _ b (base_lt hm h1 h2 h3 h4))
    refine hw.new nx hf c hd hc (fun b hb' => ?_)
    rw [hb] at hb'
    cases hb'
    have hn := hok.knows.new (Nat.le_refl w.heap.size)
    refine ⟨fun hF => ?_, hn.1, hn.2, ⟨cs, e, alloc_new w _⟩, fun r' c' hd' h1 h2 h3 => ?_⟩
    · have := hok.lt _ hF; omega
    · have := base_lt hm h1 (by simp) h2 h3; omega

/-! ### knowing more blocks -/

/-- The cells of these blocks are known, too. -/
def Know.plus (K : Know) (w : World) (B : Nat → Bool) : Know where
  cells := fun b => match K.cells b with
    | some cs => some cs
    | none => if B b then (match w.heap[b]? with
      | some (.cells cs _ _) => some cs
      | _ => none) else none
  inv := K.inv
  y := K.y

theorem Know.le_plus (K : Know) (w : World) (B : Nat → Bool) : K.le (K.plus w B) :=
  ⟨fun b cs h => by simp [Know.plus, h], fun _ _ h => h, fun _ h => h⟩

theorem plus_cells {K : Know} (w : World) (B : Nat → Bool) (hk : Knows K w) {b : Nat} {cs : Array Value} (h : (K.plus w B).cells b = some cs) : ∃ e fz, w.heap[b]? = some (.cells cs e fz) := by
  simp only [Know.plus] at h
  split at h
  · rename_i cs' hc
    cases h
    exact hk.1 _ _ hc
  · split at h
    · split at h
      · rename_i cs' e fz hc
        cases h
        exact ⟨e, fz, hc⟩
      · cases h
    · cases h

theorem plus_new {K : Know} {w : World} {B : Nat → Bool} {b : Nat} (hb : B b = true) (hk : Knows K w) {cs : Array Value} {e : TypeId} {fz : Nat × Nat} (h : w.heap[b]? = some (.cells cs e fz)) : (K.plus w B).cells b = some cs := by
  simp only [Know.plus]
  split
  · rename_i cs' hc
    obtain ⟨e', fz', g⟩ := hk.1 _ _ hc
    rw [h] at g
    cases g
    rfl
  · rw [if_pos hb, h]

theorem plus_none {K : Know} {w : World} {B : Nat → Bool} {b : Nat} (hb : B b = false) : (K.plus w B).cells b = K.cells b := by
  simp only [Know.plus]
  split
  · rename_i h; exact h.symm
  · rename_i h; rw [hb, h]; rfl

theorem WOk.plus (h : WOk F K w) (B : Nat → Bool) (hB : ∀ b, B b = true → K.inv b = none) : WOk F (K.plus w B) w := by
  refine ⟨⟨fun b cs hc => plus_cells w B h.knows hc, h.knows.2⟩, h.lt, h.inv, fun b p hp => ?_⟩
  have hp : K.inv b = some p := hp
  cases hb : B b with
  | true => rw [hB b hb] at hp; cases hp
  | false => rw [plus_none hb]; exact h.apart b p hp

/-- The bases of regions that were read. -/
def bases (H : Nat → Option Hd) (rs : List (Nat × Flag)) (b : Nat) : Bool :=
  rs.any (fun u => match H u.1 with
    | some hd => hd.base == some b
    | none => false)

theorem bases_mem {rs : List (Nat × Flag)} {r : Nat} {f : Flag} {hd : Hd} {b : Nat} (h : (r, f) ∈ rs) (hr : H r = some hd) (hb : hd.base = some b) : bases H rs b = true := by
  simp only [bases, List.any_eq_true]
  exact ⟨(r, f), h, by simp [hr, hb]⟩
theorem bases_spec {rs : List (Nat × Flag)} {b : Nat} (h : bases H rs b = true) : ∃ r f hd, (r, f) ∈ rs ∧ H r = some hd ∧ hd.base = some b := by
  simp only [bases, List.any_eq_true] at h
  obtain ⟨⟨r, f⟩, h1, h2⟩ := h
  simp only at h2
  split at h2
  · rename_i hd hh
    exact ⟨r, f, hd, h1, hh, by simpa using h2⟩
  · simp at h2

/-! ### the view -/

theorem slab_all (cs : Array Value) (o : Nat) : slab cs o (cs.size - o) = cs.toList.drop o := by
  unfold slab
  apply List.take_of_length_le
  simp

/-- A view is a value of the same, by what is known with the regions' blocks. -/
theorem view_rep (hm : MRel F K H w m) {Kp : Know} (hle : K.le Kp) (H' : Nat → Option Hd) :
    ∀ (d : Nat),
      (∀ (v : AVal) (x : Value) (v' : AVal) (rs : List (Nat × Flag)), view m d v = some (v', rs) →
        (∀ r f hd b cs e fz, (r, f) ∈ rs → H r = some hd → hd.base = some b → w.heap[b]? = some (.cells cs e fz) → Kp.cells b = some cs) → Rep K H v x → Rep Kp H' v' x) ∧
      (∀ (vs : List AVal) (xs : List Value) (vs' : List AVal) (rs : List (Nat × Flag)), viewX (view m d) vs = some (vs', rs) →
        (∀ r f hd b cs e fz, (r, f) ∈ rs → H r = some hd → hd.base = some b → w.heap[b]? = some (.cells cs e fz) → Kp.cells b = some cs) → RepL K H vs xs → RepL Kp H' vs' xs ∧ vs'.length = vs.length) := by
  intro d
  induction d with
  | zero =>
    refine ⟨fun v x v' rs h => by simp [view] at h, ?_⟩
    intro vs
    cases vs with
    | nil =>
      intro xs vs' rs h hB hr
      simp only [viewX, Option.some.injEq, Prod.mk.injEq] at h
      obtain ⟨rfl, rfl⟩ := h
      rw [RepL.nil_iff.1 hr]
      exact ⟨.nil, rfl⟩
    | cons v vs => intro xs vs' rs h; simp [viewX, view] at h
  | succ d ih =>
    have hv : ∀ (v : AVal) (x : Value) (v' : AVal) (rs : List (Nat × Flag)), view m (d + 1) v = some (v', rs) →
        (∀ r f hd b cs e fz, (r, f) ∈ rs → H r = some hd → hd.base = some b → w.heap[b]? = some (.cells cs e fz) → Kp.cells b = some cs) → Rep K H v x → Rep Kp H' v' x := by
      intro v x v' rs h hB hr
      cases v with
      | unk =>
        simp only [view, Option.some.injEq, Prod.mk.injEq] at h
        obtain ⟨rfl, rfl⟩ := h
        simp [Rep]
      | nilc => simp [view] at h
      | eptr r i j => simp [view] at h
      | aptr r => simp [view] at h
      | bool b =>
        simp only [view, Option.some.injEq, Prod.mk.injEq] at h
        obtain ⟨rfl, rfl⟩ := h
        simpa [Rep] using hr
      | int kd n =>
        simp only [view, Option.some.injEq, Prod.mk.injEq] at h
        obtain ⟨rfl, rfl⟩ := h
        simpa [Rep] using hr
      | nils t =>
        simp only [view, Option.some.injEq, Prod.mk.injEq] at h
        obtain ⟨rfl, rfl⟩ := h
        simp only [Rep] at hr ⊢
        subst hr
        exact ⟨none, 0, rfl, Nat.le_refl _, fun _ => rfl, .inl rfl⟩
      | imm t l f =>
        simp only [view, Option.some.injEq, Prod.mk.injEq] at h
        obtain ⟨rfl, rfl⟩ := h
        simp only [Rep] at hr ⊢
        exact hr.mono hle
      | arrv t l =>
        simp only [view, Option.some.injEq, Prod.mk.injEq] at h
        obtain ⟨rfl, rfl⟩ := h
        simp only [Rep] at hr ⊢
        obtain ⟨cs, h1, h2, h3⟩ := hr
        exact ⟨cs, h1, h2, h3.mono hle⟩
      | yieldv => simp [view] at h
      | nilfn =>
        simp only [view, Option.some.injEq, Prod.mk.injEq] at h
        obtain ⟨rfl, rfl⟩ := h
        simpa [Rep] using hr
      | sem p =>
        simp only [view, Option.some.injEq, Prod.mk.injEq] at h
        obtain ⟨rfl, rfl⟩ := h
        simp only [Rep] at hr ⊢
        exact p.mono _ _ _ hle.toW hr
      | reg r f =>
        simp only [view] at h
        split at h
        · rename_i t l g hg
          split at h
          · cases h
          · rename_i hgd
            simp only [Option.some.injEq, Prod.mk.injEq] at h
            obtain ⟨rfl, rfl⟩ := h
            simp only [Rep] at hr ⊢
            obtain ⟨hd, h1, rfl, h3⟩ := hr
            obtain ⟨g1, g2, g3, g4⟩ := hm.cont r _ g hd hg hgd h1
            refine ⟨_, hd.cap, by rw [g2], by omega, fun hf => by rw [h3 hf, g2], ?_⟩
            rcases g4 with ⟨g4, g5⟩ | ⟨b, cs, e, fz, g4, g5, g6, g7⟩
            · left
              exact List.eq_nil_of_length_eq_zero (by omega)
            · right
              refine ⟨b, 0, cs, by rw [g4]; rfl, hB r g hd b cs e fz (by simp) h1 g4 g5, fun i hi => ?_⟩
              exact DenRep.mono hle _ _ _ (g7 i hi)
        · cases h
      | sub r lo len f =>
        simp only [view] at h
        split at h
        · rename_i t l g hg
          split at h
          · cases h
          · rename_i hgd
            simp only [Option.some.injEq, Prod.mk.injEq] at h
            obtain ⟨rfl, rfl⟩ := h
            simp only [Rep] at hr ⊢
            obtain ⟨hd, cap, base, h1, rfl, h3, h4, h5, h6, h7⟩ := hr
            obtain ⟨g1, g2, g3, g4⟩ := hm.cont r _ g hd hg hgd h1
            have hlen : ((l.drop lo).take len).length = len := by simp; omega
            refine ⟨base, cap, by rw [hlen], by omega, fun hf => by rw [hlen]; exact h6 hf, ?_⟩
            rcases h7 with h7 | ⟨b, h7, h8⟩
            · left
              exact List.eq_nil_of_length_eq_zero (by omega)
            · rcases g4 with ⟨g4, g5⟩ | ⟨b', cs, e, fz, g4, g5, g6, g7⟩
              · rw [g4] at h7; cases h7
              · rw [h7] at g4; cases g4
                right
                refine ⟨b, lo * hd.sz, cs, h8, hB r g hd b cs e fz (by simp) h1 h7 g5, fun i hi => ?_⟩
                have := DenRep.mono hle _ _ _ (g7 (lo + i) (by omega))
                rw [List.getElem_take, List.getElem_drop]
                rw [g1, ← Nat.add_mul]
                simpa using this
        · cases h
      | ptr r off =>
        simp only [view] at h
        split at h
        · rename_i cells g hg
          split at h
          · cases h
          · rename_i hgd
            split at h
            · rename_i cs' rs' hv
              simp only [Option.some.injEq, Prod.mk.injEq] at h
              obtain ⟨rfl, rfl⟩ := h
              simp only [Rep] at hr ⊢
              obtain ⟨hd, b, h1, h2, rfl⟩ := hr
              obtain ⟨b', cs, e, fz, g1, g2, g3⟩ := hm.cont r _ g hd hg hgd h1
              rw [h2] at g1; cases g1
              have hl := (ih.2 _ _ _ _ hv (fun r' f' hd' b' cs' e' fz' q1 => hB r' f' hd' b' cs' e' fz' (by simp [q1])) (RepL.drop off g3))
              refine ⟨b, off, cs, rfl, hB r g hd b cs e fz (by simp) h1 h2 g2, ?_⟩
              have hsz : cs'.length = cs.size - off := by
                rw [hl.2]
                have := RepL.length g3
                simp at this ⊢
                omega
              rw [hsz, slab_all]
              exact hl.1
            · cases h
        · cases h
      | iptr cells =>
        simp only [view] at h
        split at h
        · rename_i cs' rs' hv
          simp only [Option.some.injEq, Prod.mk.injEq] at h
          obtain ⟨rfl, rfl⟩ := h
          simp only [Rep] at hr ⊢
          obtain ⟨b, off, arr, rfl, h2, h3⟩ := hr
          have hl := ih.2 _ _ _ _ hv hB h3
          exact ⟨b, off, arr, rfl, hle.cells _ _ h2, by rw [hl.2]; exact hl.1⟩
        · cases h
      | agg cells =>
        simp only [view] at h
        split at h
        · rename_i cs' rs' hv
          simp only [Option.some.injEq, Prod.mk.injEq] at h
          obtain ⟨rfl, rfl⟩ := h
          simp only [Rep] at hr ⊢
          obtain ⟨cs, rfl, h3⟩ := hr
          exact ⟨cs, rfl, (ih.2 _ _ _ _ hv hB h3).1⟩
        · cases h
      | tup cells =>
        simp only [view] at h
        split at h
        · rename_i cs' rs' hv
          simp only [Option.some.injEq, Prod.mk.injEq] at h
          obtain ⟨rfl, rfl⟩ := h
          simp only [Rep] at hr ⊢
          obtain ⟨cs, rfl, h3⟩ := hr
          exact ⟨cs, rfl, (ih.2 _ _ _ _ hv hB h3).1⟩
        · cases h
      | fn f a b =>
        simp only [view] at h
        split at h
        · rename_i a' r1 hv1
          split at h
          · rename_i b' r2 hv2
            simp only [Option.some.injEq, Prod.mk.injEq] at h
            obtain ⟨rfl, rfl⟩ := h
            simp only [Rep] at hr ⊢
            obtain ⟨fi, ca, rfl, h3, h4⟩ := hr
            exact ⟨fi, ca, rfl, (ih.2 _ _ _ _ hv1 (fun r' f' hd' b' cs' e' fz' q1 => hB r' f' hd' b' cs' e' fz' (by simp [q1])) h3).1,
              (ih.2 _ _ _ _ hv2 (fun r' f' hd' b' cs' e' fz' q1 => hB r' f' hd' b' cs' e' fz' (by simp [q1])) h4).1⟩
          · cases h
        · cases h
    refine ⟨hv, ?_⟩
    intro vs
    induction vs with
    | nil =>
      intro xs vs' rs h hB hr
      simp only [viewX, Option.some.injEq, Prod.mk.injEq] at h
      obtain ⟨rfl, rfl⟩ := h
      rw [RepL.nil_iff.1 hr]
      exact ⟨.nil, rfl⟩
    | cons v vs ihl =>
      intro xs vs' rs h hB hr
      simp only [viewX] at h
      split at h
      · rename_i v' r1 hv1
        split at h
        · rename_i vs1 r2 hv2
          simp only [Option.some.injEq, Prod.mk.injEq] at h
          obtain ⟨rfl, rfl⟩ := h
          obtain ⟨x, xs', rfl, h1, h2⟩ := hr.inv
          have ha := hv _ _ _ _ hv1 (fun r' f' hd' b' cs' e' fz' q1 => hB r' f' hd' b' cs' e' fz' (by simp [q1])) h1
          have hb := ihl _ _ _ hv2 (fun r' f' hd' b' cs' e' fz' q1 => hB r' f' hd' b' cs' e' fz' (by simp [q1])) h2
          exact ⟨.cons ha hb.1, by simp [hb.2]⟩
        · cases h
      · cases h

/-- What a view read was so. -/
theorem view_reads (m : Mm) : ∀ (d : Nat), (∀ (v v' : AVal) (rs : List (Nat × Flag)), view m d v = some (v', rs) → ∀ r f, (r, f) ∈ rs → f ≠ .dead ∧ ∃ c, m r = some (c, f)) ∧
    (∀ (vs vs' : List AVal) (rs : List (Nat × Flag)), viewX (view m d) vs = some (vs', rs) → ∀ r f, (r, f) ∈ rs → f ≠ .dead ∧ ∃ c, m r = some (c, f)) := by
  have hL : ∀ d, (∀ (v v' : AVal) (rs : List (Nat × Flag)), view m d v = some (v', rs) → ∀ r f, (r, f) ∈ rs → f ≠ .dead ∧ ∃ c, m r = some (c, f)) →
      (∀ (vs vs' : List AVal) (rs : List (Nat × Flag)), viewX (view m d) vs = some (vs', rs) → ∀ r f, (r, f) ∈ rs → f ≠ .dead ∧ ∃ c, m r = some (c, f)) := by
    intro d hv vs
    induction vs with
    | nil =>
      intro vs' rs h r f hrf
      simp only [viewX, Option.some.injEq, Prod.mk.injEq] at h
      obtain ⟨rfl, rfl⟩ := h
      simp at hrf
    | cons v vs ih =>
      intro vs' rs h r f hrf
      simp only [viewX] at h
      split at h
      · rename_i v' r1 hv1
        split at h
        · rename_i vs1 r2 hv2
          simp only [Option.some.injEq, Prod.mk.injEq] at h
          obtain ⟨rfl, rfl⟩ := h
          rcases List.mem_append.1 hrf with h | h
          · exact hv _ _ _ hv1 r f h
          · exact ih _ _ hv2 r f h
        · cases h
      · cases h
  intro d
  induction d with
  | zero => exact ⟨fun v v' rs h => by simp [view] at h, hL 0 (fun v v' rs h => by simp [view] at h)⟩
  | succ d ih =>
    have hv : ∀ (v v' : AVal) (rs : List (Nat × Flag)), view m (d + 1) v = some (v', rs) → ∀ r f, (r, f) ∈ rs → f ≠ .dead ∧ ∃ c, m r = some (c, f) := by
      intro v v' rs h r f hrf
      cases v with
      | unk => simp only [view, Option.some.injEq, Prod.mk.injEq] at h; obtain ⟨rfl, rfl⟩ := h; simp at hrf
      | nilc => simp [view] at h
      | eptr r i j => simp [view] at h
      | aptr r => simp [view] at h
      | bool b => simp only [view, Option.some.injEq, Prod.mk.injEq] at h; obtain ⟨rfl, rfl⟩ := h; simp at hrf
      | int kd n => simp only [view, Option.some.injEq, Prod.mk.injEq] at h; obtain ⟨rfl, rfl⟩ := h; simp at hrf
      | nils t => simp only [view, Option.some.injEq, Prod.mk.injEq] at h; obtain ⟨rfl, rfl⟩ := h; simp at hrf
      | imm t l f => simp only [view, Option.some.injEq, Prod.mk.injEq] at h; obtain ⟨rfl, rfl⟩ := h; simp at hrf
      | arrv t l => simp only [view, Option.some.injEq, Prod.mk.injEq] at h; obtain ⟨rfl, rfl⟩ := h; simp at hrf
      | yieldv => simp [view] at h
      | nilfn => simp only [view, Option.some.injEq, Prod.mk.injEq] at h; obtain ⟨rfl, rfl⟩ := h; simp at hrf
      | sem p => simp only [view, Option.some.injEq, Prod.mk.injEq] at h; obtain ⟨rfl, rfl⟩ := h; simp at hrf
      | reg r0 f0 =>
        simp only [view] at h
        split at h
        · rename_i t l g hg
          split at h
          · cases h
          · rename_i hgd
            simp only [Option.some.injEq, Prod.mk.injEq] at h
            obtain ⟨rfl, rfl⟩ := h
            simp only [List.mem_singleton, Prod.mk.injEq] at hrf
            obtain ⟨rfl, rfl⟩ := hrf
            exact ⟨hgd, _, hg⟩
        · cases h
      | sub r0 lo len f0 =>
        simp only [view] at h
        split at h
        · rename_i t l g hg
          split at h
          · cases h
          · rename_i hgd
            simp only [Option.some.injEq, Prod.mk.injEq] at h
            obtain ⟨rfl, rfl⟩ := h
            simp only [List.mem_singleton, Prod.mk.injEq] at hrf
            obtain ⟨rfl, rfl⟩ := hrf
            exact ⟨hgd, _, hg⟩
        · cases h
      | ptr r0 off =>
        simp only [view] at h
        split at h
        · rename_i cells g hg
          split at h
          · cases h
          · rename_i hgd
            split at h
            · rename_i cs' rs' hv
              simp only [Option.some.injEq, Prod.mk.injEq] at h
              obtain ⟨rfl, rfl⟩ := h
              rcases List.mem_cons.1 hrf with h | h
              · simp only [Prod.mk.injEq] at h
                obtain ⟨rfl, rfl⟩ := h
                exact ⟨hgd, _, hg⟩
              · exact ih.2 _ _ _ hv r f h
            · cases h
        · cases h
      | iptr cells =>
        simp only [view] at h
        split at h
        · rename_i cs' rs' hv
          simp only [Option.some.injEq, Prod.mk.injEq] at h
          obtain ⟨rfl, rfl⟩ := h
          exact ih.2 _ _ _ hv r f hrf
        · cases h
      | agg cells =>
        simp only [view] at h
        split at h
        · rename_i cs' rs' hv
          simp only [Option.some.injEq, Prod.mk.injEq] at h
          obtain ⟨rfl, rfl⟩ := h
          exact ih.2 _ _ _ hv r f hrf
        · cases h
      | tup cells =>
        simp only [view] at h
        split at h
        · rename_i cs' rs' hv
          simp only [Option.some.injEq, Prod.mk.injEq] at h
          obtain ⟨rfl, rfl⟩ := h
          exact ih.2 _ _ _ hv r f hrf
        · cases h
      | fn f0 a b =>
        simp only [view] at h
        split at h
        · rename_i a' r1 hv1
          split at h
          · rename_i b' r2 hv2
            simp only [Option.some.injEq, Prod.mk.injEq] at h
            obtain ⟨rfl, rfl⟩ := h
            rcases List.mem_append.1 hrf with h | h
            · exact ih.2 _ _ _ hv1 r f h
            · exact ih.2 _ _ _ hv2 r f h
          · cases h
        · cases h
    exact ⟨hv, hL (d + 1) hv⟩

/-- The memory in which the regions of one's own among those read are frozen. -/
theorem frz_get (m : Mm) : ∀ (rs : List (Nat × Flag)) (r : Nat), flagsM m (frzAll rs) r = match m r with
    | some (c, g) => some (c, if (r, Flag.own) ∈ rs then .frz else g)
    | none => none := by
  intro rs
  induction rs generalizing m with
  | nil => intro r; simp only [frzAll, flagsM]; split <;> simp_all
  | cons u rs ih =>
    intro r
    obtain ⟨r0, f0⟩ := u
    cases f0 with
    | own =>
      simp only [frzAll, flagsM, ih]
      have hu : flagM m (r0, Flag.frz) r = match m r with
          | some (c, g) => some (c, if r = r0 then .frz else g)
          | none => none := by
        simp only [flagM]
        by_cases e : r = r0
        · subst e
          cases hmr : m r with
          | none => simp [hmr]
          | some x => simp [upd_same]
        · have h1 : ∀ y : Option (Cont × Flag), (match y with
              | some (c, _) => upd m r0 (c, Flag.frz)
              | none => m) r = m r := by
            intro y
            rcases y with _ | ⟨c, g⟩
            · rfl
            · exact upd_ne _ _ _ _ e
          refine Eq.trans (h1 _) ?_
          split <;> simp_all
      rw [hu]
      cases hmr : m r with
      | none => simp
      | some x =>
        obtain ⟨c, g⟩ := x
        simp only [List.mem_cons, Prod.mk.injEq, and_true]
        by_cases e : r = r0
        · subst e; simp
        · simp [e]
    | frz => simp only [frzAll, ih]; split <;> simp
    | dead => simp only [frzAll, ih]; split <;> simp

theorem MRel.freeze (hm : MRel F K H w m) (hk : Knows K w) (rs : List (Nat × Flag)) (hrs : ∀ r f, (r, f) ∈ rs → f ≠ .dead ∧ ∃ c, m r = some (c, f)) :
    MRel F (K.plus w (bases H rs)) H w (flagsM m (frzAll rs)) ∧ (∀ b, bases H rs b = true → K.inv b = none ∨ ∃ cs, K.cells b = some cs) := by
  have hB : ∀ b, bases H rs b = true → (K.inv b = none ∧ ¬ F b ∧ ∃ r c hd, (r, Flag.own) ∈ rs ∧ m r = some (c, .own) ∧ H r = some hd ∧ hd.base = some b) ∨ ∃ cs, K.cells b = some cs := by
    intro b hb
    obtain ⟨r, f, hd, h1, h2, h3⟩ := bases_spec hb
    obtain ⟨hd1, c, hc⟩ := hrs r f h1
    cases f with
    | own =>
      have := hm.own r c hd b hc h2 h3
      exact .inl ⟨this.2.2.1, this.1, r, c, hd, h1, hc, h2, h3⟩
    | frz => exact .inr (hm.frz r c hd b hc h2 h3)
    | dead => exact absurd rfl hd1
  refine ⟨⟨?_, ?_, ?_, ?_⟩, fun b hb => (hB b hb).imp (fun h => h.1) id⟩
  · intro r c f hd h1 h2 h3
    rw [frz_get] at h1
    cases hmr : m r with
    | none => rw [hmr] at h1; cases h1
    | some x =>
      obtain ⟨c', g⟩ := x
      rw [hmr] at h1
      simp only [Option.some.injEq, Prod.mk.injEq] at h1
      obtain ⟨rfl, h1⟩ := h1
      refine (hm.cont r c' g hd hmr ?_ h3).mono (K.le_plus w _) (.refl H) (fun _ _ => rfl)
      intro e
      subst e
      by_cases hmem : (r, Flag.own) ∈ rs
      · obtain ⟨_, c2, hc2⟩ := hrs r _ hmem
        rw [hmr] at hc2; cases hc2
      · rw [if_neg hmem] at h1; exact h2 h1.symm
  · intro r c hd b h1 h2 h3
    rw [frz_get] at h1
    cases hmr : m r with
    | none => rw [hmr] at h1; cases h1
    | some x =>
      obtain ⟨c', g⟩ := x
      rw [hmr] at h1
      simp only [Option.some.injEq, Prod.mk.injEq] at h1
      obtain ⟨rfl, h1⟩ := h1
      by_cases hmem : (r, Flag.own) ∈ rs
      · rw [if_pos hmem] at h1; cases h1
      · rw [if_neg hmem] at h1
        subst h1
        obtain ⟨g1, g2, g3, g4⟩ := hm.own r c' hd b hmr h2 h3
        refine ⟨g1, ?_, g3, g4⟩
        cases hb : bases H rs b with
        | false => rw [plus_none hb]; exact g2
        | true =>
          rcases hB b hb with ⟨_, _, r2, c2, hd2, q1, q2, q3, q4⟩ | ⟨cs, q⟩
          · have := hm.inj r r2 c' c2 hd hd2 b hmr q2 h2 q3 h3 q4
            subst this
            exact absurd q1 hmem
          · rw [g2] at q; cases q
  · intro r c hd b h1 h2 h3
    rw [frz_get] at h1
    cases hmr : m r with
    | none => rw [hmr] at h1; cases h1
    | some x =>
      obtain ⟨c', g⟩ := x
      rw [hmr] at h1
      simp only [Option.some.injEq, Prod.mk.injEq] at h1
      obtain ⟨rfl, h1⟩ := h1
      by_cases hmem : (r, Flag.own) ∈ rs
      · obtain ⟨_, c2, hc2⟩ := hrs r _ hmem
        obtain ⟨_, _, _, cs, e, g4⟩ := hm.own r c2 hd b hc2 h2 h3
        exact ⟨cs, plus_new (bases_mem hmem h2 h3) hk g4⟩
      · rw [if_neg hmem] at h1
        subst h1
        obtain ⟨cs, g⟩ := hm.frz r c' hd b hmr h2 h3
        exact ⟨cs, (K.le_plus w _).cells _ _ g⟩
  · intro r1 r2 c1 c2 hd1 hd2 b h1 h2 h3 h4 h5 h6
    have back : ∀ r c, flagsM m (frzAll rs) r = some (c, .own) → ∃ c', m r = some (c', .own) := by
      intro r c h
      rw [frz_get] at h
      cases hmr : m r with
      | none => rw [hmr] at h; cases h
      | some x =>
        obtain ⟨c', g⟩ := x
        rw [hmr] at h
        simp only [Option.some.injEq, Prod.mk.injEq] at h
        obtain ⟨rfl, h⟩ := h
        split at h
        · cases h
        · subst h; exact ⟨c', rfl⟩
    obtain ⟨d1, g1⟩ := back r1 c1 h1
    obtain ⟨d2, g2⟩ := back r2 c2 h2
    exact hm.inj r1 r2 d1 d2 hd1 hd2 b g1 g2 h3 h4 h5 h6

theorem WOk.frozen (hok : WOk F K w) (hm : MRel F K H w m) (rs : List (Nat × Flag)) (hrs : ∀ r f, (r, f) ∈ rs → f ≠ .dead ∧ ∃ c, m r = some (c, f)) :
    WOk F (K.plus w (bases H rs)) w ∧ Fix F K (K.plus w (bases H rs)) := by
  have hB : ∀ b, bases H rs b = true → (K.inv b = none ∧ ¬ F b) ∨ ∃ cs, K.cells b = some cs := by
    intro b hb
    obtain ⟨r, f, hd, h1, h2, h3⟩ := bases_spec hb
    obtain ⟨hd1, c, hc⟩ := hrs r f h1
    cases f with
    | own =>
      have := hm.own r c hd b hc h2 h3
      exact .inl ⟨this.2.2.1, this.1⟩
    | frz => exact .inr (hm.frz r c hd b hc h2 h3)
    | dead => exact absurd rfl hd1
  refine ⟨hok.plus _ (fun b hb => ?_), fun b hb => ⟨?_, rfl⟩⟩
  · rcases hB b hb with h | ⟨cs, h⟩
    · exact h.1
    · cases hi : K.inv b with
      | none => rfl
      | some p => have := hok.apart b p hi; rw [h] at this; cases this
  · cases hbs : bases H rs b with
    | false => exact plus_none hbs
    | true =>
      rcases hB b hbs with h | ⟨cs, h⟩
      · exact absurd hb h.2
      · rw [h]; exact (K.le_plus w _).cells _ _ h
end
end Go.Abs
end

section
/- The operations that make no memory do what the interpreter says. -/
namespace Go.Abs
section
variable {P : Program} {F : Nat → Prop} {K : Know} {H : Nat → Option Hd} {w : World} {m : Mm} {nx : Nat} {k : Q → Prop} {ev : Operand → AVal} {ρ : Operand → Value}

theorem r_under {t : TypeId} {d : TypeDesc} (h : P.underlying t = some d) (w : World) : (underlying t).run P w = .ok d w := by
  simp [underlying, h]
theorem r_info {t : TypeId} {i : TypeInfo} (h : P.info? t = some i) (w : World) : (typeInfo t).run P w = .ok i w := by
  simp [typeInfo, h]
theorem r_size {t : TypeId} {i : TypeInfo} (h : P.info? t = some i) (w : World) : (sizeOf t).run P w = .ok i.size w := by
  simp [sizeOf, r_info h]
theorem under_info {t : TypeId} {d : TypeDesc} (h : P.underlying t = some d) : ∃ i, P.info? t = some i := by
  unfold Program.underlying at h
  cases hi : P.info? t with
  | none => rw [hi] at h; cases h
  | some i => exact ⟨i, rfl⟩
theorem r_sizeT {t : TypeId} {d : TypeDesc} (h : P.underlying t = some d) (w : World) : (sizeOf t).run P w = .ok (sizeT P t) w := by
  obtain ⟨i, hi⟩ := under_info h
  rw [r_size hi]
  simp [sizeT, hi]
theorem r_isAgg {t : TypeId} {d : TypeDesc} (h : P.underlying t = some d) (w : World) : (isAgg t).run P w = .ok (aggT P t) w := by
  simp only [isAgg, Sem.run_bind, r_under h, Result.andThen_ok, aggT, h]
  cases d <;> rfl
theorem aggT_under {t : TypeId} (h : aggT P t = true) : ∃ d, P.underlying t = some d := by
  unfold aggT at h
  split at h
  · exact ⟨_, ‹_›⟩
  · exact ⟨_, ‹_›⟩
  · cases h

theorem tyOf_info : ∀ (d : Nat) (t : TypeId) (ty : Ty), tyOf P d t = some ty → ∃ i de, P.info? t = some i ∧ i.size = ty.size ∧ P.underlying t = some de ∧ sizeT P t = ty.size := by
  intro d
  induction d with
  | zero => intro t ty h; simp [tyOf] at h
  | succ d ih =>
    intro t ty h
    unfold tyOf at h
    split at h
    · rename_i i kd hi hu
      split at h
      · rename_i hs; cases h; exact ⟨i, _, hi, hs, hu, by simp [sizeT, hi, hs, Ty.size]⟩
      · cases h
    · rename_i i hi hu
      split at h
      · rename_i hs; cases h; exact ⟨i, _, hi, hs, hu, by simp [sizeT, hi, hs, Ty.size]⟩
      · cases h
    · rename_i i e hi hu
      split at h
      · rename_i hs
        split at h
        · cases h; exact ⟨i, _, hi, hs, hu, by simp [sizeT, hi, hs, Ty.size]⟩
        · cases h
      · cases h
    · rename_i i fs hi hu
      split at h
      · split at h
        · rename_i hs; cases h; exact ⟨i, _, hi, hs, hu, by simp [sizeT, hi, hs]⟩
        · cases h
      · cases h
    · cases h

theorem typed_rep {t : TypeId} {v : AVal} {x : Value} (h : Rep K H v x) : Rep K H (typed P t v) x := by
  unfold typed
  split
  · split
    · simpa [Rep] using h
    · exact h
  · exact h

theorem constA1_rep : ∀ (v : Value), Rep K H (constA1 v) v := by
  intro v
  unfold constA1
  split <;> simp [Rep]
theorem constA_rep : ∀ (v : Value), Rep K H (constA v) v := by
  intro v
  unfold constA
  split
  · rename_i cs
    simp only [Rep]
    refine ⟨cs, rfl, ?_⟩
    generalize cs.toList = l
    induction l with
    | nil => exact .nil
    | cons a l ih => exact .cons (constA1_rep a) ih
  · exact constA1_rep v

theorem parts_rep {v : AVal} {x : Value} {cells : List AVal} (hp : v.parts = some cells) (h : Rep K H v x) : RepL K H cells x.cells.toList := by
  cases v <;> simp only [AVal.parts, Option.some.injEq] at hp <;> (try cases hp)
  case agg =>
    simp only [Rep] at h
    obtain ⟨cs', rfl, h2⟩ := h
    exact h2
  all_goals
    have h0 := h
    simp only [Rep] at h
  case bool => subst h; exact .cons h0 .nil
  case int => subst h; exact .cons h0 .nil
  case nils => subst h; exact .cons h0 .nil
  case imm => obtain ⟨_, _, rfl, _⟩ := h; exact .cons h0 .nil
  case reg => obtain ⟨_, _, rfl, _⟩ := h; exact .cons h0 .nil
  case sub => obtain ⟨_, _, _, _, rfl, _⟩ := h; exact .cons h0 .nil
  case ptr => obtain ⟨_, _, _, _, rfl⟩ := h; exact .cons h0 .nil
  case eptr => obtain ⟨_, _, _, _, rfl⟩ := h; exact .cons h0 .nil
  case aptr => obtain ⟨_, _, _, _, _, rfl⟩ := h; exact .cons h0 .nil
  case iptr => obtain ⟨_, _, _, rfl, _⟩ := h; exact .cons h0 .nil
  case fn => obtain ⟨_, _, rfl, _⟩ := h; exact .cons h0 .nil
  case nilfn => subst h; exact .cons h0 .nil
  case yieldv => obtain ⟨_, _, rfl⟩ := h; exact .cons h0 .nil
  case sem => obtain ⟨_, rfl⟩ := SemP.cell _ _ _ h; exact .cons h0 .nil

theorem one_rep {v : AVal} {x : Value} (hp : v.one = true) (h : Rep K H v x) : one x = true := by
  cases v <;> simp [AVal.one] at hp <;> simp only [Rep] at h
  case nilc => subst h; rfl
  case bool => subst h; rfl
  case int => subst h; rfl
  case nils => subst h; rfl
  case imm => obtain ⟨_, _, rfl, _⟩ := h; rfl
  case reg => obtain ⟨_, _, rfl, _⟩ := h; rfl
  case sub => obtain ⟨_, _, _, _, rfl, _⟩ := h; rfl
  case ptr => obtain ⟨_, _, _, _, rfl⟩ := h; rfl
  case eptr => obtain ⟨_, _, _, _, rfl⟩ := h; rfl
  case aptr => obtain ⟨_, _, _, _, _, rfl⟩ := h; rfl
  case iptr => obtain ⟨_, _, _, rfl, _⟩ := h; rfl
  case fn => obtain ⟨_, _, rfl, _⟩ := h; rfl
  case nilfn => subst h; rfl
  case yieldv => obtain ⟨_, _, rfl⟩ := h; rfl
  case sem => obtain ⟨_, rfl⟩ := SemP.cell _ _ _ h; rfl

theorem allOne_rep : ∀ {vs : List AVal} {xs : List Value}, allOne vs = true → RepL K H vs xs → ∀ x ∈ xs, one x = true
  | [], xs, _, h, x, hx => by rw [RepL.nil_iff.1 h] at hx; simp at hx
  | v :: vs, xs, ho, h, x, hx => by
    simp only [allOne, Bool.and_eq_true] at ho
    obtain ⟨c, cs, rfl, h1, h2⟩ := h.inv
    rcases List.mem_cons.1 hx with rfl | hx
    · exact one_rep ho.1 h1
    · exact allOne_rep ho.2 h2 x hx

/-- A load at a type. -/
theorem ld_run {t : TypeId} {cells : List AVal} {v : AVal} {b off : Nat} {cs : Array Value} {e : TypeId} {fz : Nat × Nat} (hb : w.heap[b]? = some (.cells cs e fz))
    (hr : RepL K H cells (slab cs off cells.length)) (h : ldA P t cells = some v) : ∃ x, (loadVar t ⟨b, off, none⟩).run P w = .ok x w ∧ Rep K H v x := by
  have agg : ∀ d, P.underlying t = some d → aggT P t = true → (P.info? t).isSome = true → sizeT P t ≤ cells.length → v = .agg (cells.take (sizeT P t)) →
      ∃ x, (loadVar t ⟨b, off, none⟩).run P w = .ok x w ∧ Rep K H v x := by
    intro d hd ha hi hs hv
    have hl := RepL.length hr
    by_cases hz : sizeT P t = 0
    · refine ⟨.agg #[], ?_, ?_⟩
      · simp only [loadVar, Sem.run_bind, r_isAgg hd, Result.andThen_ok, ha, if_true, r_sizeT hd, hz]
        simp [loadCells, loadCellsFrom]
      · rw [hv, hz]
        simp only [Rep]
        exact ⟨_, rfl, .nil⟩
    · have hsz : off + cells.length ≤ cs.size := slab_le hl (by omega)
      refine ⟨.agg (slab cs off (sizeT P t)).toArray, ?_, ?_⟩
      · simp only [loadVar, Sem.run_bind, r_isAgg hd, Result.andThen_ok, ha, if_true, r_sizeT hd]
        have := run_loadCells P hb off (sizeT P t) 0 #[] (by omega)
        simp only [loadCells, this, Result.andThen_ok]
        simp
      · rw [hv]
        simp only [Rep]
        refine ⟨_, rfl, ?_⟩
        have h2 := RepL.take (sizeT P t) hr
        have h3 : (slab cs off cells.length).take (sizeT P t) = slab cs off (sizeT P t) := by
          unfold slab
          rw [List.take_take, Nat.min_eq_left hs]
        rw [h3] at h2
        simpa using h2
  have other : ∀ d, P.underlying t = some d → aggT P t = false → cells.head? = some v → ∃ x, (loadVar t ⟨b, off, none⟩).run P w = .ok x w ∧ Rep K H v x := by
    intro d hd ha hv
    cases cells with
    | nil => simp at hv
    | cons a as =>
      simp only [List.head?_cons, Option.some.injEq] at hv
      subst hv
      obtain ⟨x, xs, h1, h2, h3⟩ := hr.inv
      refine ⟨x, ?_, h2⟩
      have hc : cs[off]? = some x := by
        have := slab_get (cs := cs) (o := off) (n := (a :: as).length) (j := 0) (by simp)
        rw [h1] at this
        simpa using this.symm
      simp only [loadVar, Sem.run_bind, r_isAgg hd, Result.andThen_ok, ha]
      exact Abs.run_load P hb off x hc
  unfold ldA at h
  split at h
  · cases h
  · rename_i fs hd
    split at h
    · rename_i hc
      simp only [Bool.and_eq_true, decide_eq_true_eq] at hc
      cases h
      exact agg _ hd (by simp [aggT, hd]) hc.1 hc.2 rfl
    · cases h
  · rename_i n e' hd
    split at h
    · rename_i hc
      simp only [Bool.and_eq_true, decide_eq_true_eq] at hc
      cases h
      exact agg _ hd (by simp [aggT, hd]) hc.1 hc.2 rfl
    · cases h
  · rename_i d h1 h2 hd
    split at h
    · cases h
      refine other d hd ?_ rfl
      unfold aggT
      rw [hd]
      cases d with
      | struct fs => exact absurd rfl (h1 fs)
      | array n e' => exact absurd rfl (h2 n e')
      | _ => rfl
    · cases h

/-- A part of an aggregate. -/
theorem part_run {t : TypeId} {cells : List AVal} {v : AVal} {off : Nat} {cs : Array Value} (hr : RepL K H cells cs.toList) (h : ldA P t (cells.drop off) = some v) :
    ∃ x, (part t cs off).run P w = .ok x w ∧ Rep K H v x := by
  have hrd := RepL.drop off hr
  have hlen := RepL.length hrd
  have agg : ∀ d, P.underlying t = some d → aggT P t = true → sizeT P t ≤ (cells.drop off).length → v = .agg ((cells.drop off).take (sizeT P t)) →
      ∃ x, (part t cs off).run P w = .ok x w ∧ Rep K H v x := by
    intro d hd ha hs hv
    refine ⟨.agg (cs.extract off (off + sizeT P t)), ?_, ?_⟩
    · simp only [part, Sem.run_bind, r_isAgg hd, Result.andThen_ok, ha, if_true, r_sizeT hd]
      rfl
    · rw [hv]
      simp only [Rep]
      refine ⟨_, rfl, ?_⟩
      have h2 := RepL.take (sizeT P t) hrd
      have h3 : (cs.toList.drop off).take (sizeT P t) = (cs.extract off (off + sizeT P t)).toList := by
        rw [Array.toList_extract]
        simp [List.extract]
      rw [h3] at h2
      exact h2
  have other : ∀ d, P.underlying t = some d → aggT P t = false → (cells.drop off).head? = some v → ∃ x, (part t cs off).run P w = .ok x w ∧ Rep K H v x := by
    intro d hd ha hv
    cases hcd : cells.drop off with
    | nil => rw [hcd] at hv; simp at hv
    | cons a as =>
      rw [hcd] at hv hrd
      simp only [List.head?_cons, Option.some.injEq] at hv
      subst hv
      obtain ⟨x, xs, h1, h2, h3⟩ := hrd.inv
      refine ⟨x, ?_, h2⟩
      have hc : cs[off]? = some x := by
        have h4 : (cs.toList.drop off)[0]? = some x := by rw [h1]; rfl
        rw [List.getElem?_drop] at h4
        simpa using h4
      simp only [part, Sem.run_bind, r_isAgg hd, Result.andThen_ok, ha]
      simp [hc]
  unfold ldA at h
  split at h
  · cases h
  · rename_i fs hd
    split at h
    · rename_i hc
      simp only [Bool.and_eq_true, decide_eq_true_eq] at hc
      cases h
      exact agg _ hd (by simp [aggT, hd]) hc.2 rfl
    · cases h
  · rename_i n e' hd
    split at h
    · rename_i hc
      simp only [Bool.and_eq_true, decide_eq_true_eq] at hc
      cases h
      exact agg _ hd (by simp [aggT, hd]) hc.2 rfl
    · cases h
  · rename_i d h1 h2 hd
    split at h
    · rename_i a as heq
      cases h
      refine other d hd ?_ (by rw [heq]; rfl)
      unfold aggT
      rw [hd]
      cases d with
      | struct fs => exact absurd rfl (h1 fs)
      | array n e' => exact absurd rfl (h2 n e')
      | _ => rfl
    · cases h

/-! ### the operations, one by one: those that only look -/

theorem q_value {s : Sem Value} {x : Value} {w' : World} (h : s.run P w = .ok x w') : (do pure (Next.value (← s)) : Sem Next).run P w = .ok (.value x) w' := by
  simp [h]

theorem eqCells_run : ∀ (xs ys : List AVal) (e : Bool), eqCells xs ys = some e → ∀ (cs ds : List Value), RepL K H xs cs → RepL K H ys ds →
    ∃ (l : List (IntKind × Int × Int)), cs = l.map (fun u => Value.int u.1 u.2.1) ∧ ds = l.map (fun u => Value.int u.1 u.2.2) ∧ e = l.all (fun u => u.2.1 == u.2.2)
  | [], [], e, h, cs, ds, h1, h2 => by
    simp only [eqCells, Option.some.injEq] at h
    refine ⟨[], by simpa using RepL.nil_iff.1 h1, by simpa using RepL.nil_iff.1 h2, by simp [← h]⟩
  | [.int k a], [.int k' b], e, h, cs, ds, h1, h2 => by
    simp only [eqCells] at h
    split at h
    · rename_i hk
      subst hk
      cases h
      obtain ⟨c, cs', rfl, g1, g2⟩ := h1.inv
      obtain ⟨d, ds', rfl, g3, g4⟩ := h2.inv
      simp only [Rep] at g1 g3
      subst g1 g3
      rw [RepL.nil_iff.1 g2, RepL.nil_iff.1 g4]
      exact ⟨[(k, a, b)], rfl, rfl, by simp⟩
    · cases h
  | .int k a :: x :: r, .int k' b :: s, e, h, cs, ds, h1, h2 => by
    simp only [eqCells] at h
    split at h
    · rename_i hk
      subst hk
      split at h
      · rename_i e' he
        cases h
        obtain ⟨c, cs', rfl, g1, g2⟩ := h1.inv
        obtain ⟨d, ds', rfl, g3, g4⟩ := h2.inv
        simp only [Rep] at g1 g3
        subst g1 g3
        obtain ⟨l, rfl, rfl, rfl⟩ := eqCells_run _ _ _ he _ _ g2 g4
        exact ⟨(k, a, b) :: l, rfl, rfl, by simp⟩
      · cases h
    · cases h
  | [.int k a], .int k' b :: y :: s, e, h, cs, ds, h1, h2 => by
    simp only [eqCells] at h
    split at h
    · cases h
    · cases h
end
end Go.Abs
end

section
/- The operations that only look: what they give. -/
namespace Go.Abs
section
variable {P : Program} {F : Nat → Prop} {K : Know} {H : Nat → Option Hd} {w : World} {m : Mm} {nx : Nat} {k : Q → Prop} {ev : Operand → AVal} {ρ : Operand → Value}

theorem rep_int {kd : IntKind} {n : Int} {x : Value} (h : Rep K H (.int kd n) x) : x = .int kd n := by simpa [Rep] using h
theorem rep_bool {b : Bool} {x : Value} (h : Rep K H (.bool b) x) : x = .bool b := by simpa [Rep] using h

theorem eqFields_ints (d : Nat) (cs ds : Array Value) : ∀ (fs : List Field) (i : Nat) (l : List (IntKind × Int × Int)), intsT.go P fs i = true → fs.length = l.length →
    cs.toList.drop i = l.map (fun u => Value.int u.1 u.2.1) → ds.toList.drop i = l.map (fun u => Value.int u.1 u.2.2) →
    (Op.eqFields (d + 1) cs ds fs).run P w = .ok (l.all (fun u => u.2.1 == u.2.2)) w
  | [], i, l, _, hl, _, _ => by
    simp only [List.length_nil] at hl
    rw [List.eq_nil_of_length_eq_zero hl.symm]
    simp [Op.eqFields]
  | f :: fs, i, l, hf, hl, hc, hd => by
    cases l with
    | nil => simp at hl
    | cons u l =>
      simp only [intsT.go, Bool.and_eq_true, decide_eq_true_eq] at hf
      obtain ⟨⟨⟨h1, h2⟩, h3⟩, h4⟩ := hf
      cases hu : P.underlying f.type with
      | none => rw [hu] at h3; simp at h3
      | some de =>
        rw [hu] at h3
        cases de <;> simp at h3
        rename_i kd
        have hag : aggT P f.type = false := by simp [aggT, hu]
        have cell : ∀ (es : Array Value) (v : Value) (r : List Value), es.toList.drop i = v :: r → es[i]? = some v := by
          intro es v r h
          have h4 : (es.toList.drop i)[0]? = some v := by rw [h]; rfl
          rw [List.getElem?_drop] at h4
          simpa using h4
        have nxt : ∀ (es : Array Value) (v : Value) (r : List Value), es.toList.drop i = v :: r → es.toList.drop (i + 1) = r := by
          intro es v r h
          rw [← List.drop_drop, h]; rfl
        simp only [List.map_cons] at hc hd
        have e1 := cell cs _ _ hc
        have e2 := cell ds _ _ hd
        have ih := eqFields_ints d cs ds fs (i + 1) l h4 (by simpa using hl) (nxt cs _ _ hc) (nxt ds _ _ hd)
        have p1 : (part f.type cs f.offset).run P w = .ok (.int u.1 u.2.1) w := by
          simp only [part, Sem.run_bind, r_isAgg hu, Result.andThen_ok, hag, h1]
          simp [e1]
        have p2 : (part f.type ds f.offset).run P w = .ok (.int u.1 u.2.2) w := by
          simp only [part, Sem.run_bind, r_isAgg hu, Result.andThen_ok, hag, h1]
          simp [e2]
        simp only [Op.eqFields]
        rw [if_pos (by simpa using h2)]
        simp only [Sem.run_bind, p1, p2, Result.andThen_ok, run_equalIn_int w d f.type u.1 kd u.2.1 u.2.2 hu, List.all_cons]
        cases hb : (u.2.1 == u.2.2)
        · simp
        · simp only [Bool.not_true, Bool.false_eq_true, if_false, Bool.true_and]
          exact ih

theorem eqItems_ints (d : Nat) {e : TypeId} {kd kd' : IntKind} (hu : P.underlying e = some (.int kd')) (hs : P.cellsOf e = 1) (cs ds : Array Value) : ∀ (n i : Nat) (l l' : List Int), l.length = n → l'.length = n →
    (∀ j (h : j < l.length), cs[i + j]? = some (.int kd l[j])) → (∀ j (h : j < l'.length), ds[i + j]? = some (.int kd l'[j])) →
    (Op.eqItems (d + 1) e (P.cellsOf e) cs ds (List.range' i n)).run P w = .ok (l == l') w
  | 0, i, l, l', h1, h2, _, _ => by
    rw [List.eq_nil_of_length_eq_zero h1, List.eq_nil_of_length_eq_zero h2]
    simp [Op.eqItems]
  | n + 1, i, [], l', h1, h2, _, _ => by simp at h1
  | n + 1, i, a :: l, [], h1, h2, _, _ => by simp at h2
  | n + 1, i, a :: l, b :: l', h1, h2, h3, h4 => by
    have hag : aggT P e = false := by simp [aggT, hu]
    have e1 : cs[i]? = some (.int kd a) := h3 0 (by simp)
    have e2 : ds[i]? = some (.int kd b) := h4 0 (by simp)
    have ih := eqItems_ints d hu hs cs ds n (i + 1) l l' (by simpa using h1) (by simpa using h2)
      (fun j h => by have := h3 (j + 1) (by simpa using h); simpa [Nat.add_assoc, Nat.add_comm 1 j] using this)
      (fun j h => by have := h4 (j + 1) (by simpa using h); simpa [Nat.add_assoc, Nat.add_comm 1 j] using this)
    have p1 : (part e cs (i * P.cellsOf e)).run P w = .ok (.int kd a) w := by
      simp only [part, Sem.run_bind, r_isAgg hu, Result.andThen_ok, hag, hs, Nat.mul_one]
      simp [e1]
    have p2 : (part e ds (i * P.cellsOf e)).run P w = .ok (.int kd b) w := by
      simp only [part, Sem.run_bind, r_isAgg hu, Result.andThen_ok, hag, hs, Nat.mul_one]
      simp [e2]
    simp only [List.range'_succ, Op.eqItems, Sem.run_bind, p1, p2, Result.andThen_ok, run_equalIn_int w d e kd kd' a b hu]
    have hab : ((a :: l) == (b :: l')) = (a == b && (l == l')) := rfl
    rw [hab]
    cases hb : (a == b)
    · simp
    · simp only [Bool.not_true, Bool.false_eq_true, if_false, Bool.true_and]
      exact ih

theorem elems_ints {kd : IntKind} {l : List Int} {cs : Array Value} (h : Elems K (.int kd) l cs 0) (j : Nat) (hj : j < l.length) : cs[j]? = some (.int kd l[j]) := by
  have := h j hj
  have h1 : slab cs (0 + j * 1) 1 = [Value.int kd l[j]] := this
  have h2 := slab_get (cs := cs) (o := 0 + j * 1) (n := 1) (j := 0) (by omega)
  rw [h1] at h2
  simpa using h2.symm

theorem bin_run {op : BinOp} {t : TypeId} {a b : AVal} {x y : Value} {ox oy : Operand} {kk : AVal → Prop} (hx : Rep K H a x) (hy : Rep K H b y) (h : binA P op t a b kk) :
    ∃ v z, kk v ∧ Rep K H v z ∧ (do eqGuard op t ox oy x y; binOp op t x y : Sem Value).run P w = .ok z w := by
  unfold binA at h
  split at h
  · rename_i ka na kb nb
    have hx := rep_int hx
    have hy := rep_int hy
    subst hx hy
    have hg : ∀ z, (binOp op t (.int ka na) (.int kb nb)).run P w = .ok z w → (do eqGuard op t ox oy (.int ka na) (.int kb nb); binOp op t (.int ka na) (.int kb nb) : Sem Value).run P w = .ok z w := by
      intro z hz
      have h1 : (eqGuard op t ox oy (.int ka na) (.int kb nb)).run P w = .ok () w := by
        cases op <;> simp [eqGuard]
      simp only [Sem.run_bind, h1, Result.andThen_ok, hz]
    split at h
    · obtain ⟨h1, h2⟩ := h
      refine ⟨_, .int ka (shlA ka na nb), h2, by simp [Rep], hg _ ?_⟩
      simp [binOp, Op.shift, shlA, Int.not_lt.2 h1]
    · obtain ⟨h1, h2⟩ := h
      refine ⟨_, .int ka (shrA ka na nb), h2, by simp [Rep], hg _ ?_⟩
      simp [binOp, Op.shift, shrA, Int.not_lt.2 h1]
    · rename_i hs1 hs2
      split at h
      · rename_i hkk
        subst hkk
        cases op <;> simp only at h <;> (try exact absurd h id)
        case add => exact ⟨_, .int ka (na + nb), h.2, by simp [Rep], hg _ (by have e : ka.wrap (na + nb) = na + nb := h.1; simp [binOp, Op.intArith, e])⟩
        case sub => exact ⟨_, .int ka (na - nb), h.2, by simp [Rep], hg _ (by have e : ka.wrap (na - nb) = na - nb := h.1; simp [binOp, Op.intArith, e])⟩
        case mul => exact ⟨_, .int ka (na * nb), h.2, by simp [Rep], hg _ (by have e : ka.wrap (na * nb) = na * nb := h.1; simp [binOp, Op.intArith, e])⟩
        case quo =>
          obtain ⟨⟨h1, h2, h3⟩, h4⟩ := h
          have e : ka.wrap (na.tdiv nb) = na / nb := by rw [Int.tdiv_eq_ediv_of_nonneg h1]; exact h3
          have hne : nb ≠ 0 := by omega
          exact ⟨_, .int ka (na / nb), h4, by simp [Rep], hg _ (by simp [binOp, Op.intDiv, hne, e])⟩
        case rem =>
          obtain ⟨⟨h1, h2⟩, h4⟩ := h
          have e : na.tmod nb = na % nb := Int.tmod_eq_emod_of_nonneg h1
          have hne : nb ≠ 0 := by omega
          exact ⟨_, .int ka (na % nb), h4, by simp [Rep], hg _ (by simp [binOp, Op.intDiv, hne, e])⟩
        case and => exact ⟨_, .int ka (bitsA .and ka na nb), h, by simp [Rep], hg _ (by simp [binOp, Op.intBits, bitsA])⟩
        case or => exact ⟨_, .int ka (bitsA .or ka na nb), h, by simp [Rep], hg _ (by simp [binOp, Op.intBits, bitsA])⟩
        case xor => exact ⟨_, .int ka (bitsA .xor ka na nb), h, by simp [Rep], hg _ (by simp [binOp, Op.intBits, bitsA])⟩
        case andNot => exact ⟨_, .int ka (bitsA .andNot ka na nb), h, by simp [Rep], hg _ (by simp [binOp, Op.intBits, bitsA])⟩
        case eql => exact ⟨_, _, h, by simp [Rep]; rfl, hg _ (by simp [binOp, Op.intCmp])⟩
        case neq => exact ⟨_, .bool (na != nb), h, by simp [Rep], hg _ (by simp [binOp, Op.intCmp])⟩
        case lss => exact ⟨_, .bool (decide (na < nb)), h, by simp [Rep], hg _ (by simp [binOp, Op.intCmp])⟩
        case leq => exact ⟨_, .bool (decide (na ≤ nb)), h, by simp [Rep], hg _ (by simp [binOp, Op.intCmp])⟩
        case gtr => exact ⟨_, .bool (decide (na > nb)), h, by simp [Rep], hg _ (by simp [binOp, Op.intCmp])⟩
        case geq => exact ⟨_, .bool (decide (na ≥ nb)), h, by simp [Rep], hg _ (by simp [binOp, Op.intCmp])⟩
      · exact absurd h id
  · rename_i p q
    have hx := rep_bool hx
    have hy := rep_bool hy
    subst hx hy
    split at h
    · rename_i hu
      cases op <;> simp only at h <;> (try exact absurd h id)
      case eql => exact ⟨_, .bool (p == q), h, by simp [Rep], by simp [eqGuard, binOp, Op.equal, Op.maxDepth, run_equalIn_bool w 9999 t p q hu]⟩
      case neq => exact ⟨_, .bool (!(p == q)), h, by simp [Rep], by simp [eqGuard, binOp, Op.equal, Op.maxDepth, run_equalIn_bool w 9999 t p q hu]⟩
    · exact absurd h id
  · rename_i xs ys
    split at h
    · rename_i hT
      split at h
      · rename_i e he
        simp only [Rep] at hx hy
        obtain ⟨cs, rfl, hc⟩ := hx
        obtain ⟨ds, rfl, hd⟩ := hy
        obtain ⟨l, h1, h2, h3⟩ := eqCells_run _ _ _ he _ _ hc hd
        unfold intsT at hT
        split at hT
        · rename_i fs hu
          simp only [Bool.and_eq_true, Bool.not_eq_true', decide_eq_true_eq] at hT
          obtain ⟨⟨⟨g1, g2⟩, g3⟩, g4⟩ := hT
          have hfo : P.fieldsOf t = fs := by simp [Program.fieldsOf, hu]
          have hlen : fs.toList.length = l.length := by
            have := RepL.length hc
            rw [h1] at this
            simp at this ⊢
            omega
          have heq := eqFields_ints (P := P) (w := w) 9998 cs ds fs.toList 0 l g4 hlen (by simpa using h1) (by simpa using h2)
          have hrun : (Op.equal t (.agg cs) (.agg ds)).run P w = .ok e w := by
            unfold Op.equal Op.maxDepth
            rw [run_equalIn_struct w 9999 t cs ds (by rw [hfo]; exact hu) g2, hfo, heq, h3]
          have hgd : ∀ op, (eqGuard op t ox oy (.agg cs) (.agg ds)).run P w = .ok () w := fun op => run_eqGuard_agg w op t ox oy cs ds g3
          cases op <;> simp only at h <;> (try exact absurd h id)
          case eql => exact ⟨_, .bool e, h, by simp [Rep], by simp [hgd, binOp, hrun]⟩
          case neq => exact ⟨_, .bool (!e), h, by simp [Rep], by simp [hgd, binOp, hrun]⟩
        · cases hT
      · exact absurd h id
    · exact absurd h id
  · rename_i tx lx ty ly
    split at h
    · rename_i hT
      obtain ⟨hT, rfl⟩ := hT
      split at h
      · rename_i l l' hl hl'
        cases tx <;> simp only [intList] at hl hl' <;> (try cases hl)
        rename_i kd
        cases hl'
        obtain ⟨hn1, hn2, h⟩ := h
        simp only [Rep] at hx hy
        obtain ⟨cs, rfl, hc, hc2⟩ := hx
        obtain ⟨ds, rfl, hd, hd2⟩ := hy
        unfold intArrT at hT
        split at hT
        · rename_i n' e hu
          simp only [Bool.and_eq_true, Bool.not_eq_true', decide_eq_true_eq] at hT
          obtain ⟨⟨⟨g1, g2⟩, g3⟩, g4⟩ := hT
          cases hue : P.underlying e with
          | none => rw [hue] at g4; simp at g4
          | some de =>
            rw [hue] at g4
            cases de <;> simp at g4
            rename_i kd'
            obtain ⟨i, hi⟩ := under_info hue
            have hco : P.cellsOf e = 1 := by simpa [Program.cellsOf, sizeT] using g3
            have hgd : ∀ op, (eqGuard op t ox oy (.agg cs) (.agg ds)).run P w = .ok () w := fun op => run_eqGuard_agg w op t ox oy cs ds g2
            have at_ : ∀ (l0 : List Int) (es : Array Value), l0.length = arrLenT P t → Elems K (.int kd) l0 es 0 → ∀ j (h : j < l0.length), es[0 + j]? = some (.int kd l0[j]) := by
              intro l0 es _ he j hj
              rw [Nat.zero_add]
              exact elems_ints he j hj
            have heq := eqItems_ints (P := P) (w := w) 9998 hue hco cs ds (arrLenT P t) 0 l l' hn1 hn2 (at_ l cs hn1 hc2) (at_ l' ds hn2 hd2)
            have hrun : (Op.equal t (.agg cs) (.agg ds)).run P w = .ok (l == l') w := by
              unfold Op.equal Op.maxDepth
              rw [run_equalIn_array w 9999 cs ds hu hi, List.range_eq_range', g1]
              exact heq
            cases op <;> simp only at h <;> (try exact absurd h id)
            case eql => exact ⟨_, .bool (l == l'), h, by simp [Rep], by simp [hgd, binOp, hrun]⟩
            case neq => exact ⟨_, .bool (!(l == l')), h, by simp [Rep], by simp [hgd, binOp, hrun]⟩
        · cases hT
      · exact absurd h id
    · exact absurd h id
  · exact absurd h id

/-! ### one operation at a time -/

theorem upd_exec {o : Oper} {op : Op} (ho : o.op = op) (ρ : Operand → Value) : execOp ρ o = execOp ρ { o with op := op } := by
  subst ho; rfl

variable (hok : WOk F K w) (hm : MRel F K H w m) (hev : ∀ x, Rep K H (ev x) (ρ x))
include hok hm hev

theorem q_pick (o : Oper) {c a b : Operand} (ho : o.op = .pick c a b) (h : match ev c with
    | .bool t => br t (k (.pure (ev a))) (k (.pure (ev b)))
    | _ => False) : Gives P F K H w m nx k ((execOp ρ o).run P w) := by
  split at h
  · rename_i t ht
    have hc := rep_bool (ht ▸ hev c)
    rw [br_iff] at h
    simp only [execOp, ho, hc, asBool, Sem.run_bind, Sem.run_pure, Result.andThen_ok]
    cases t with
    | true => exact gives_pure hok hm (hev a) (h.1 rfl)
    | false => exact gives_pure hok hm (hev b) (h.2 rfl)
  · exact absurd h id

theorem q_nilCheck (o : Oper) {x : Operand} (ho : o.op = .nilCheck x) (h : match ev x with
    | .ptr r i => k (.pure (.ptr r i))
    | .iptr cs => k (.pure (.iptr cs))
    | .aptr r => k (.pure (.aptr r))
    | .fn (.func f) a b => k (.pure (.fn (.func f) a b))
    | _ => False) : Gives P F K H w m nx k ((execOp ρ o).run P w) := by
  have hx := hev x
  split at h
  · rename_i r i he
    rw [he] at hx
    have hx' := hx
    simp only [Rep] at hx
    obtain ⟨hd, b, _, _, e⟩ := hx
    simp only [execOp, ho, e, Sem.run_pure]
    exact gives_pure hok hm (e ▸ hx') h
  · rename_i cs he
    rw [he] at hx
    have hx' := hx
    simp only [Rep] at hx
    obtain ⟨b, off, arr, e, _⟩ := hx
    simp only [execOp, ho, e, Sem.run_pure]
    exact gives_pure hok hm (e ▸ hx') h
  · rename_i r he
    rw [he] at hx
    have hx' := hx
    simp only [Rep] at hx
    obtain ⟨hd, b, _, _, _, e⟩ := hx
    simp only [execOp, ho, e, Sem.run_pure]
    exact gives_pure hok hm (e ▸ hx') h
  · rename_i f a b he
    rw [he] at hx
    have hx' := hx
    simp only [Rep] at hx
    obtain ⟨fi, ca, e, _⟩ := hx
    simp only [execOp, ho, e, Sem.run_pure]
    exact gives_pure hok hm (e ▸ hx') h
  · exact absurd h id

theorem q_binOp (o : Oper) {op : BinOp} {t : TypeId} {x y : Operand} {u : TypeId} (ho : o.op = .binOp op t x y u) (h : binA P op t (ev x) (ev y) (fun v => k (.pure v))) :
    Gives P F K H w m nx k ((execOp ρ o).run P w) := by
  obtain ⟨v, z, h1, h2, h3⟩ := bin_run (w := w) (ox := x) (oy := y) (hev x) (hev y) h
  simp only [execOp, ho]
  rw [q_value h3]
  exact gives_pure hok hm h2 h1

theorem q_unOp (o : Oper) {op : UnOp} {t : TypeId} {x : Operand} (h : match op, ev x with
    | .not, .bool b => k (.pure (.bool (!b)))
    | .neg, .int kd n => fitsK kd (-n) ∧ k (.pure (.int kd (-n)))
    | _, _ => False) (ho : o.op = .unOp op t x) : Gives P F K H w m nx k ((execOp ρ o).run P w) := by
  split at h
  · rename_i b he
    have hx := rep_bool (he ▸ hev x)
    simp only [execOp, ho, hx, Op.unary]
    rw [q_value (x := .bool (!b)) (w' := w) (by simp)]
    exact gives_pure hok hm (by simp [Rep]) h
  · rename_i kd n he
    have hx := rep_int (he ▸ hev x)
    simp only [execOp, ho, hx, Op.unary]
    have e : kd.wrap (0 - n) = -n := by rw [Int.zero_sub]; exact h.1
    rw [q_value (x := .int kd (-n)) (w' := w) (by simp only [Op.intArith, e]; simp)]
    exact gives_pure hok hm (by simp [Rep]) h.2
  · exact absurd h id

theorem q_convert (o : Oper) {s dst : TypeId} {x : Operand} (ho : o.op = .convert s dst x) (h : match P.underlying s, P.underlying dst, ev x with
    | some _, some (.int kd), .int _ n => fitsK kd n ∧ k (.pure (.int kd n))
    | _, _, _ => False) : Gives P F K H w m nx k ((execOp ρ o).run P w) := by
  split at h
  · rename_i ds kd ki n hs hu he
    have hx := rep_int (he ▸ hev x)
    simp only [execOp, ho, hx]
    have e : kd.wrap n = n := h.1
    rw [q_value (x := .int kd n) (w' := w) ?_]
    · exact gives_pure hok hm (by simp [Rep]) h.2
    · simp only [convert, Sem.run_bind, r_under hs, r_under hu, Result.andThen_ok]
      simp [Conv.intToInt, e]
  · exact absurd h id

omit hok hm in
theorem repL_map (l : List Operand) : RepL K H (l.map ev) (l.map ρ) := by
  induction l with
  | nil => exact .nil
  | cons x l ih => exact .cons (hev x) ih

theorem q_makeFunc (o : Oper) {fn : Fn} {first cap : Array Operand} (ho : o.op = .makeFunc fn first cap) (h : k (.pure (.fn fn (first.toList.map ev) (cap.toList.map ev)))) :
    Gives P F K H w m nx k ((execOp ρ o).run P w) := by
  simp only [execOp, ho, Instr.makeFunc]
  rw [q_value (x := .func fn (first.map ρ) (cap.map ρ)) (w' := w) (by simp)]
  refine gives_pure hok hm ?_ h
  simp only [Rep]
  exact ⟨_, _, rfl, by simpa using repL_map hev first.toList, by simpa using repL_map hev cap.toList⟩

omit hok hm hev in
theorem fieldT_spec {s : TypeId} {f off size : Nat} (h : fieldT P s f = some (off, size)) : ∃ fs fl, P.underlying s = some (.struct fs) ∧ fs[f]? = some fl ∧ fl.offset = off ∧ sizeT P fl.type ≠ 0 ∧ size = sizeT P fl.type := by
  unfold fieldT at h
  split at h
  · rename_i fs hu
    split at h
    · rename_i fl hf
      split at h
      · cases h
      · rename_i hz
        simp only [Option.some.injEq, Prod.mk.injEq] at h
        exact ⟨fs, fl, hu, hf, h.1, hz, h.2.symm⟩
    · cases h
  · cases h

omit hok hm hev in
theorem sizeT_info {t : TypeId} (h : sizeT P t ≠ 0) : ∃ i, P.info? t = some i ∧ i.size = sizeT P t := by
  unfold sizeT at *
  cases hi : P.info? t with
  | none => rw [hi] at h; simp at h
  | some i => exact ⟨i, rfl, rfl⟩

omit hok hm hev in
theorem field_run {s : TypeId} {f off size : Nat} (h : fieldT P s f = some (off, size)) (b o : Nat) : (Instr.fieldAt s (.pointer (some ⟨b, o, none⟩)) f).run P w = .ok (.pointer (some ⟨b, o + off, none⟩)) w := by
  obtain ⟨fs, fl, hu, hf, rfl, hz, _⟩ := fieldT_spec h
  obtain ⟨i, hi, his⟩ := sizeT_info hz
  simp only [Instr.fieldAt, Sem.run_bind, r_under hu, Result.andThen_ok, hf, Instr.sureAddr, Sem.run_pure, fieldPlace, r_size hi]
  rw [if_neg (by rw [his]; exact hz)]
  simp [add_none]

theorem q_fieldAddr (o : Oper) {s : TypeId} {x : Operand} {f : Nat} (ho : o.op = .fieldAddr s x f) (h : match fieldT P s f, ev x with
    | some (off, _), .ptr r o => k (.pure (.ptr r (o + off)))
    | some (off, _), .iptr cs => k (.pure (.iptr (cs.drop off)))
    | some (off, _), .eptr r i j => k (.pure (.eptr r i (j + off)))
    | _, _ => False) : Gives P F K H w m nx k ((execOp ρ o).run P w) := by
  have hx := hev x
  split at h
  · rename_i off sz r o' hf he
    rw [he] at hx
    simp only [Rep] at hx
    obtain ⟨hd, b, h1, h2, e⟩ := hx
    simp only [execOp, ho, e]
    rw [q_value (field_run hf b o')]
    exact gives_pure hok hm (by simp only [Rep]; exact ⟨hd, b, h1, h2, rfl⟩) h
  · rename_i off sz cs hf he
    rw [he] at hx
    simp only [Rep] at hx
    obtain ⟨b, o', arr, e, h2, h3⟩ := hx
    simp only [execOp, ho, e]
    rw [q_value (field_run hf b o')]
    refine gives_pure hok hm ?_ h
    simp only [Rep]
    refine ⟨b, o' + off, arr, rfl, h2, ?_⟩
    have h4 := RepL.drop off h3
    have : (slab arr o' cs.length).drop off = slab arr (o' + off) (cs.drop off).length := by
      unfold slab
      rw [List.drop_take, List.drop_drop, List.length_drop]
    rw [this] at h4
    exact h4
  · rename_i off sz r i j hf he
    rw [he] at hx
    simp only [Rep] at hx
    obtain ⟨hd, b, h1, h2, e⟩ := hx
    simp only [execOp, ho, e]
    rw [q_value (field_run hf b _)]
    exact gives_pure hok hm (by simp only [Rep]; exact ⟨hd, b, h1, h2, by rw [Nat.add_assoc]⟩) h
  · exact absurd h id

theorem q_field (o : Oper) {s : TypeId} {x : Operand} {f : Nat} (ho : o.op = .field s x f) (h : match fieldT P s f, ev x with
    | some (off, _), .agg cs => (match ldA P (fillA.fldTy P s f) (cs.drop off) with
      | some v => k (.pure v)
      | none => False)
    | _, _ => False) : Gives P F K H w m nx k ((execOp ρ o).run P w) := by
  have hx := hev x
  split at h
  · rename_i off sz cs hf he
    rw [he] at hx
    simp only [Rep] at hx
    obtain ⟨arr, e, h2⟩ := hx
    obtain ⟨fs, fl, hu, hfl, ho1, hz, _⟩ := fieldT_spec hf
    have hty : fillA.fldTy P s f = fl.type := by simp [fillA.fldTy, hu, hfl]
    split at h
    · rename_i v hv
      rw [hty] at hv
      obtain ⟨z, h3, h4⟩ := part_run (P := P) (w := w) h2 hv
      simp only [execOp, ho, e]
      rw [q_value (x := z) (w' := w) ?_]
      · exact gives_pure hok hm h4 h
      · simp only [Instr.field, Sem.run_bind, r_under hu, Result.andThen_ok, hfl, asAgg, Sem.run_pure, ho1, h3]
    · exact absurd h id
  · exact absurd h id

theorem q_extract (o : Oper) {x : Operand} {i : Nat} (ho : o.op = .extract x i) (h : match ev x with
    | .tup vs => (match vs[i]? with
      | some v => k (.pure v)
      | none => False)
    | _ => False) : Gives P F K H w m nx k ((execOp ρ o).run P w) := by
  have hx := hev x
  split at h
  · rename_i vs he
    rw [he] at hx
    simp only [Rep] at hx
    obtain ⟨cs, e, h2⟩ := hx
    split at h
    · rename_i v hv
      obtain ⟨c, h3, h4⟩ := RepL.get i v h2 hv
      simp only [execOp, ho, e, Instr.extract]
      have h5 : cs[i]? = some c := by simpa using h3
      rw [q_value (x := c) (w' := w) (by rw [h5]; rfl)]
      exact gives_pure hok hm h4 h
    · exact absurd h id
  · exact absurd h id
end
end Go.Abs
end

section
/- The operations that read: lengths, loads, elements, slices of slices. -/
namespace Go.Abs
section
variable {P : Program} {F : Nat → Prop} {K : Know} {H : Nat → Option Hd} {w : World} {m : Mm} {nx : Nat} {k : Q → Prop} {ev : Operand → AVal} {ρ : Operand → Value}

theorem b_value {s : Sem Value} {x : Value} {w' : World} (h : s.run P w = .ok x w') : (do pure (Next.value (← s)) : Sem Next).run P w = .ok (.value x) w' := q_value h

/-- A builtin's run. -/
theorem call_builtin (o : Oper) {c : Call} {b : Builtin} (ho : o.op = .call c) (hc : c.callee = .builtin b) (w : World) :
    (execOp ρ o).run P w = (builtin b c.argTypes o.type (c.args.map fun | .const _ => true | _ => false) (c.args.map ρ)).run P w := by
  simp only [execOp, ho, resolve, hc, Sem.run_bind, Sem.run_pure, Result.andThen_ok, invoke]
  rfl

/-- Where a slice's elements lie. -/
theorem sl_base {hd : Hd} {ty : Ty} {l : List ty.den} {cont : ContRel K H w hd (.sl ty l)} {i : Nat} (hi : i < l.length) : ∃ b cs e fz, hd.base = some b ∧ w.heap[b]? = some (.cells cs e fz) ∧ hd.cap * ty.size ≤ cs.size ∧ Elems K ty l cs 0 := by
  obtain ⟨h1, h2, h3, h4⟩ := cont
  rcases h4 with ⟨_, h4⟩ | h4
  · omega
  · exact h4

theorem cells_drop_slab {ty : Ty} {l : List ty.den} {cs : Array Value} (he : Elems K ty l cs 0) {i : Nat} (hi : i < l.length) (j : Nat) :
    RepL K H ((ty.cells l[i]).drop j) (slab cs (i * ty.size + j) ((ty.cells l[i]).drop j).length) := by
  have h := repL_cells (H := H) ty _ _ (he i hi)
  have h2 := RepL.drop j h
  have : (slab cs (0 + i * ty.size) ty.size).drop j = slab cs (i * ty.size + j) ((ty.cells l[i]).drop j).length := by
    unfold slab
    rw [List.drop_take, List.drop_drop, List.length_drop, Ty.cells_length, Nat.zero_add]
  rw [this] at h2
  exact h2

variable (hok : WOk F K w) (hm : MRel F K H w m) (hev : ∀ x, Rep K H (ev x) (ρ x))
include hok hm hev

omit hev in
theorem gives_readV {r : Nat} {v : AVal} {z : Value} (hr : Rep K H v z) (h : readV m r v k) : Gives P F K H w m nx k (.ok (.value z) w) := by
  unfold readV at h
  split at h
  · split at h
    · split at h
      · rename_i v' rs hv
        have hrs := (view_reads m 6).1 _ _ _ hv
        obtain ⟨hmF, _⟩ := hm.freeze hok.knows rs hrs
        obtain ⟨hokF, hfix⟩ := hok.frozen hm rs hrs
        have hB : ∀ r f hd b cs e fz, (r, f) ∈ rs → H r = some hd → hd.base = some b → w.heap[b]? = some (.cells cs e fz) → (K.plus w (bases H rs)).cells b = some cs :=
          fun r f hd b cs e fz h1 h2 h3 h4 => plus_new (bases_mem h1 h2 h3) hok.knows h4
        have hx := (view_rep hm (K.le_plus w (bases H rs)) H 6).1 _ _ _ _ hv hB hr
        have hA := after_same (nx := nx) hokF hmF (r :: nums rs) hx
        exact ⟨_, _, H, h, ⟨(K.le_plus w (bases H rs)).trans hA.le, hA.hle, hA.hnew, hA.rep, hA.mem, hA.ok, hA.kept, hfix.trans hA.fix⟩⟩
      · exact absurd h id
    · exact gives_read hok hm r hr h
  · exact gives_read hok hm r hr h

theorem q_load (o : Oper) {t : TypeId} {x : Operand} (ho : o.op = .load t x) (h : loadA P m t (ev x) k) : Gives P F K H w m nx k ((execOp ρ o).run P w) := by
  have hx := hev x
  unfold loadA at h
  split at h
  · rename_i r off he
    rw [he] at hx
    simp only [Rep] at hx
    obtain ⟨hd, b, h1, h2, e⟩ := hx
    split at h
    · rename_i cells f hmr
      split at h
      · exact absurd h id
      · rename_i hfd
        split at h
        · rename_i v hv
          obtain ⟨b', cs, e', fz, g1, g2, g3⟩ := hm.cont r _ f hd hmr hfd h1
          rw [h2] at g1; cases g1
          have g4 := RepL.drop off g3
          have hsz : (cells.drop off).length = cs.size - off := by
            have := RepL.length g3
            simp at this ⊢; omega
          obtain ⟨z, h3, h4⟩ := ld_run (P := P) g2 (off := off) (by rw [hsz, slab_all]; exact g4) hv
          simp only [execOp, ho, e, Instr.loadAt, Instr.sureAddr]
          rw [q_value (x := z) (w' := w) (by simpa using h3)]
          exact gives_readV hok hm h4 h
        · exact absurd h id
    · exact absurd h id
  · rename_i cells he
    rw [he] at hx
    simp only [Rep] at hx
    obtain ⟨b, off, arr, e, h2, h3⟩ := hx
    split at h
    · rename_i v hv
      obtain ⟨e', fz, g⟩ := hok.knows.1 b arr h2
      obtain ⟨z, h4, h5⟩ := ld_run (P := P) g h3 hv
      simp only [execOp, ho, e, Instr.loadAt, Instr.sureAddr]
      rw [q_value (x := z) (w' := w) (by simpa using h4)]
      exact gives_pure hok hm h5 h
    · exact absurd h id
  · rename_i r i j he
    rw [he] at hx
    simp only [Rep] at hx
    obtain ⟨hd, b, h1, h2, e⟩ := hx
    split at h
    · rename_i ty l f hmr
      split at h
      · exact absurd h id
      · rename_i hfd
        obtain ⟨hi, h⟩ := h
        split at h
        · rename_i v hv
          have hc := hm.cont r _ f hd hmr hfd h1
          obtain ⟨b', cs, e', fz, g1, g2, g3, g4⟩ := sl_base (cont := hc) hi
          rw [h2] at g1; cases g1
          have hsz : hd.sz = ty.size := hc.1
          obtain ⟨z, h3, h4⟩ := ld_run (P := P) g2 (cells_drop_slab (H := H) g4 hi j) hv
          simp only [execOp, ho, e, Instr.loadAt, Instr.sureAddr]
          rw [q_value (x := z) (w' := w) (by rw [hsz]; simpa using h3)]
          exact gives_read hok hm r h4 h
        · exact absurd h id
    · exact absurd h id
  · rename_i r he
    rw [he] at hx
    simp only [Rep] at hx
    obtain ⟨hd, b, h1, h2, _, e⟩ := hx
    split at h
    · rename_i ty l f n et hmr hu
      split at h
      · exact absurd h id
      · rename_i hfd
        obtain ⟨hlen, h⟩ := h
        have hc := hm.cont r _ f hd hmr hfd h1
        obtain ⟨c1, c2, c3, c4⟩ := hc
        have hbase : ∃ cs e' fz, w.heap[b]? = some (.cells cs e' fz) ∧ hd.cap * ty.size ≤ cs.size ∧ Elems K ty l cs 0 := by
          rcases c4 with ⟨c4, _⟩ | ⟨b', cs, e', fz, g1, g2, g3, g4⟩
          · rw [h2] at c4; cases c4
          · rw [h2] at g1; cases g1
            exact ⟨cs, e', fz, g2, g3, g4⟩
        obtain ⟨cs, e', fz, g2, g3, g4⟩ := hbase
        have hle : l.length * ty.size ≤ cs.size := Nat.le_trans (Nat.mul_le_mul_right _ (by omega)) g3
        have hag : aggT P t = true := by simp [aggT, hu]
        have hload := run_loadCells P g2 0 (sizeT P t) 0 #[] (by omega)
        simp only [execOp, ho, e, Instr.loadAt, Instr.sureAddr]
        rw [q_value (x := .agg (slab cs 0 (sizeT P t)).toArray) (w' := w) ?_]
        · refine gives_read hok hm r ?_ h
          simp only [Rep]
          refine ⟨_, rfl, ?_, ?_⟩
          · rw [← hlen]; simp [slab]; omega
          · intro i hi
            have := g4 i hi
            have hs : slab (slab cs 0 (sizeT P t)).toArray (0 + i * ty.size) ty.size = slab cs (0 + i * ty.size) ty.size := by
              have : slab (slab cs 0 (sizeT P t)).toArray (0 + i * ty.size) ty.size = ((slab cs 0 (sizeT P t)).drop (0 + i * ty.size)).take ty.size := by
                unfold slab; simp
              rw [this, slab_slab]
              · simp
              · rw [← hlen]
                have : (i + 1) * ty.size ≤ l.length * ty.size := Nat.mul_le_mul_right _ hi
                rw [Nat.add_mul] at this
                omega
            rw [hs]; exact this
        · simp only [Sem.run_bind, Sem.run_pure, Result.andThen_ok, loadVar, r_isAgg hu, hag, if_true, r_sizeT hu, loadCells, hload]
          simp
    · exact absurd h id
  · exact absurd h id

theorem q_len (o : Oper) {c : Call} {x : Operand} {t e : TypeId} (ho : o.op = .call c) (hc : c.callee = .builtin .len) (ha : c.args.toList = [x]) (ht : c.argTypes.toList = [t])
    (hu : P.underlying t = some (.slice e)) (h : lenA m (ev x) k) : Gives P F K H w m nx k ((execOp ρ o).run P w) := by
  have hx := hev x
  have run : ∀ a n cp, ρ x = .slice a n cp → (execOp ρ o).run P w = .ok (.value (.int .i64 (n : Int))) w := by
    intro a n cp he
    rw [call_builtin o ho hc]
    have h1 : c.args.map ρ = #[ρ x] := by
      apply Array.toList_inj.1
      simp [ha]
    have h2 : c.argTypes = #[t] := by
      apply Array.toList_inj.1
      simp [ht]
    rw [h1, h2]
    simp only [builtin]
    refine q_value ?_
    simp only [Builtin.len_, he]
    simp [r_under hu, goInt]
  unfold lenA at h
  split at h
  · rename_i he
    rw [he] at hx; simp only [Rep] at hx
    rw [run _ _ _ hx]
    exact gives_pure hok hm (by simp [Rep]) h
  · rename_i t' he
    rw [he] at hx; simp only [Rep] at hx
    rw [run _ _ _ hx]
    exact gives_pure hok hm (by simp [Rep]) h
  · rename_i t' l f he
    rw [he] at hx; simp only [Rep] at hx
    obtain ⟨base, cap, hx, _⟩ := hx
    rw [run _ _ _ hx]
    exact gives_pure hok hm (by simp [Rep]) h
  · rename_i r f he
    rw [he] at hx; simp only [Rep] at hx
    obtain ⟨hd, h1, hx, _⟩ := hx
    split at h
    · rename_i ty l g hmr
      split at h
      · exact absurd h id
      · rename_i hgd
        have hc' := hm.cont r _ g hd hmr hgd h1
        rw [run _ _ _ hx, hc'.2.1]
        exact gives_read hok hm r (by simp [Rep]) h
    · exact absurd h id
  · rename_i r lo len f he
    rw [he] at hx; simp only [Rep] at hx
    obtain ⟨hd, cap, base, h1, hx, _⟩ := hx
    rw [run _ _ _ hx]
    exact gives_pure hok hm (by simp [Rep]) h
  · exact absurd h id

omit hok hm hev in
theorem foldMax_run : ∀ (l : List AVal) (xs : List Value) (kd : IntKind) (a b : Int), RepL K H l xs → foldInt (fun x y => if y > x then y else x) kd a l = some b →
    (xs.foldlM Builtin.max2 (.int kd a)).run P w = .ok (.int kd b) w
  | [], xs, kd, a, b, h, hf => by
    rw [RepL.nil_iff.1 h]
    simp only [foldInt, Option.some.injEq] at hf
    simp [hf]
  | v :: l, xs, kd, a, b, h, hf => by
    obtain ⟨x, xs', rfl, h1, h2⟩ := h.inv
    cases v <;> simp only [foldInt] at hf <;> (try cases hf)
    rename_i k' n
    split at hf
    · rename_i hk
      subst hk
      have := rep_int h1
      subst this
      simp only [List.foldlM_cons, Sem.run_bind, Builtin.max2, Sem.run_pure, Result.andThen_ok]
      exact foldMax_run l xs' kd _ b h2 hf
    · cases hf

omit hok hm hev in
theorem foldMin_run : ∀ (l : List AVal) (xs : List Value) (kd : IntKind) (a b : Int), RepL K H l xs → foldInt (fun x y => if y < x then y else x) kd a l = some b →
    (xs.foldlM Builtin.min2 (.int kd a)).run P w = .ok (.int kd b) w
  | [], xs, kd, a, b, h, hf => by
    rw [RepL.nil_iff.1 h]
    simp only [foldInt, Option.some.injEq] at hf
    simp [hf]
  | v :: l, xs, kd, a, b, h, hf => by
    obtain ⟨x, xs', rfl, h1, h2⟩ := h.inv
    cases v <;> simp only [foldInt] at hf <;> (try cases hf)
    rename_i k' n
    split at hf
    · rename_i hk
      subst hk
      have := rep_int h1
      subst this
      simp only [List.foldlM_cons, Sem.run_bind, Builtin.min2, Sem.run_pure, Result.andThen_ok]
      exact foldMin_run l xs' kd _ b h2 hf
    · cases hf

theorem q_max (o : Oper) {c : Call} (ho : o.op = .call c) (hc : c.callee = .builtin .max) (h : match c.args.toList.map ev with
      | .int kd a :: r => (match foldInt (fun x y => if y > x then y else x) kd a r with
        | some b => k (.pure (.int kd b))
        | none => False)
      | _ => False) : Gives P F K H w m nx k ((execOp ρ o).run P w) := by
  have hl := repL_map hev c.args.toList
  split at h
  · rename_i kd a r heq
    rw [heq] at hl
    obtain ⟨x, xs, h1, h2, h3⟩ := hl.inv
    have := rep_int h2
    subst this
    split at h
    · rename_i b hb
      rw [call_builtin o ho hc]
      simp only [builtin]
      rw [q_value (x := .int kd b) (w' := w) ?_]
      · exact gives_pure hok hm (by simp [Rep]) h
      · simp only [Builtin.max_, Array.toList_map, h1]
        exact foldMax_run r xs kd a b h3 hb
    · exact absurd h id
  · exact absurd h id

theorem q_min (o : Oper) {c : Call} (ho : o.op = .call c) (hc : c.callee = .builtin .min) (h : match c.args.toList.map ev with
      | .int kd a :: r => (match foldInt (fun x y => if y < x then y else x) kd a r with
        | some b => k (.pure (.int kd b))
        | none => False)
      | _ => False) : Gives P F K H w m nx k ((execOp ρ o).run P w) := by
  have hl := repL_map hev c.args.toList
  split at h
  · rename_i kd a r heq
    rw [heq] at hl
    obtain ⟨x, xs, h1, h2, h3⟩ := hl.inv
    have := rep_int h2
    subst this
    split at h
    · rename_i b hb
      rw [call_builtin o ho hc]
      simp only [builtin]
      rw [q_value (x := .int kd b) (w' := w) ?_]
      · exact gives_pure hok hm (by simp [Rep]) h
      · simp only [Builtin.min_, Array.toList_map, h1]
        exact foldMin_run r xs kd a b h3 hb
    · exact absurd h id
  · exact absurd h id

omit hok hm hev in
theorem indexAt_run {t e : TypeId} {a : Int} {ki : IntKind} {b off len cap : Nat} (hu : P.underlying t = some (.slice e)) (hs : sizeT P e ≠ 0) (h0 : 0 ≤ a) (h1 : a.toNat < len) :
    (Instr.indexAt t (.slice (some ⟨b, off, none⟩) len cap) (.int ki a)).run P w = .ok (.pointer (some ⟨b, off + a.toNat * sizeT P e, none⟩)) w := by
  obtain ⟨i, hi, his⟩ := sizeT_info hs
  have ha : a < (len : Int) := by omega
  simp only [Instr.indexAt, Sem.run_bind, asIntOf, Sem.run_pure, Result.andThen_ok, r_under hu]
  simp [h0, ha, r_size hi, his, add_none]

theorem q_indexAddr (o : Oper) {t : TypeId} {x y : Operand} (ho : o.op = .indexAddr t x y) (h : indexAddrA P m t (ev x) (ev y) k) : Gives P F K H w m nx k ((execOp ρ o).run P w) := by
  have hx := hev x
  have hy := hev y
  unfold indexAddrA at h
  split at h
  · rename_i ki a hei
    rw [hei] at hy
    have hy := rep_int hy
    split at h
    · rename_i e hu
      split at h
      · rename_i ty l f he
        rw [he] at hx; simp only [Rep] at hx
        split at h
        · rename_i hsz
          obtain ⟨⟨h0, h1⟩, h⟩ := h
          obtain ⟨base, cap, e1, e2, _, e3⟩ := hx
          rcases e3 with e3 | ⟨b, off, arr, e3, e4, e5⟩
          · rw [e3] at h1; simp at h1
          · have hrun := indexAt_run (P := P) (w := w) (ki := ki) (b := b) (off := off) (cap := cap) hu (by rw [hsz]; have := ty.size_pos; omega) h0 h1
            simp only [execOp, ho, e1, e3, hy]
            rw [q_value hrun]
            refine gives_pure hok hm ?_ h
            simp only [Rep]
            refine ⟨b, off + a.toNat * sizeT P e, arr, rfl, e4, ?_⟩
            have := e5 a.toNat h1
            rw [Ty.cells_length, hsz]
            exact repL_cells ty _ _ this
        · exact absurd h id
      · rename_i r f he
        rw [he] at hx; simp only [Rep] at hx
        obtain ⟨hd, h2, e1, _⟩ := hx
        split at h
        · rename_i ty l g hmr
          split at h
          · rename_i hg
            obtain ⟨hsz, hgd⟩ := hg
            obtain ⟨⟨h0, h1⟩, h⟩ := h
            have hc := hm.cont r _ g hd hmr hgd h2
            obtain ⟨b, cs, e', fz, g1, g2, g3, g4⟩ := sl_base (cont := hc) h1
            have hrun := indexAt_run (P := P) (w := w) (ki := ki) (b := b) (off := 0) (len := hd.len) (cap := hd.cap) hu (by rw [hsz]; have := ty.size_pos; omega) h0 (by rw [hc.2.1]; exact h1)
            simp only [execOp, ho, e1, g1, hy, Option.map_some]
            rw [q_value hrun]
            refine gives_read hok hm r ?_ h
            simp only [Rep]
            exact ⟨hd, b, h2, g1, by rw [hc.1, hsz]; simp⟩
          · exact absurd h id
        · exact absurd h id
      · rename_i r lo len f he
        rw [he] at hx; simp only [Rep] at hx
        obtain ⟨hd, cap, base, h2, e1, e2, e3, e4, _, e6⟩ := hx
        split at h
        · rename_i ty l g hmr
          split at h
          · rename_i hg
            obtain ⟨hsz, hgd⟩ := hg
            obtain ⟨⟨h0, h1⟩, h⟩ := h
            have hc := hm.cont r _ g hd hmr hgd h2
            rcases e6 with e6 | ⟨b, e6, e7⟩
            · omega
            · have hrun := indexAt_run (P := P) (w := w) (ki := ki) (b := b) (off := lo * hd.sz) (len := len) (cap := cap) hu (by rw [hsz]; have := ty.size_pos; omega) h0 h1
              simp only [execOp, ho, e1, e7, hy]
              rw [q_value hrun]
              refine gives_read hok hm r ?_ h
              simp only [Rep]
              exact ⟨hd, b, h2, e6, by rw [hc.1, hsz, Nat.add_mul]; simp⟩
          · exact absurd h id
        · exact absurd h id
      · exact absurd h id
    · rename_i n e hu
      split at h
      · rename_i r he
        rw [he] at hx; simp only [Rep] at hx
        obtain ⟨hd, b, h2, e1, _, e2⟩ := hx
        split at h
        · rename_i ty l g hmr
          split at h
          · rename_i hg
            obtain ⟨hsz, hgd⟩ := hg
            obtain ⟨⟨h0, h1⟩, h⟩ := h
            have hc := hm.cont r _ g hd hmr hgd h2
            have hnz : sizeT P e ≠ 0 := by rw [hsz]; have := ty.size_pos; omega
            obtain ⟨i, hi, his⟩ := sizeT_info hnz
            have ha : a < (n : Int) := by omega
            simp only [execOp, ho, e2, hy]
            rw [q_value (x := .pointer (some ⟨b, a.toNat * sizeT P e, none⟩)) (w' := w) ?_]
            · refine gives_read hok hm r ?_ h
              simp only [Rep]
              exact ⟨hd, b, h2, e1, by rw [hc.1, hsz]; simp⟩
            · simp only [Instr.indexAt, Sem.run_bind, asIntOf, Sem.run_pure, Result.andThen_ok, r_under hu, Instr.sureAddr]
              simp [h0, ha, r_size hi, his, add_none]
          · exact absurd h id
        · exact absurd h id
      · exact absurd h id
    · exact absurd h id
  · exact absurd h id

theorem q_index (o : Oper) {t : TypeId} {x y : Operand} (ho : o.op = .index t x y) (h : match P.underlying t, ev x, ev y with
    | some (.array n e), .arrv ty l, .int _ a => if sizeT P e = ty.size then ∃ h : 0 ≤ a ∧ a.toNat < l.length, a.toNat < n ∧ l.length = n ∧ (match ldA P e (ty.cells (l[a.toNat]'h.2)) with
      | some v => k (.pure v)
      | none => False) else False
    | _, _, _ => False) : Gives P F K H w m nx k ((execOp ρ o).run P w) := by
  have hx := hev x
  have hy := hev y
  split at h
  · rename_i n e ty l ki a hu he hei
    rw [hei] at hy
    have hy := rep_int hy
    rw [he] at hx; simp only [Rep] at hx
    obtain ⟨cs, e1, e2, e3⟩ := hx
    split at h
    · rename_i hsz
      obtain ⟨⟨h0, h1⟩, h2, h3, h⟩ := h
      split at h
      · rename_i v hv
        have hnz : sizeT P e ≠ 0 := by rw [hsz]; have := ty.size_pos; omega
        obtain ⟨i, hi, his⟩ := sizeT_info hnz
        have ha : a < (n : Int) := by omega
        have hel := repL_cells (H := H) ty _ _ (e3 a.toNat h1)
        have hcells : RepL K H (List.replicate (a.toNat * ty.size) AVal.unk ++ ty.cells l[a.toNat] ++ List.replicate (cs.size - (a.toNat * ty.size + ty.size)) AVal.unk) cs.toList := by
          have unks : ∀ (n : Nat) (xs : List Value), xs.length = n → RepL K H (List.replicate n AVal.unk) xs := by
            intro n
            induction n with
            | zero => intro xs hx; rw [List.eq_nil_of_length_eq_zero hx]; exact .nil
            | succ n ih =>
              intro xs hx
              cases xs with
              | nil => simp at hx
              | cons x xs => exact .cons (by simp [Rep]) (ih xs (by simpa using hx))
          have hb : a.toNat * ty.size + ty.size ≤ cs.size := by
            rw [e2]
            have : (a.toNat + 1) * ty.size ≤ l.length * ty.size := Nat.mul_le_mul_right _ h1
            rw [Nat.add_mul] at this
            omega
          have hsp : cs.toList = cs.toList.take (a.toNat * ty.size) ++ slab cs (0 + a.toNat * ty.size) ty.size ++ cs.toList.drop (a.toNat * ty.size + ty.size) := by
            unfold slab
            rw [Nat.zero_add, ← List.drop_drop, List.append_assoc, List.take_append_drop, List.take_append_drop]
          rw [hsp]
          exact RepL.append (RepL.append (unks _ _ (by simp; omega)) hel) (unks _ _ (by simp))
        have hld : ∃ z, (part e cs (a.toNat * ty.size)).run P w = .ok z w ∧ Rep K H v z := by
          cases hue : P.underlying e with
          | none => simp [ldA, hue] at hv
          | some de =>
            have key : (cells : List AVal) → ldA P e (ty.cells l[a.toNat]) = some v → ldA P e (ty.cells l[a.toNat] ++ cells) = some v := by
              intro cells hv
              have hle : sizeT P e ≤ (ty.cells l[a.toNat]).length := by rw [Ty.cells_length, hsz]; exact Nat.le_refl _
              have htk : (ty.cells l[a.toNat] ++ cells).take (sizeT P e) = (ty.cells l[a.toNat]).take (sizeT P e) := by
                rw [List.take_append_of_le_length hle]
              have hne : ty.cells l[a.toNat] ≠ [] := by
                intro e0
                have := Ty.cells_length ty l[a.toNat]
                rw [e0] at this
                have := ty.size_pos
                simp at *; omega
              unfold ldA at hv ⊢
              rw [hue] at hv ⊢
              cases de <;> simp only at hv ⊢ <;> first
                | (rw [htk]
                   split at hv
                   · rename_i hc
                     rw [if_pos ?_]
                     · exact hv
                     · simp only [Bool.and_eq_true, decide_eq_true_eq, List.length_append] at hc ⊢
                       exact ⟨hc.1, by omega⟩
                   · cases hv)
                | (cases hcl : ty.cells l[a.toNat] with
                   | nil => exact absurd hcl hne
                   | cons c0 cr =>
                     rw [hcl] at hv
                     simpa using hv)
            refine part_run (cells := List.replicate (a.toNat * ty.size) AVal.unk ++ ty.cells l[a.toNat] ++ List.replicate (cs.size - (a.toNat * ty.size + ty.size)) AVal.unk) hcells ?_
            rw [List.append_assoc, List.drop_left' (by simp)]
            exact key _ hv
        obtain ⟨z, hz1, hz2⟩ := hld
        simp only [execOp, ho, e1, hy]
        rw [q_value (x := z) (w' := w) ?_]
        · exact gives_pure hok hm hz2 h
        · simp only [Instr.index, Sem.run_bind, asIntOf, Sem.run_pure, Result.andThen_ok, r_under hu]
          simp only [Sem.run_ite]
          rw [if_pos ⟨h0, ha⟩]
          simp only [Sem.run_bind, r_size hi, Result.andThen_ok, his, hsz]
          exact hz1
      · exact absurd h id
    · exact absurd h id
  · exact absurd h id
end
end Go.Abs
end

section
/- The operations that make memory: slices of slices, variables, boxes, rows, append. -/
namespace Go.Abs
section
variable {P : Program} {F : Nat → Prop} {K : Know} {H : Nat → Option Hd} {w : World} {m : Mm} {nx : Nat} {k : Q → Prop} {ev : Operand → AVal} {ρ : Operand → Value}

/-! ### slices of slices -/

theorem sliceBound_run {a : Int} {n : Nat} {ki : IntKind} {c : BoundsCode} (h0 : 0 ≤ a) (h1 : a ≤ (n : Int)) : (Instr.sliceBound (.int ki a) n c).run P w = .ok a.toNat w := by
  simp [Instr.sliceBound, asIntOf, h0, h1]

theorem slice_run {t e : TypeId} (hu : P.underlying t = some (.slice e)) {i : TypeInfo} (hi : P.info? e = some i) (base : Option Addr) (len cap : Nat) (lo hi' mx : Option Value) (l h mm : Nat)
    (hb : (Instr.sliceBounds true len cap lo hi' mx).run P w = .ok (l, h, mm) w) :
    (Instr.sliceAt t (.slice base len cap) lo hi' mx).run P w = .ok (.slice (if mm = l then base else base.map (·.add (l * i.size))) (h - l) (mm - l)) w := by
  simp only [Instr.sliceAt, Sem.run_bind, r_under hu, Result.andThen_ok, Instr.slice, hb, r_size hi]
  rfl

/-- A sub-slice of an immutable one. -/
theorem imm_slice {ty : Ty} {l : List ty.den} {f : Bool} {base : Option Addr} {cap lo hi mm : Nat} (hr : SliceRep K ty l f (.slice base l.length cap)) (h1 : lo ≤ hi) (h2 : hi ≤ l.length) (h3 : hi ≤ mm) (full : Bool) (hf : full = true → mm = hi) :
    SliceRep K ty ((l.drop lo).take (hi - lo)) full (.slice (if mm = lo then base else base.map (·.add (lo * ty.size))) (hi - lo) (mm - lo)) := by
  have hlen : ((l.drop lo).take (hi - lo)).length = hi - lo := by simp; omega
  obtain ⟨base', cap', e1, e2, e3, e4⟩ := hr
  simp only [Value.slice.injEq] at e1
  obtain ⟨rfl, _, rfl⟩ := e1
  refine ⟨_, mm - lo, by rw [hlen], by omega, fun hf' => by rw [hlen, hf hf'], ?_⟩
  by_cases hz : hi - lo = 0
  · exact .inl (List.eq_nil_of_length_eq_zero (by omega))
  · rcases e4 with e4 | ⟨b, off, arr, e4, e5, e6⟩
    · rw [e4] at h2; simp at h2; omega
    · right
      refine ⟨b, off + lo * ty.size, arr, ?_, e5, ?_⟩
      · rw [if_neg (by omega), e4]; simp [add_none]
      · intro i hi'
        rw [List.getElem_take, List.getElem_drop]
        have := e6 (lo + i) (by omega)
        rw [Nat.add_mul, ← Nat.add_assoc] at this
        exact this

/-- A sub-slice of a region. -/
theorem reg_slice {r : Nat} {f : Bool} {hd : Hd} (hh : H r = some hd) {base : Option Addr} (hb : base = hd.base.map fun b => ⟨b, 0, none⟩) (hcap : hd.base = none → hd.cap = 0) {lo hi mm : Nat} (h1 : lo ≤ hi) (h2 : hi ≤ hd.len) (h3 : hi ≤ mm) (h4 : mm ≤ hd.cap) (hf : f = true → mm = hi) :
    Rep K H (.sub r lo (hi - lo) f) (.slice (if mm = lo then base else base.map (·.add (lo * hd.sz))) (hi - lo) (mm - lo)) := by
  simp only [Rep]
  refine ⟨hd, mm - lo, _, hh, rfl, by omega, by omega, by omega, fun h => by rw [hf h], ?_⟩
  by_cases hz : mm = lo
  · left; omega
  · right
    rw [if_neg hz]
    cases hbb : hd.base with
    | none => have := hcap hbb; omega
    | some b => exact ⟨b, rfl, by rw [hb, hbb]; simp [add_none]⟩

theorem cont_cap {hd : Hd} {ty : Ty} {l : List ty.den} (h : ContRel K H w hd (.sl ty l)) : hd.base = none → hd.cap = 0 := by
  intro hb
  obtain ⟨_, _, _, h4⟩ := h
  rcases h4 with h4 | ⟨b, _, _, _, h4, _⟩
  · exact h4.2
  · rw [hb] at h4; cases h4

theorem sizeT_pos_info {e : TypeId} {ty : Ty} (h : sizeT P e = ty.size) : ∃ i, P.info? e = some i ∧ i.size = ty.size := by
  obtain ⟨i, hi, his⟩ := sizeT_info (P := P) (t := e) (by rw [h]; have := ty.size_pos; omega)
  exact ⟨i, hi, by rw [his, h]⟩

variable (hok : WOk F K w) (hm : MRel F K H w m) (hev : ∀ x, Rep K H (ev x) (ρ x))
include hok hm hev

omit hok hm in
theorem opt_int {lo : Option Operand} {kd : IntKind} {a : Int} (h : lo.map ev = some (.int kd a)) : lo.map ρ = some (.int kd a) := by
  cases lo with
  | none => simp at h
  | some x =>
    simp only [Option.map_some, Option.some.injEq] at h ⊢
    exact rep_int (h ▸ hev x)
omit hok hm hev in
theorem opt_none {lo : Option Operand} (h : lo.map ev = none) : lo.map ρ = none := by
  cases lo with
  | none => rfl
  | some x => simp at h

theorem slice_imm (o : Oper) {t e : TypeId} {x : Operand} {lo hi mx : Option Operand} (ho : o.op = .slice t x lo hi mx) (hu : P.underlying t = some (.slice e)) {ty : Ty} (hsz : sizeT P e = ty.size)
    {l : List ty.den} {f : Bool} (he : ev x = .imm ty l f) (a b : Nat) (full : Bool) (hab : a ≤ b) (hb : b ≤ l.length)
    (hbounds : ∀ cap, l.length ≤ cap → (Instr.sliceBounds true l.length cap (lo.map ρ) (hi.map ρ) (mx.map ρ)).run P w = .ok (a, b, if full = true then b else cap) w)
    {l' : List ty.den} (hl' : l' = (l.drop a).take (b - a)) (hk : k (.pure (.imm ty l' full))) : Gives P F K H w m nx k ((execOp ρ o).run P w) := by
  subst hl'
  have hx := hev x
  rw [he] at hx; simp only [Rep] at hx
  obtain ⟨i, hi', his⟩ := sizeT_pos_info hsz
  have hx' := hx
  obtain ⟨base, cap, e1, e2, e3, e4⟩ := hx
  rw [e1] at hx'
  have hrun := slice_run (P := P) (w := w) hu hi' base l.length cap _ _ _ _ _ _ (hbounds cap e2)
  simp only [execOp, ho, e1]
  rw [q_value hrun, his]
  refine gives_pure hok hm ?_ hk
  simp only [Rep]
  refine imm_slice hx' hab hb ?_ full (fun h => by rw [if_pos h])
  split <;> omega

theorem slice_reg (o : Oper) {t e : TypeId} {x : Operand} {lo hi mx : Option Operand} (ho : o.op = .slice t x lo hi mx) (hu : P.underlying t = some (.slice e)) {ty : Ty} (hsz : sizeT P e = ty.size)
    {l : List ty.den} {r : Nat} {f : Bool} {g : Flag} (he : ev x = .reg r f) (hmr : m r = some (.sl ty l, g)) (hg : g ≠ .dead) (a b : Nat) (full : Bool) (hab : a ≤ b) (hb : b ≤ l.length)
    (hbounds : ∀ cap, l.length ≤ cap → (Instr.sliceBounds true l.length cap (lo.map ρ) (hi.map ρ) (mx.map ρ)).run P w = .ok (a, b, if full = true then b else cap) w)
    {n : Nat} (hn : n = b - a) (hk : k (.read (.sub r a n full) r)) : Gives P F K H w m nx k ((execOp ρ o).run P w) := by
  subst hn
  have hx := hev x
  rw [he] at hx; simp only [Rep] at hx
  obtain ⟨hd, h1, e1, _⟩ := hx
  have hc := hm.cont r _ g hd hmr hg h1
  have hlen : hd.len = l.length := hc.2.1
  have hle : hd.len ≤ hd.cap := hc.2.2.1
  obtain ⟨i, hi', his⟩ := sizeT_pos_info hsz
  have hrun := slice_run (P := P) (w := w) hu hi' (hd.base.map fun b => ⟨b, 0, none⟩) l.length hd.cap _ _ _ _ _ _ (hbounds hd.cap (by omega))
  simp only [execOp, ho, e1, hlen]
  rw [q_value hrun, his, ← hc.1]
  refine gives_read hok hm r ?_ hk
  refine reg_slice h1 rfl (cont_cap hc) hab (by omega) ?_ ?_ ?_
  · split <;> omega
  · split <;> omega
  · intro h; rw [if_pos h]

theorem q_slice (o : Oper) {t : TypeId} {x : Operand} {lo hi mx : Option Operand} (ho : o.op = .slice t x lo hi mx) (h : sliceA P m t (ev x) (lo.map ev) (hi.map ev) (mx.map ev) k) :
    Gives P F K H w m nx k ((execOp ρ o).run P w) := by
  unfold sliceA at h
  split at h
  · rename_i hlo hhi hmx
    have rlo := opt_none (ρ := ρ) hlo
    have rhi := opt_none (ρ := ρ) hhi
    have rmx := opt_none (ρ := ρ) hmx
    split at h
    · rename_i n e r hu he
      have hx := hev x
      rw [he] at hx; simp only [Rep] at hx
      obtain ⟨hd, b, h1, h2, hcl, e1⟩ := hx
      split at h
      · rename_i ty l g hmr
        split at h
        · exact absurd h id
        · rename_i hg
          have hgd : g ≠ .dead := fun e => hg (.inl e)
          have hsz : sizeT P e = ty.size := by
            rcases Decidable.em (sizeT P e = ty.size) with h' | h'
            · exact h'
            · exact absurd (.inr h') hg
          obtain ⟨hl, h⟩ := h
          have hc := hm.cont r _ g hd hmr hgd h1
          obtain ⟨i, hi', his⟩ := sizeT_pos_info hsz
          simp only [execOp, ho, e1, rlo, rhi, rmx]
          rw [q_value (x := .slice (some ⟨b, 0, none⟩) n n) (w' := w) ?_]
          · refine gives_read hok hm r ?_ h
            simp only [Rep]
            have h3 : hd.len = n := by rw [hc.2.1, hl]
            exact ⟨hd, h1, by rw [h2, hcl, h3]; rfl, fun _ => hcl⟩
          · simp only [Instr.sliceAt, Sem.run_bind, r_under hu, Result.andThen_ok, Instr.sureAddr, Sem.run_pure, Instr.sliceBounds, r_size hi']
            simp [add_none]
      · exact absurd h id
    · exact absurd h id
  · rename_i a hlo hhi hmx
    have rlo := opt_int hev hlo
    have rhi := opt_none (ρ := ρ) hhi
    have rmx := opt_none (ρ := ρ) hmx
    have hb : ∀ (n cap : Nat), 0 ≤ a → a ≤ (n : Int) → (Instr.sliceBounds true n cap (lo.map ρ) (hi.map ρ) (mx.map ρ)).run P w = .ok (a.toNat, n, if false = true then n else cap) w := by
      intro n cap h0 h1
      rw [rlo, rhi, rmx]
      simp [Instr.sliceBounds, sliceBound_run h0 h1]
    split at h
    · rename_i e ty l f hu he
      split at h
      · rename_i hsz
        obtain ⟨⟨h0, h1⟩, h⟩ := h
        exact slice_imm hok hm hev o ho hu hsz he a.toNat l.length false (by omega) (Nat.le_refl _) (fun cap _ => hb _ cap h0 h1) (List.take_of_length_le (by simp)).symm h
      · exact absurd h id
    · rename_i e r f hu he
      split at h
      · rename_i ty l g hmr
        split at h
        · rename_i hsz
          obtain ⟨⟨h0, h1⟩, h⟩ := h
          exact slice_reg hok hm hev o ho hu hsz.1 he hmr hsz.2 a.toNat l.length false (by omega) (Nat.le_refl _) (fun cap _ => hb _ cap h0 h1) rfl h
        · exact absurd h id
      · exact absurd h id
    · exact absurd h id
  · rename_i b hlo hhi hmx
    have rlo := opt_none (ρ := ρ) hlo
    have rhi := opt_int hev hhi
    have rmx := opt_none (ρ := ρ) hmx
    have hb : ∀ (n cap : Nat), n ≤ cap → 0 ≤ b → b ≤ (n : Int) → (Instr.sliceBounds true n cap (lo.map ρ) (hi.map ρ) (mx.map ρ)).run P w = .ok (0, b.toNat, if false = true then b.toNat else cap) w := by
      intro n cap hc h0 h1
      rw [rlo, rhi, rmx]
      simp [Instr.sliceBounds, sliceBound_run (n := cap) h0 (by omega)]
    split at h
    · rename_i e ty l f hu he
      split at h
      · rename_i hsz
        obtain ⟨⟨h0, h1⟩, h⟩ := h
        exact slice_imm hok hm hev o ho hu hsz he 0 b.toNat false (by omega) (by omega) (fun cap hc => hb _ cap hc h0 h1) (by simp) h
      · exact absurd h id
    · rename_i e r f hu he
      split at h
      · rename_i ty l g hmr
        split at h
        · rename_i hsz
          obtain ⟨⟨h0, h1⟩, h⟩ := h
          exact slice_reg hok hm hev o ho hu hsz.1 he hmr hsz.2 0 b.toNat false (by omega) (by omega) (fun cap hc => hb _ cap hc h0 h1) (by simp) h
        · exact absurd h id
      · exact absurd h id
    · exact absurd h id
  · rename_i b c hlo hhi hmx
    have rlo := opt_none (ρ := ρ) hlo
    have rhi := opt_int hev hhi
    have rmx := opt_int hev hmx
    have hb : ∀ (n cap : Nat), n ≤ cap → 0 ≤ b → b ≤ (n : Int) → c = b → (Instr.sliceBounds true n cap (lo.map ρ) (hi.map ρ) (mx.map ρ)).run P w = .ok (0, b.toNat, if true = true then b.toNat else cap) w := by
      intro n cap hc h0 h1 h2
      subst h2
      rw [rlo, rhi, rmx]
      simp only [Instr.sliceBounds, Sem.run_bind, sliceBound_run (n := cap) h0 (by omega), Result.andThen_ok, sliceBound_run (a := c) (n := c.toNat) h0 (by omega)]
      simp
    split at h
    · rename_i e ty l f hu he
      split at h
      · rename_i hsz
        obtain ⟨⟨h0, h1, h2⟩, h⟩ := h
        exact slice_imm hok hm hev o ho hu hsz he 0 b.toNat true (by omega) (by omega) (fun cap hc => hb _ cap hc h0 h1 h2) (by simp) h
      · exact absurd h id
    · rename_i e r f hu he
      split at h
      · rename_i ty l g hmr
        split at h
        · rename_i hsz
          obtain ⟨⟨h0, h1, h2⟩, h⟩ := h
          exact slice_reg hok hm hev o ho hu hsz.1 he hmr hsz.2 0 b.toNat true (by omega) (by omega) (fun cap hc => hb _ cap hc h0 h1 h2) (by simp) h
        · exact absurd h id
      · exact absurd h id
    · exact absurd h id
  · rename_i a b hlo hhi hmx
    have rlo := opt_int hev hlo
    have rhi := opt_int hev hhi
    have rmx := opt_none (ρ := ρ) hmx
    have hb : ∀ (n cap : Nat), n ≤ cap → 0 ≤ a → a ≤ b → b ≤ (n : Int) → (Instr.sliceBounds true n cap (lo.map ρ) (hi.map ρ) (mx.map ρ)).run P w = .ok (a.toNat, b.toNat, if false = true then b.toNat else cap) w := by
      intro n cap hc h0 h1 h2
      rw [rlo, rhi, rmx]
      simp only [Instr.sliceBounds, Sem.run_bind, Sem.run_pure, Result.andThen_ok, sliceBound_run (a := b) (n := cap) (by omega) (by omega), sliceBound_run (a := a) (n := b.toNat) h0 (by omega)]
      simp
    split at h
    · rename_i e ty l f hu he
      split at h
      · rename_i hsz
        obtain ⟨⟨h0, h1, h2⟩, h⟩ := h
        exact slice_imm hok hm hev o ho hu hsz he a.toNat b.toNat false (by omega) (by omega) (fun cap hc => hb _ cap hc h0 h1 h2) rfl h
      · exact absurd h id
    · rename_i e r f hu he
      split at h
      · rename_i ty l g hmr
        split at h
        · rename_i hsz
          obtain ⟨⟨h0, h1, h2⟩, h⟩ := h
          exact slice_reg hok hm hev o ho hu hsz.1 he hmr hsz.2 a.toNat b.toNat false (by omega) (by omega) (fun cap hc => hb _ cap hc h0 h1 h2) rfl h
        · exact absurd h id
      · exact absurd h id
    · exact absurd h id
  · exact absurd h id
end
end Go.Abs
end

