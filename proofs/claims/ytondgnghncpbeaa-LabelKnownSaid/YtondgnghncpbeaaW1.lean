/- Part 1 of the road to this seat's statements: lemmas about a small interpreter over the model's code, and about the functions that it is used on. No condition of its own. -/
import Derived.Calls
import Derived.Laws.World
import Derived.Orders
import Derived.Scope
import Derived.Below
import Derived.KernelRfl
import Derived.Still
import Derived.Laws.Sem
import Derived.Laws.StructEq
import Derived.ChangeKeysEq

section
/- The abstract values of a small interpreter over the model's code, and what it means that a machine's value is such an abstract value. -/
namespace Go.Abs

/-- Types of plain data: what a slice's elements may be. -/
inductive Ty where
  | int (k : IntKind)
  | bool
  | slice (e : Ty)
  | pair (a b : Ty)
  deriving DecidableEq

def Ty.den : Ty → Type
  | .int _ => Int
  | .bool => Bool
  | .slice e => List e.den
  | .pair a b => a.den × b.den

def Ty.size : Ty → Nat
  | .int _ => 1
  | .bool => 1
  | .slice _ => 1
  | .pair a b => a.size + b.size

def Ty.zero : (t : Ty) → t.den
  | .int _ => (0 : Int)
  | .bool => false
  | .slice _ => []
  | .pair a b => (a.zero, b.zero)

theorem Ty.size_pos (t : Ty) : 0 < t.size := by
  induction t <;> simp [Ty.size] <;> omega

/-- What is known for good: the cells of blocks that nobody writes any more; and, of other blocks, a property that each keeps. -/
structure Know where
  cells : Nat → Option (Array Value)
  inv : Nat → Option (Obj → Prop)
  y : Option Nat

/-- The same, of an activation that may ask for rounds of this loop. -/
def Know.toY (K : Know) (y : Option Nat) : Know := { K with y := y }

structure Know.le (K K' : Know) : Prop where
  cells : ∀ b cs, K.cells b = some cs → K'.cells b = some cs
  inv : ∀ b p, K.inv b = some p → K'.inv b = some p
  y : ∀ l, K.y = some l → K'.y = some l

/-- The same, whatever loop is meant. -/
structure Know.leW (K K' : Know) : Prop where
  cells : ∀ b cs, K.cells b = some cs → K'.cells b = some cs
  inv : ∀ b p, K.inv b = some p → K'.inv b = some p
theorem Know.le.toW {K K' : Know} (h : K.le K') : K.leW K' := ⟨h.cells, h.inv⟩

theorem Know.le.refl (K : Know) : K.le K := ⟨fun _ _ h => h, fun _ _ h => h, fun _ h => h⟩
theorem Know.le.trans {A B C : Know} (h : A.le B) (k : B.le C) : A.le C :=
  ⟨fun b cs x => k.cells b cs (h.cells b cs x), fun b p x => k.inv b p (h.inv b p x), fun l x => k.y l (h.y l x)⟩
theorem Know.le.toY {A B : Know} (h : A.le B) (y : Option Nat) : (A.toY y).le (B.toY y) := ⟨h.cells, h.inv, fun _ x => x⟩

/-- A property of values that needs only what is known, and stays. -/
structure SemP where
  P : Know → Value → Prop
  mono : ∀ K K' v, K.leW K' → P K v → P K' v
  cell : ∀ K v, P K v → (∃ b, v = .map b) ∨ v = .pointer none

inductive AVal where
  | unk
  | bool (b : Bool)
  | int (k : IntKind) (n : Int)
  | nilc
  | nils (t : Ty)
  | imm (t : Ty) (l : List t.den) (full : Bool)
  | reg (r : Nat) (full : Bool)
  | sub (r : Nat) (lo len : Nat) (full : Bool)
  | ptr (r off : Nat)
  | eptr (r i off : Nat)
  | aptr (r : Nat)
  | mref (r : Nat)
  | iptr (cells : List AVal)
  | agg (cells : List AVal)
  | arrv (t : Ty) (l : List t.den)
  | tup (vs : List AVal)
  | fn (f : Fn) (first cap : List AVal)
  | nilfn
  | yieldv
  | sem (p : SemP)

/-- The kind of a map: its keys (a struct, or not; of integers), its values' kind. -/
structure MK where
  agg : Bool
  kt : Ty
  kv : IntKind
  deriving DecidableEq

/-- What a block's region holds: cells; a slice's elements; a map (each entry with its time of birth); a walk over a map. -/
inductive Cont where
  | box (cells : List AVal)
  | sl (t : Ty) (l : List t.den)
  | mp (mk : MK) (l : List (Nat × mk.kt.den × Int)) (clk : Nat)
  | it (m : Option Nat) (since : Nat) (seen : List Nat) (last : Nat)

def Cont.isCells : Cont → Bool
  | .box _ => true
  | .sl _ _ => true
  | _ => false

/-- A key's cells. -/
def Ty.vals : (t : Ty) → t.den → List Value
  | .int k, n => [Value.int k n]
  | .bool, b => [Value.bool b]
  | .slice _, _ => []
  | .pair a b, x => a.vals x.1 ++ b.vals x.2
def Ty.ints : Ty → Bool
  | .int _ => true
  | .pair a b => a.ints && b.ints
  | _ => false
def MK.key (mk : MK) (x : mk.kt.den) : Value := match mk.agg with
  | true => .agg (mk.kt.vals x).toArray
  | false => (mk.kt.vals x).headD (.bool false)
def MK.ent (mk : MK) (e : Nat × mk.kt.den × Int) : MapEntry := { key := mk.key e.2.1, val := .int mk.kv e.2.2, born := e.1 }

inductive Flag where
  | own
  | frz
  | dead
  deriving DecidableEq

/-- Where a region lies. -/
structure Hd where
  base : Option Nat
  sz : Nat
  len : Nat
  cap : Nat

/-- n cells from o on -/
def slab (cs : Array Value) (o n : Nat) : List Value := (cs.toList.drop o).take n

def ElemsBy {α : Type} (K : Know) (sz : Nat) (R : α → List Value → Prop) (l : List α) (base : Option Addr) : Prop :=
  l = [] ∨ ∃ b off arr, base = some ⟨b, off, none⟩ ∧ K.cells b = some arr ∧ ∀ i (h : i < l.length), R l[i] (slab arr (off + i * sz) sz)

def DenRep (K : Know) : (t : Ty) → t.den → List Value → Prop
  | .int k, n, cs => cs = [Value.int k n]
  | .bool, b, cs => cs = [Value.bool b]
  | .slice e, l, cs => ∃ base cap, cs = [Value.slice base l.length cap] ∧ l.length ≤ cap ∧ ElemsBy K e.size (DenRep K e) l base
  | .pair a b, x, cs => ∃ c1 c2, cs = c1 ++ c2 ∧ DenRep K a x.1 c1 ∧ DenRep K b x.2 c2

def SliceRep (K : Know) (t : Ty) (l : List t.den) (full : Bool) (v : Value) : Prop :=
  ∃ base cap, v = Value.slice base l.length cap ∧ l.length ≤ cap ∧ (full = true → cap = l.length) ∧ ElemsBy K t.size (DenRep K t) l base

def Elems (K : Know) (t : Ty) (l : List t.den) (cs : Array Value) (off : Nat) : Prop :=
  ∀ i (h : i < l.length), DenRep K t l[i] (slab cs (off + i * t.size) t.size)

mutual
def Rep (K : Know) (H : Nat → Option Hd) : AVal → Value → Prop
  | .unk, _ => True
  | .bool b, v => v = .bool b
  | .int k n, v => v = .int k n
  | .nilc, v => v = .slice none 0 0
  | .nils _, v => v = .slice none 0 0
  | .imm t l full, v => SliceRep K t l full v
  | .reg r full, v => ∃ hd, H r = some hd ∧ v = .slice (hd.base.map fun b => ⟨b, 0, none⟩) hd.len hd.cap ∧ (full = true → hd.cap = hd.len)
  | .sub r lo len full, v => ∃ hd cap base, H r = some hd ∧ v = .slice base len cap ∧ lo + cap ≤ hd.cap ∧ len ≤ cap ∧ lo + len ≤ hd.len ∧ (full = true → cap = len) ∧
      (cap = 0 ∨ ∃ b, hd.base = some b ∧ base = some ⟨b, lo * hd.sz, none⟩)
  | .ptr r off, v => ∃ hd b, H r = some hd ∧ hd.base = some b ∧ v = .pointer (some ⟨b, off, none⟩)
  | .eptr r i off, v => ∃ hd b, H r = some hd ∧ hd.base = some b ∧ v = .pointer (some ⟨b, i * hd.sz + off, none⟩)
  | .aptr r, v => ∃ hd b, H r = some hd ∧ hd.base = some b ∧ hd.cap = hd.len ∧ v = .pointer (some ⟨b, 0, none⟩)
  | .mref r, v => ∃ hd b, H r = some hd ∧ hd.base = some b ∧ v = .map (some b)
  | .iptr cells, v => ∃ b off arr, v = .pointer (some ⟨b, off, none⟩) ∧ K.cells b = some arr ∧ RepL K H cells (slab arr off cells.length)
  | .agg cells, v => ∃ cs, v = .agg cs ∧ RepL K H cells cs.toList
  | .arrv t l, v => ∃ cs, v = .agg cs ∧ cs.size = l.length * t.size ∧ Elems K t l cs 0
  | .tup vs, v => ∃ cs, v = .tuple cs ∧ RepL K H vs cs.toList
  | .fn f first cap, v => ∃ fi ca, v = .func f fi ca ∧ RepL K H first fi.toList ∧ RepL K H cap ca.toList
  | .nilfn, v => v = .nilFunc
  | .yieldv, v => ∃ l, K.y = some l ∧ v = .func (.yield l) #[] #[]
  | .sem p, v => p.P K v
def RepL (K : Know) (H : Nat → Option Hd) : List AVal → List Value → Prop
  | [], cs => cs = []
  | a :: as, cs => ∃ c cs', cs = c :: cs' ∧ Rep K H a c ∧ RepL K H as cs'
end

/-! ### growing knowledge -/

theorem ElemsBy.mono {α : Type} {K K' : Know} {sz : Nat} {R R' : α → List Value → Prop} {l : List α} {base : Option Addr}
    (hK : K.le K') (hR : ∀ x cs, R x cs → R' x cs) (h : ElemsBy K sz R l base) : ElemsBy K' sz R' l base := by
  rcases h with h | ⟨b, off, arr, h1, h2, h3⟩
  · exact .inl h
  · exact .inr ⟨b, off, arr, h1, hK.cells _ _ h2, fun i hi => hR _ _ (h3 i hi)⟩

theorem DenRep.mono {K K' : Know} (hK : K.le K') : ∀ (t : Ty) (x : t.den) (cs : List Value), DenRep K t x cs → DenRep K' t x cs
  | .int _, _, _, h => h
  | .bool, _, _, h => h
  | .slice e, l, cs, h => by
    obtain ⟨base, cap, h1, h2, h3⟩ := h
    exact ⟨base, cap, h1, h2, h3.mono hK (DenRep.mono hK e)⟩
  | .pair a b, x, cs, h => by
    obtain ⟨c1, c2, h1, h2, h3⟩ := h
    exact ⟨c1, c2, h1, DenRep.mono hK a _ _ h2, DenRep.mono hK b _ _ h3⟩

theorem SliceRep.mono {K K' : Know} (hK : K.le K') {t : Ty} {l : List t.den} {full : Bool} {v : Value} (h : SliceRep K t l full v) : SliceRep K' t l full v := by
  obtain ⟨base, cap, h1, h2, h3, h4⟩ := h
  exact ⟨base, cap, h1, h2, h3, h4.mono hK (DenRep.mono hK t)⟩

theorem Elems.mono {K K' : Know} (hK : K.le K') {t : Ty} {l : List t.den} {cs : Array Value} {off : Nat} (h : Elems K t l cs off) : Elems K' t l cs off :=
  fun i hi => DenRep.mono hK _ _ _ (h i hi)

def HLe (H H' : Nat → Option Hd) : Prop := ∀ r hd, H r = some hd → H' r = some hd
theorem HLe.refl (H : Nat → Option Hd) : HLe H H := fun _ _ h => h
theorem HLe.trans {A B C : Nat → Option Hd} (h : HLe A B) (k : HLe B C) : HLe A C := fun r hd x => k r hd (h r hd x)

mutual
theorem Rep.mono {K K' : Know} {H H' : Nat → Option Hd} (hK : K.le K') (hH : HLe H H') : ∀ (a : AVal) (v : Value), Rep K H a v → Rep K' H' a v
  | .unk, _, _ => by simp [Rep]
  | .bool _, _, h => by simpa [Rep] using h
  | .int _ _, _, h => by simpa [Rep] using h
  | .nilc, _, h => by simpa [Rep] using h
  | .nils _, _, h => by simpa [Rep] using h
  | .imm t l full, v, h => by
    simp only [Rep] at h ⊢
    exact h.mono hK
  | .reg r full, v, h => by
    simp only [Rep] at h ⊢
    obtain ⟨hd, h1, h2, h3⟩ := h
    exact ⟨hd, hH _ _ h1, h2, h3⟩
  | .sub r lo len full, v, h => by
    simp only [Rep] at h ⊢
    obtain ⟨hd, cap, base, h1, h2⟩ := h
    exact ⟨hd, cap, base, hH _ _ h1, h2⟩
  | .ptr r off, v, h => by
    simp only [Rep] at h ⊢
    obtain ⟨hd, b, h1, h2⟩ := h
    exact ⟨hd, b, hH _ _ h1, h2⟩
  | .eptr r i off, v, h => by
    simp only [Rep] at h ⊢
    obtain ⟨hd, b, h1, h2⟩ := h
    exact ⟨hd, b, hH _ _ h1, h2⟩
  | .aptr r, v, h => by
    simp only [Rep] at h ⊢
    obtain ⟨hd, b, h1, h2⟩ := h
    exact ⟨hd, b, hH _ _ h1, h2⟩
  | .mref r, v, h => by
    simp only [Rep] at h ⊢
    obtain ⟨hd, b, h1, h2⟩ := h
    exact ⟨hd, b, hH _ _ h1, h2⟩
  | .iptr cells, v, h => by
    simp only [Rep] at h ⊢
    obtain ⟨b, off, arr, h1, h2, h3⟩ := h
    exact ⟨b, off, arr, h1, hK.cells _ _ h2, RepL.mono hK hH cells _ h3⟩
  | .agg cells, v, h => by
    simp only [Rep] at h ⊢
    obtain ⟨cs, h1, h2⟩ := h
    exact ⟨cs, h1, RepL.mono hK hH cells _ h2⟩
  | .arrv t l, v, h => by
    simp only [Rep] at h ⊢
    obtain ⟨cs, h1, h2, h3⟩ := h
    exact ⟨cs, h1, h2, h3.mono hK⟩
  | .tup vs, v, h => by
    simp only [Rep] at h ⊢
    obtain ⟨cs, h1, h2⟩ := h
    exact ⟨cs, h1, RepL.mono hK hH vs _ h2⟩
  | .fn f first cap, v, h => by
    simp only [Rep] at h ⊢
    obtain ⟨fi, ca, h1, h2, h3⟩ := h
    exact ⟨fi, ca, h1, RepL.mono hK hH first _ h2, RepL.mono hK hH cap _ h3⟩
  | .nilfn, _, h => by simpa [Rep] using h
  | .yieldv, v, h => by
    simp only [Rep] at h ⊢
    obtain ⟨l, h1, h2⟩ := h
    exact ⟨l, hK.y l h1, h2⟩
  | .sem p, v, h => by
    simp only [Rep] at h ⊢
    exact p.mono _ _ _ hK.toW h
theorem RepL.mono {K K' : Know} {H H' : Nat → Option Hd} (hK : K.le K') (hH : HLe H H') : ∀ (as : List AVal) (cs : List Value), RepL K H as cs → RepL K' H' as cs
  | [], _, h => by simpa [RepL] using h
  | a :: as, cs, h => by
    simp only [RepL] at h ⊢
    obtain ⟨c, cs', h1, h2, h3⟩ := h
    exact ⟨c, cs', h1, Rep.mono hK hH a c h2, RepL.mono hK hH as cs' h3⟩
end

/-! ### lists of values -/

theorem RepL.nil {K : Know} {H : Nat → Option Hd} : RepL K H [] [] := by simp [RepL]
theorem RepL.cons {K : Know} {H : Nat → Option Hd} {a : AVal} {as : List AVal} {c : Value} {cs : List Value} (h : Rep K H a c) (h' : RepL K H as cs) : RepL K H (a :: as) (c :: cs) := by
  simp only [RepL]; exact ⟨c, cs, rfl, h, h'⟩
theorem RepL.cons_iff {K : Know} {H : Nat → Option Hd} {a : AVal} {as : List AVal} {c : Value} {cs : List Value} : RepL K H (a :: as) (c :: cs) ↔ Rep K H a c ∧ RepL K H as cs := by
  constructor
  · intro h
    simp only [RepL] at h
    obtain ⟨c', cs', h1, h2, h3⟩ := h
    simp only [List.cons.injEq] at h1
    obtain ⟨rfl, rfl⟩ := h1
    exact ⟨h2, h3⟩
  · exact fun h => .cons h.1 h.2
theorem RepL.nil_iff {K : Know} {H : Nat → Option Hd} {cs : List Value} : RepL K H [] cs ↔ cs = [] := by simp [RepL]
theorem RepL.inv {K : Know} {H : Nat → Option Hd} {a : AVal} {as : List AVal} {cs : List Value} (h : RepL K H (a :: as) cs) : ∃ c cs', cs = c :: cs' ∧ Rep K H a c ∧ RepL K H as cs' := by
  simpa only [RepL] using h

theorem RepL.length {K : Know} {H : Nat → Option Hd} : ∀ {as : List AVal} {cs : List Value}, RepL K H as cs → cs.length = as.length
  | [], cs, h => by simp [RepL.nil_iff.1 h]
  | a :: as, cs, h => by
    obtain ⟨c, cs', rfl, _, h'⟩ := h.inv
    simp [RepL.length h']

theorem RepL.get {K : Know} {H : Nat → Option Hd} : ∀ {as : List AVal} {cs : List Value} (i : Nat) (a : AVal), RepL K H as cs → as[i]? = some a → ∃ c, cs[i]? = some c ∧ Rep K H a c
  | [], _, i, a, _, h => by simp at h
  | x :: as, cs, i, a, h, hi => by
    obtain ⟨c, cs', rfl, h1, h2⟩ := h.inv
    cases i with
    | zero => simp only [List.getElem?_cons_zero, Option.some.injEq] at hi ⊢; subst hi; exact ⟨c, rfl, h1⟩
    | succ i => simp only [List.getElem?_cons_succ] at hi ⊢; exact RepL.get i a h2 hi

theorem RepL.append {K : Know} {H : Nat → Option Hd} : ∀ {as bs : List AVal} {cs ds : List Value}, RepL K H as cs → RepL K H bs ds → RepL K H (as ++ bs) (cs ++ ds)
  | [], _, cs, _, h, h' => by simpa [RepL.nil_iff.1 h] using h'
  | a :: as, bs, cs, ds, h, h' => by
    obtain ⟨c, cs', rfl, h1, h2⟩ := h.inv
    exact .cons h1 (RepL.append h2 h')

theorem RepL.split {K : Know} {H : Nat → Option Hd} : ∀ {as bs : List AVal} {cs : List Value}, RepL K H (as ++ bs) cs → ∃ c1 c2, cs = c1 ++ c2 ∧ RepL K H as c1 ∧ RepL K H bs c2
  | [], _, cs, h => ⟨[], cs, rfl, .nil, by simpa using h⟩
  | a :: as, bs, cs, h => by
    obtain ⟨c, cs', rfl, h1, h2⟩ := RepL.inv (by simpa using h)
    obtain ⟨c1, c2, rfl, h3, h4⟩ := RepL.split h2
    exact ⟨c :: c1, c2, rfl, .cons h1 h3, h4⟩

theorem RepL.drop {K : Know} {H : Nat → Option Hd} : ∀ {as : List AVal} {cs : List Value} (n : Nat), RepL K H as cs → RepL K H (as.drop n) (cs.drop n)
  | as, cs, 0, h => by simpa using h
  | [], cs, n + 1, h => by simp [RepL.nil_iff.1 h, RepL.nil]
  | a :: as, cs, n + 1, h => by
    obtain ⟨c, cs', rfl, _, h2⟩ := h.inv
    simpa using RepL.drop n h2

theorem RepL.take {K : Know} {H : Nat → Option Hd} : ∀ {as : List AVal} {cs : List Value} (n : Nat), RepL K H as cs → RepL K H (as.take n) (cs.take n)
  | as, cs, 0, h => by simp [RepL.nil]
  | [], cs, n + 1, h => by simp [RepL.nil_iff.1 h, RepL.nil]
  | a :: as, cs, n + 1, h => by
    obtain ⟨c, cs', rfl, h1, h2⟩ := h.inv
    simpa using RepL.cons h1 (RepL.take n h2)

/-! ### cells of plain data -/

theorem DenRep.length {K : Know} : ∀ (t : Ty) (x : t.den) (cs : List Value), DenRep K t x cs → cs.length = t.size
  | .int _, _, _, h => by have h : _ = _ := h; simp [h, Ty.size]
  | .bool, _, _, h => by have h : _ = _ := h; simp [h, Ty.size]
  | .slice e, l, cs, h => by obtain ⟨_, _, h, _⟩ := h; simp [h, Ty.size]
  | .pair a b, x, cs, h => by
    obtain ⟨c1, c2, rfl, h2, h3⟩ := h
    simp [Ty.size, DenRep.length a _ _ h2, DenRep.length b _ _ h3]

def Ty.cells : (t : Ty) → t.den → List AVal
  | .int k, n => [.int k n]
  | .bool, b => [.bool b]
  | .slice e, l => [.imm e l false]
  | .pair a b, x => a.cells x.1 ++ b.cells x.2

theorem Ty.cells_length : ∀ (t : Ty) (x : t.den), (t.cells x).length = t.size
  | .int _, _ => rfl
  | .bool, _ => rfl
  | .slice _, _ => rfl
  | .pair a b, x => by simp [Ty.cells, Ty.size, Ty.cells_length a, Ty.cells_length b]

theorem repL_cells {K : Know} {H : Nat → Option Hd} : ∀ (t : Ty) (x : t.den) (cs : List Value), DenRep K t x cs → RepL K H (t.cells x) cs
  | .int k, n, cs, h => by
    have h : cs = [Value.int k n] := h
    subst h
    exact .cons (by simp [Rep]) .nil
  | .bool, b, cs, h => by
    have h : cs = [Value.bool b] := h
    subst h
    exact .cons (by simp [Rep]) .nil
  | .slice e, l, cs, h => by
    obtain ⟨base, cap, rfl, h2, h3⟩ := h
    exact .cons (by simp only [Rep]; exact ⟨base, cap, rfl, h2, fun h => by simp at h, h3⟩) .nil
  | .pair a b, x, cs, h => by
    obtain ⟨c1, c2, rfl, h2, h3⟩ := h
    exact RepL.append (repL_cells a _ _ h2) (repL_cells b _ _ h3)

def takeInt (k : IntKind) : List AVal → Option (Int × List AVal)
  | .int k' n :: r => if k = k' then some (n, r) else none
  | _ => none
def takeBool : List AVal → Option (Bool × List AVal)
  | .bool b :: r => some (b, r)
  | _ => none
def takeSlice (e : Ty) : List AVal → Option (List e.den × List AVal)
  | .imm e' l _ :: r => if h : e' = e then some (h ▸ l, r) else none
  | .nils _ :: r => some ([], r)
  | _ => none
def takePair {α β : Type} (x : Option (α × List AVal)) (f : List AVal → Option (β × List AVal)) : Option ((α × β) × List AVal) :=
  match x with
  | some (x, r') => match f r' with
    | some (y, r'') => some ((x, y), r'')
    | none => none
  | none => none

/-- The datum that some cells begin with. -/
def Ty.take : (t : Ty) → List AVal → Option (t.den × List AVal)
  | .int k, as => takeInt k as
  | .bool, as => takeBool as
  | .slice e, as => takeSlice e as
  | .pair a b, as => takePair (a.take as) b.take

theorem take_rep {K : Know} {H : Nat → Option Hd} : ∀ (t : Ty) (as : List AVal) (x : t.den) (r : List AVal) (cs : List Value), t.take as = some (x, r) → RepL K H as cs →
    ∃ c1 c2, cs = c1 ++ c2 ∧ DenRep K t x c1 ∧ RepL K H r c2
  | .int k, as, x, r, cs, ht, h => by
    have ht : takeInt k as = some (x, r) := ht
    unfold takeInt at ht
    split at ht
    · rename_i k' n r'
      split at ht
      · rename_i hk
        obtain ⟨rfl, rfl⟩ := Prod.mk.inj (Option.some.inj ht)
        obtain ⟨c, cs', rfl, h1, h2⟩ := h.inv
        simp only [Rep] at h1
        subst h1
        subst hk
        exact ⟨[_], cs', rfl, rfl, h2⟩
      · simp at ht
    · simp at ht
  | .bool, as, x, r, cs, ht, h => by
    have ht : takeBool as = some (x, r) := ht
    unfold takeBool at ht
    split at ht
    · obtain ⟨rfl, rfl⟩ := Prod.mk.inj (Option.some.inj ht)
      obtain ⟨c, cs', rfl, h1, h2⟩ := h.inv
      simp only [Rep] at h1
      subst h1
      exact ⟨[_], cs', rfl, rfl, h2⟩
    · simp at ht
  | .slice e, as, x, r, cs, ht, h => by
    have ht : takeSlice e as = some (x, r) := ht
    unfold takeSlice at ht
    split at ht
    · rename_i e' l full r'
      split at ht
      · rename_i he
        subst he
        obtain ⟨rfl, rfl⟩ := Prod.mk.inj (Option.some.inj ht)
        obtain ⟨c, cs', rfl, h1, h2⟩ := h.inv
        simp only [Rep] at h1
        obtain ⟨base, cap, rfl, h3, h4, h5⟩ := h1
        exact ⟨[_], cs', rfl, ⟨base, cap, rfl, h3, h5⟩, h2⟩
      · simp at ht
    · rename_i e' r'
      obtain ⟨rfl, rfl⟩ := Prod.mk.inj (Option.some.inj ht)
      obtain ⟨c, cs', rfl, h1, h2⟩ := h.inv
      simp only [Rep] at h1
      subst h1
      exact ⟨[_], cs', rfl, ⟨none, 0, rfl, Nat.le_refl _, .inl rfl⟩, h2⟩
    · simp at ht
  | .pair a b, as, x, r, cs, ht, h => by
    have ht : takePair (a.take as) b.take = some (x, r) := ht
    unfold takePair at ht
    split at ht
    · rename_i x1 r1 h1
      split at ht
      · rename_i x2 r2 h2
        obtain ⟨rfl, rfl⟩ := Prod.mk.inj (Option.some.inj ht)
        obtain ⟨c1, c2, rfl, g1, g2⟩ := take_rep a _ _ _ _ h1 h
        obtain ⟨c3, c4, rfl, g3, g4⟩ := take_rep b _ _ _ _ h2 g2
        exact ⟨c1 ++ c3, c4, by simp, ⟨c1, c3, rfl, g1, g3⟩, g4⟩
      · simp at ht
    · simp at ht

/-- A datum that takes all of some cells. -/
def Ty.whole (t : Ty) (as : List AVal) : Option t.den :=
  match t.take as with
  | some (x, []) => some x
  | _ => none

theorem whole_rep {K : Know} {H : Nat → Option Hd} {t : Ty} {as : List AVal} {x : t.den} {cs : List Value} (ht : t.whole as = some x) (h : RepL K H as cs) : DenRep K t x cs := by
  unfold Ty.whole at ht
  split at ht
  · rename_i y heq
    simp only [Option.some.injEq] at ht
    subst ht
    obtain ⟨c1, c2, rfl, h1, h2⟩ := take_rep t _ _ _ _ heq h
    rw [RepL.nil_iff.1 h2]
    simpa using h1
  · simp at ht

end Go.Abs
end

section
/- Worlds: what is kept, what is known of them, and how regions lie in them. -/
namespace Go.Abs

def Knows (K : Know) (w : World) : Prop :=
  (∀ b cs, K.cells b = some cs → ∃ e fz, w.heap[b]? = some (.cells cs e fz)) ∧ (∀ b p, K.inv b = some p → ∃ o, w.heap[b]? = some o ∧ p o)

/-- All but the heap and the count of draws is as it was, and the blocks of F are. -/
structure Kept (F : Nat → Prop) (w w' : World) : Prop where
  os : w'.os = w.os
  tape : w'.tape = w.tape
  output : w'.output = w.output
  size : w.heap.size ≤ w'.heap.size
  block : ∀ b, F b → w'.heap[b]? = w.heap[b]?
  drawn : w.drawn ≤ w'.drawn

theorem Kept.refl (F : Nat → Prop) (w : World) : Kept F w w := ⟨rfl, rfl, rfl, Nat.le_refl _, fun _ _ => rfl, Nat.le_refl _⟩
theorem Kept.trans {F : Nat → Prop} {a b c : World} (h : Kept F a b) (k : Kept F b c) : Kept F a c :=
  ⟨k.os.trans h.os, k.tape.trans h.tape, k.output.trans h.output, Nat.le_trans h.size k.size, fun i hi => (k.block i hi).trans (h.block i hi), Nat.le_trans h.drawn k.drawn⟩
theorem Kept.mono {F G : Nat → Prop} {a b : World} (h : Kept F a b) (hg : ∀ b, G b → F b) : Kept G a b :=
  ⟨h.os, h.tape, h.output, h.size, fun i hi => h.block i (hg i hi), h.drawn⟩
theorem Kept.of_heap {F : Nat → Prop} {a b c : World} (h : Kept F a b) (ho : c.os = b.os) (ht : c.tape = b.tape) (hp : c.output = b.output) (hh : c.heap = b.heap) (hd : b.drawn ≤ c.drawn) : Kept F a c :=
  ⟨ho.trans h.os, ht.trans h.tape, hp.trans h.output, hh ▸ h.size, fun i hi => hh ▸ h.block i hi, Nat.le_trans h.drawn hd⟩

def ContRel (K : Know) (H : Nat → Option Hd) (w : World) (hd : Hd) : Cont → Prop
  | .box cells => ∃ b cs e fz, hd.base = some b ∧ w.heap[b]? = some (.cells cs e fz) ∧ RepL K H cells cs.toList
  | .sl t l => hd.sz = t.size ∧ hd.len = l.length ∧ (hd.len ≤ hd.cap ∧ hd.cap ≤ 9223372036854775807) ∧
      ((hd.base = none ∧ hd.cap = 0) ∨ ∃ b cs e fz, hd.base = some b ∧ w.heap[b]? = some (.cells cs e fz) ∧ hd.cap * t.size ≤ cs.size ∧ Elems K t l cs 0)
  | .mp mk l clk => hd.sz = 0 ∧ hd.len = 0 ∧ hd.cap = 0 ∧ ∃ b, hd.base = some b ∧ w.heap[b]? = some (.map (l.map mk.ent).toArray clk)
  | .it m since seen last => hd.sz = 0 ∧ hd.len = 0 ∧ hd.cap = 0 ∧ ∃ b mb, hd.base = some b ∧ w.heap[b]? = some (.mapIter (some mb) since seen.toArray last) ∧ ∀ r, m = some r → ∃ hm, H r = some hm ∧ hm.base = some mb

/-- The frame's regions, by number. -/
abbrev Mm := Nat → Option (Cont × Flag)

structure MRel (F : Nat → Prop) (K : Know) (H : Nat → Option Hd) (w : World) (M : Mm) : Prop where
  cont : ∀ r c f hd, M r = some (c, f) → f ≠ .dead → H r = some hd → ContRel K H w hd c
  own : ∀ r c hd b, M r = some (c, .own) → H r = some hd → hd.base = some b → ¬ F b ∧ K.cells b = none ∧ K.inv b = none ∧ (c.isCells = true → ∃ cs e, w.heap[b]? = some (.cells cs e (0, 0)))
  frz : ∀ r c hd b, M r = some (c, .frz) → H r = some hd → hd.base = some b → ∃ cs, K.cells b = some cs
  inj : ∀ r r' c c' hd hd' b, M r = some (c, .own) → M r' = some (c', .own) → H r = some hd → H r' = some hd' → hd.base = some b → hd'.base = some b → r = r'

/-- What is true of the world at every time. -/
structure WOk (F : Nat → Prop) (K : Know) (w : World) : Prop where
  knows : Knows K w
  lt : ∀ b, F b → b < w.heap.size
  inv : ∀ b p, K.inv b = some p → ¬ F b
  apart : ∀ b p, K.inv b = some p → K.cells b = none

theorem lt_of_heap {w : World} {b : Nat} {o : Obj} (h : w.heap[b]? = some o) : b < w.heap.size := by
  rcases Nat.lt_or_ge b w.heap.size with h' | h'
  · exact h'
  · rw [Array.getElem?_eq_none h'] at h; cases h

theorem Knows.lt {K : Know} {w : World} (h : Knows K w) {b : Nat} {cs : Array Value} (hb : K.cells b = some cs) : b < w.heap.size := by
  obtain ⟨e, fz, h1⟩ := h.1 b cs hb
  exact lt_of_heap h1
theorem Knows.new {K : Know} {w : World} (h : Knows K w) {b : Nat} (hb : w.heap.size ≤ b) : K.cells b = none ∧ K.inv b = none := by
  constructor
  · cases hc : K.cells b with
    | none => rfl
    | some cs => have := h.lt hc; omega
  · cases hc : K.inv b with
    | none => rfl
    | some p => obtain ⟨o, h1, _⟩ := h.2 b p hc; have := lt_of_heap h1; omega

theorem ContRel.mono {K K' : Know} {H H' : Nat → Option Hd} {w w' : World} {hd : Hd} {c : Cont} (hK : K.le K') (hH : HLe H H')
    (hw : ∀ b, hd.base = some b → w'.heap[b]? = w.heap[b]?) (h : ContRel K H w hd c) : ContRel K' H' w' hd c := by
  cases c with
  | box cells =>
    obtain ⟨b, cs, e, fz, h1, h2, h3⟩ := h
    exact ⟨b, cs, e, fz, h1, by rw [hw b h1]; exact h2, RepL.mono hK hH _ _ h3⟩
  | sl t l =>
    obtain ⟨h1, h2, h3, h4⟩ := h
    refine ⟨h1, h2, h3, ?_⟩
    rcases h4 with h4 | ⟨b, cs, e, fz, g1, g2, g3, g4⟩
    · exact .inl h4
    · exact .inr ⟨b, cs, e, fz, g1, by rw [hw b g1]; exact g2, g3, g4.mono hK⟩
  | mp mk l clk =>
    obtain ⟨h1, h2, h3, b, h4, h5⟩ := h
    exact ⟨h1, h2, h3, b, h4, by rw [hw b h4]; exact h5⟩
  | it m since seen last =>
    obtain ⟨h1, h2, h3, b, mb, h4, h5, h6⟩ := h
    refine ⟨h1, h2, h3, b, mb, h4, by rw [hw b h4]; exact h5, fun r hr => ?_⟩
    obtain ⟨hm, g1, g2⟩ := h6 r hr
    exact ⟨hm, hH _ _ g1, g2⟩

/-- The blocks of all regions that are not dead lie as they did. -/
theorem MRel.world {F : Nat → Prop} {K : Know} {H : Nat → Option Hd} {w w' : World} {M : Mm} (h : MRel F K H w M)
    (hw : ∀ r c f hd b, M r = some (c, f) → f ≠ .dead → H r = some hd → hd.base = some b → w'.heap[b]? = w.heap[b]?) : MRel F K H w' M where
  cont := fun r c f hd h1 h2 h3 => (h.cont r c f hd h1 h2 h3).mono (Know.le.refl K) (HLe.refl H) (fun b hb => hw r c f hd b h1 h2 h3 hb)
  own := fun r c hd b h1 h2 h3 => by
    obtain ⟨g1, g2, g3, g4⟩ := h.own r c hd b h1 h2 h3
    exact ⟨g1, g2, g3, by rw [hw r c .own hd b h1 (by simp) h2 h3]; exact g4⟩
  frz := h.frz
  inj := h.inj

theorem base_lt {F : Nat → Prop} {K : Know} {H : Nat → Option Hd} {w : World} {M : Mm} (h : MRel F K H w M) {r : Nat} {c : Cont} {f : Flag} {hd : Hd} {b : Nat}
    (h1 : M r = some (c, f)) (h2 : f ≠ .dead) (h3 : H r = some hd) (h4 : hd.base = some b) : b < w.heap.size := by
  have := h.cont r c f hd h1 h2 h3
  cases c with
  | box cells =>
    obtain ⟨b', cs, e, fz, g1, g2, g3⟩ := this
    rw [h4] at g1; cases g1
    exact lt_of_heap g2
  | sl t l =>
    obtain ⟨_, _, _, g⟩ := this
    rcases g with ⟨g, _⟩ | ⟨b', cs, e, fz, g1, g2, _⟩
    · rw [h4] at g; cases g
    · rw [h4] at g1; cases g1
      exact lt_of_heap g2
  | mp mk l clk =>
    obtain ⟨_, _, _, b', g1, g2⟩ := this
    rw [h4] at g1; cases g1
    exact lt_of_heap g2
  | it m since seen last =>
    obtain ⟨_, _, _, b', mb, g1, g2, _⟩ := this
    rw [h4] at g1; cases g1
    exact lt_of_heap g2

/-- More is known (but of no block that is a region's own). -/
theorem MRel.know {F : Nat → Prop} {K K' : Know} {H : Nat → Option Hd} {w : World} {M : Mm} (h : MRel F K H w M) (hK : K.le K')
    (hn : ∀ r c hd b, M r = some (c, .own) → H r = some hd → hd.base = some b → K'.cells b = none ∧ K'.inv b = none) : MRel F K' H w M where
  cont := fun r c f hd h1 h2 h3 => (h.cont r c f hd h1 h2 h3).mono hK (HLe.refl H) (fun _ _ => rfl)
  own := fun r c hd b h1 h2 h3 => by
    obtain ⟨g1, g2, g3, g4⟩ := h.own r c hd b h1 h2 h3
    exact ⟨g1, (hn r c hd b h1 h2 h3).1, (hn r c hd b h1 h2 h3).2, g4⟩
  frz := fun r c hd b h1 h2 h3 => by
    obtain ⟨cs, g⟩ := h.frz r c hd b h1 h2 h3
    exact ⟨cs, hK.cells _ _ g⟩
  inj := h.inj

def upd {α : Type} (f : Nat → Option α) (r : Nat) (x : α) : Nat → Option α := fun r' => if r' = r then some x else f r'
theorem upd_same {α : Type} (f : Nat → Option α) (r : Nat) (x : α) : upd f r x r = some x := by simp [upd]
theorem upd_ne {α : Type} (f : Nat → Option α) (r r' : Nat) (x : α) (h : r' ≠ r) : upd f r x r' = f r' := by simp [upd, h]
theorem hle_upd {H : Nat → Option Hd} {r : Nat} {hd : Hd} (h : H r = none) : HLe H (upd H r hd) := by
  intro r' hd' h'
  by_cases e : r' = r
  · subst e; rw [h] at h'; cases h'
  · rw [upd_ne _ _ _ _ e]; exact h'

/-- A new region of one's own, under a number that is free. -/
theorem MRel.new {F : Nat → Prop} {K : Know} {H : Nat → Option Hd} {w : World} {M : Mm} (h : MRel F K H w M) (r : Nat) (hr : H r = none) (c : Cont) (hd : Hd)
    (hc : ContRel K (upd H r hd) w hd c)
    (hb : ∀ b, hd.base = some b → ¬ F b ∧ K.cells b = none ∧ K.inv b = none ∧ (c.isCells = true → ∃ cs e, w.heap[b]? = some (.cells cs e (0, 0))) ∧
      ∀ r' c' hd', M r' = some (c', .own) → H r' = some hd' → hd'.base ≠ some b) : MRel F K (upd H r hd) w (upd M r (c, .own)) := by
  have hH : HLe H (upd H r hd) := hle_upd hr
  refine ⟨?_, ?_, ?_, ?_⟩
  · intro r' c' f hd' h1 h2 h3
    by_cases e : r' = r
    · subst e
      rw [upd_same] at h1 h3
      cases h1; cases h3
      exact hc
    · rw [upd_ne _ _ _ _ e] at h1 h3
      exact (h.cont r' c' f hd' h1 h2 h3).mono (Know.le.refl K) hH (fun _ _ => rfl)
  · intro r' c' hd' b h1 h2 h3
    by_cases e : r' = r
    · subst e
      rw [upd_same] at h1 h2
      cases h1; cases h2
      obtain ⟨g1, g2, g3, g4, _⟩ := hb b h3
      exact ⟨g1, g2, g3, g4⟩
    · rw [upd_ne _ _ _ _ e] at h1 h2
      exact h.own r' c' hd' b h1 h2 h3
  · intro r' c' hd' b h1 h2 h3
    by_cases e : r' = r
    · subst e
      rw [upd_same] at h1
      cases h1
    · rw [upd_ne _ _ _ _ e] at h1 h2
      exact h.frz r' c' hd' b h1 h2 h3
  · intro r1 r2 c1 c2 hd1 hd2 b h1 h2 h3 h4 h5 h6
    by_cases e1 : r1 = r
    · by_cases e2 : r2 = r
      · rw [e1, e2]
      · subst e1
        rw [upd_same] at h1 h3
        cases h1; cases h3
        rw [upd_ne _ _ _ _ e2] at h2 h4
        exact absurd h6 ((hb b h5).2.2.2.2 r2 c2 hd2 h2 h4)
    · rw [upd_ne _ _ _ _ e1] at h1 h3
      by_cases e2 : r2 = r
      · subst e2
        rw [upd_same] at h2 h4
        cases h2; cases h4
        exact absurd h5 ((hb b h6).2.2.2.2 r1 c1 hd1 h1 h3)
      · rw [upd_ne _ _ _ _ e2] at h2 h4
        exact h.inj r1 r2 c1 c2 hd1 hd2 b h1 h2 h3 h4 h5 h6

/-- A flag turns: to dead; or to frozen, where the block is known. -/
theorem MRel.flag {F : Nat → Prop} {K : Know} {H : Nat → Option Hd} {w : World} {M : Mm} (h : MRel F K H w M) (r : Nat) (c : Cont) (g f : Flag) (hm : M r = some (c, g)) (hf : f ≠ .own)
    (hfz : f = .frz → g ≠ .dead ∧ ∀ hd b, H r = some hd → hd.base = some b → ∃ cs, K.cells b = some cs) :
    MRel F K H w (upd M r (c, f)) := by
  refine ⟨?_, ?_, ?_, ?_⟩
  · intro r' c' f' hd' h1 h2 h3
    by_cases e : r' = r
    · subst e
      rw [upd_same] at h1
      cases h1
      cases f with
      | own => exact absurd rfl hf
      | dead => exact absurd rfl h2
      | frz => exact h.cont r' c g hd' hm (hfz rfl).1 h3
    · rw [upd_ne _ _ _ _ e] at h1
      exact h.cont r' c' f' hd' h1 h2 h3
  · intro r' c' hd' b h1 h2 h3
    by_cases e : r' = r
    · subst e
      rw [upd_same] at h1
      cases h1
      exact absurd rfl hf
    · rw [upd_ne _ _ _ _ e] at h1
      exact h.own r' c' hd' b h1 h2 h3
  · intro r' c' hd' b h1 h2 h3
    by_cases e : r' = r
    · subst e
      rw [upd_same] at h1
      cases h1
      exact (hfz rfl).2 hd' b h2 h3
    · rw [upd_ne _ _ _ _ e] at h1
      exact h.frz r' c' hd' b h1 h2 h3
  · intro r1 r2 c1 c2 hd1 hd2 b h1 h2 h3 h4 h5 h6
    by_cases e1 : r1 = r
    · subst e1
      rw [upd_same] at h1
      cases h1
      exact absurd rfl hf
    · rw [upd_ne _ _ _ _ e1] at h1
      by_cases e2 : r2 = r
      · subst e2
        rw [upd_same] at h2
        cases h2
        exact absurd rfl hf
      · rw [upd_ne _ _ _ _ e2] at h2
        exact h.inj r1 r2 c1 c2 hd1 hd2 b h1 h2 h3 h4 h5 h6

/-- One's own region holds something else from now on, its block alone having turned. -/
theorem MRel.turn {F : Nat → Prop} {K : Know} {H : Nat → Option Hd} {w w' : World} {M : Mm} (h : MRel F K H w M) (r : Nat) (c c' : Cont) (hd : Hd) (b : Nat) (hm : M r = some (c, .own)) (hr : H r = some hd)
    (hb : hd.base = some b) (ho : ∀ b', b' ≠ b → w'.heap[b']? = w.heap[b']?) (hh : c'.isCells = true → ∃ cs e, w'.heap[b]? = some (.cells cs e (0, 0)))
    (hc : ContRel K H w' hd c') : MRel F K H w' (upd M r (c', .own)) := by
  have other : ∀ r' c'' f hd' b', M r' = some (c'', f) → f ≠ .dead → r' ≠ r → H r' = some hd' → hd'.base = some b' → b' ≠ b := by
    intro r' c'' f hd' b' h1 h2 h3 h4 h5 e
    subst e
    cases f with
    | dead => exact h2 rfl
    | own => exact h3 (h.inj r' r c'' c hd' hd b' h1 hm h4 hr h5 hb)
    | frz =>
      obtain ⟨cs, g⟩ := h.frz r' c'' hd' b' h1 h4 h5
      have := (h.own r c hd b' hm hr hb).2.1
      rw [this] at g; cases g
  refine ⟨?_, ?_, ?_, ?_⟩
  · intro r' c'' f hd' h1 h2 h3
    by_cases e : r' = r
    · subst e
      rw [upd_same] at h1
      cases h1
      rw [hr] at h3; cases h3
      exact hc
    · rw [upd_ne _ _ _ _ e] at h1
      exact (h.cont r' c'' f hd' h1 h2 h3).mono (Know.le.refl K) (HLe.refl H) (fun b' hb' => ho b' (other r' c'' f hd' b' h1 h2 e h3 hb'))
  · intro r' c'' hd' b' h1 h2 h3
    by_cases e : r' = r
    · subst e
      rw [hr] at h2; cases h2
      rw [hb] at h3; cases h3
      rw [upd_same] at h1
      cases h1
      obtain ⟨g1, g2, g3, _⟩ := h.own r' c hd b hm hr hb
      exact ⟨g1, g2, g3, hh⟩
    · rw [upd_ne _ _ _ _ e] at h1
      obtain ⟨g1, g2, g3, g4⟩ := h.own r' c'' hd' b' h1 h2 h3
      exact ⟨g1, g2, g3, by rw [ho b' (other r' c'' .own hd' b' h1 (by simp) e h2 h3)]; exact g4⟩
  · intro r' c'' hd' b' h1 h2 h3
    by_cases e : r' = r
    · subst e
      rw [upd_same] at h1
      cases h1
    · rw [upd_ne _ _ _ _ e] at h1
      exact h.frz r' c'' hd' b' h1 h2 h3
  · intro r1 r2 c1 c2 hd1 hd2 b' h1 h2 h3 h4 h5 h6
    have back : ∀ r' c'', upd M r (c', Flag.own) r' = some (c'', .own) → ∃ c3, M r' = some (c3, .own) := by
      intro r' c'' g
      by_cases e : r' = r
      · subst e; exact ⟨c, hm⟩
      · rw [upd_ne _ _ _ _ e] at g; exact ⟨c'', g⟩
    obtain ⟨d1, g1⟩ := back r1 c1 h1
    obtain ⟨d2, g2⟩ := back r2 c2 h2
    exact h.inj r1 r2 d1 d2 hd1 hd2 b' g1 g2 h3 h4 h5 h6

/-! ### rows of cells -/

theorem slab_len {cs : Array Value} {o n : Nat} (h : o + n ≤ cs.size) : (slab cs o n).length = n := by
  simp [slab]; omega
theorem slab_get {cs : Array Value} {o n j : Nat} (h : j < n) : (slab cs o n)[j]? = cs[o + j]? := by
  simp [slab, h]
theorem slab_slab {cs : Array Value} {o n p m : Nat} (h : p + m ≤ n) : ((slab cs o n).drop p).take m = slab cs (o + p) m := by
  apply List.ext_getElem?
  intro i
  by_cases hi : i < m
  · rw [List.getElem?_take_of_lt hi, List.getElem?_drop, slab_get (by omega), slab_get hi, Nat.add_assoc]
  · rw [List.getElem?_eq_none (by simp; omega), List.getElem?_eq_none (by simp [slab]; omega)]
theorem slab_le {cs : Array Value} {o n : Nat} (h : (slab cs o n).length = n) (hn : 0 < n) : o + n ≤ cs.size := by
  simp [slab] at h; omega

theorem heap_cell {w : World} {b : Nat} {cs : Array Value} {e : TypeId} {fz : Nat × Nat} (h : w.heap[b]? = some (.cells cs e fz)) (o : Nat) : w.cell? ⟨b, o, none⟩ = cs[o]? := by
  simp [World.cell?, h]

theorem add_none (b o i : Nat) : (⟨b, o, none⟩ : Addr).add i = ⟨b, o + i, none⟩ := by
  unfold Addr.add
  split
  · rename_i h; subst h; rfl
  · rfl

theorem run_loadCells (P : Program) {w : World} {b : Nat} {cs : Array Value} {e : TypeId} {fz : Nat × Nat} (h : w.heap[b]? = some (.cells cs e fz)) (o : Nat) :
    ∀ (n i : Nat) (acc : Array Value), o + i + n ≤ cs.size → (loadCellsFrom ⟨b, o, none⟩ i n acc).run P w = .ok (acc ++ (slab cs (o + i) n).toArray) w
  | 0, i, acc, _ => by simp [loadCellsFrom, slab, pure]
  | n + 1, i, acc, hn => by
    have hc : w.cell? ((⟨b, o, none⟩ : Addr).add i) = some (cs[o + i]'(by omega)) := by
      rw [add_none, heap_cell h]; simp
    have ih := run_loadCells P h o n (i + 1) (acc.push (cs[o + i]'(by omega))) (by omega)
    simp only [loadCellsFrom, bind, Sem.bind, load, Sem.run, hc]
    rw [ih]
    have hs : slab cs (o + i) (n + 1) = cs[o + i]'(by omega) :: slab cs (o + (i + 1)) n := by
      unfold slab
      rw [List.drop_eq_getElem_cons (by simp; omega), List.take_succ_cons]
      simp [Nat.add_assoc]
    rw [hs]
    simp

theorem run_load (P : Program) {w : World} {b : Nat} {cs : Array Value} {e : TypeId} {fz : Nat × Nat} (h : w.heap[b]? = some (.cells cs e fz)) (o : Nat) (v : Value) (hv : cs[o]? = some v) :
    (load ⟨b, o, none⟩).run P w = .ok v w := by
  simp [load, Sem.run, heap_cell h, hv]

/-- One block's cells are other ones; all else is as it was. -/
structure Upd (w w' : World) (b : Nat) (cs : Array Value) (e : TypeId) : Prop where
  os : w'.os = w.os
  tape : w'.tape = w.tape
  output : w'.output = w.output
  size : w'.heap.size = w.heap.size
  here : w'.heap[b]? = some (.cells cs e (0, 0))
  other : ∀ b', b' ≠ b → w'.heap[b']? = w.heap[b']?
  drawn : w'.drawn = w.drawn

theorem Upd.kept {w w' : World} {b : Nat} {cs : Array Value} {e : TypeId} (h : Upd w w' b cs e) {F : Nat → Prop} (hF : ¬ F b) : Kept F w w' :=
  ⟨h.os, h.tape, h.output, by rw [h.size]; exact Nat.le_refl _, fun b' hb => h.other b' (fun e => hF (e ▸ hb)), Nat.le_of_eq h.drawn.symm⟩
theorem Upd.refl {w : World} {b : Nat} {cs : Array Value} {e : TypeId} (h : w.heap[b]? = some (.cells cs e (0, 0))) : Upd w w b cs e :=
  ⟨rfl, rfl, rfl, rfl, h, fun _ _ => rfl, rfl⟩
theorem Upd.trans {w w' w'' : World} {b : Nat} {cs cs' : Array Value} {e : TypeId} (h : Upd w w' b cs e) (k : Upd w' w'' b cs' e) : Upd w w'' b cs' e :=
  ⟨k.os.trans h.os, k.tape.trans h.tape, k.output.trans h.output, k.size.trans h.size, k.here, fun b' hb => (k.other b' hb).trans (h.other b' hb), k.drawn.trans h.drawn⟩

theorem upd_setCell {w : World} {b : Nat} {cs : Array Value} {e : TypeId} (h : w.heap[b]? = some (.cells cs e (0, 0))) (o : Nat) (v : Value) :
    Upd w (w.setCell ⟨b, o, none⟩ v) b (cs.setIfInBounds o v) e := by
  refine ⟨rfl, rfl, rfl, by simp, ?_, ?_, rfl⟩
  · simp [World.setCell, Array.getElem?_modify, h]
  · intro b' hb
    simp only [World.setCell, Array.getElem?_modify]
    rw [if_neg (fun e => hb e.symm)]

/-- n values laid over cells from o on -/
def splice (cs : Array Value) (o : Nat) : List Value → Array Value
  | [] => cs
  | v :: vs => splice (cs.setIfInBounds o v) (o + 1) vs

theorem splice_size (o : Nat) (cs : Array Value) (vs : List Value) : (splice cs o vs).size = cs.size := by
  induction vs generalizing o cs with
  | nil => rfl
  | cons v vs ih => simp [splice, ih]

theorem splice_get (cs : Array Value) (o : Nat) (vs : List Value) (i : Nat) (h : o + vs.length ≤ cs.size) :
    (splice cs o vs)[i]? = if o ≤ i ∧ i < o + vs.length then vs[i - o]? else cs[i]? := by
  induction vs generalizing o cs with
  | nil => simp [splice]; omega
  | cons v vs ih =>
    simp only [List.length_cons] at h
    rw [splice, ih _ _ (by simp; omega)]
    by_cases h1 : o + 1 ≤ i ∧ i < o + 1 + vs.length
    · rw [if_pos h1, if_pos (by simp; omega)]
      have : i - o = (i - (o + 1)) + 1 := by omega
      rw [this, List.getElem?_cons_succ]
    · rw [if_neg h1]
      by_cases h2 : i = o
      · subst h2
        rw [if_pos (by simp)]
        have hl : i < cs.size := by omega
        simp [hl]
      · rw [if_neg (by simp; omega), Array.getElem?_setIfInBounds_ne (fun e => h2 e.symm)]

/-- a value that fills one cell -/
def one : Value → Bool
  | .agg _ => false
  | .tuple _ => false
  | _ => true

theorem run_storeCells (P : Program) (b o : Nat) (e : TypeId) : ∀ (vs : List Value) (w : World) (cs : Array Value) (i : Nat), w.heap[b]? = some (.cells cs e (0, 0)) →
    o + i + vs.length ≤ cs.size → (∀ v ∈ vs, one v = true) → ∃ w', (storeCells ⟨b, o, none⟩ vs i).run P w = .ok () w' ∧ Upd w w' b (splice cs (o + i) vs) e
  | [], w, cs, i, h, _, _ => ⟨w, by simp [storeCells, pure], by simpa [splice] using Upd.refl h⟩
  | v :: vs, w, cs, i, h, hn, ho => by
    simp only [List.length_cons] at hn
    have hc : w.cell? ((⟨b, o, none⟩ : Addr).add i) = some (cs[o + i]'(by omega)) := by
      rw [add_none, heap_cell h]; simp
    have hf : w.frozen? ((⟨b, o, none⟩ : Addr).add i) = false := by
      rw [add_none]; simp [World.frozen?, h]
    have hu := upd_setCell h (o + i) v
    obtain ⟨w', h1, h2⟩ := run_storeCells P b o e vs _ _ (i + 1) hu.here (by simp; omega) (fun v hv => ho v (by simp [hv]))
    refine ⟨w', ?_, ?_⟩
    · have hv := ho v (by simp)
      have hadd : (⟨b, o, none⟩ : Addr).add i = ⟨b, o + i, none⟩ := add_none b o i
      rw [hadd] at hc hf
      cases v <;> first
        | (simp [one] at hv; done)
        | (simp only [storeCells, bind, Sem.bind, store, Sem.run, hadd, hc, hf]; exact h1)
    · have := hu.trans h2
      simpa [splice, Nat.add_assoc] using this

end Go.Abs
end

section
/- The interpreter over abstract values: for a piece of code and an abstract state, what must be true so that the rest is. -/
namespace Go.Abs

/-! ### types -/

def tyFields (f : TypeId → Option Ty) : List Field → Nat → Option Ty
  | [], _ => none
  | a :: r, o => match r with
    | [] => if a.offset = o then f a.type else none
    | _ :: _ => if a.offset = o then (match f a.type with
      | some x => match tyFields f r (o + x.size) with
        | some y => some (.pair x y)
        | none => none
      | none => none) else none

/-- The type of plain data that a Go type is; its cells are the model's. -/
def tyOf (P : Program) : Nat → TypeId → Option Ty
  | 0, _ => none
  | d + 1, t =>
    match P.info? t, P.underlying t with
    | some i, some (.int k) => if i.size = 1 then some (.int k) else none
    | some i, some .bool => if i.size = 1 then some .bool else none
    | some i, some (.slice e) => if i.size = 1 then (match tyOf P d e with | some a => some (.slice a) | none => none) else none
    | some i, some (.struct fs) => match tyFields (tyOf P d) fs.toList 0 with
      | some a => if i.size = a.size then some a else none
      | none => none
    | _, _ => none
abbrev tyOf.fields (P : Program) (d : Nat) (fs : List Field) (o : Nat) : Option Ty := tyFields (tyOf P d) fs o

def elemTy (P : Program) (t : TypeId) : Option Ty :=
  match P.underlying t with
  | some (.slice e) => tyOf P 8 e
  | _ => none

def sizeT (P : Program) (t : TypeId) : Nat := ((P.info? t).map (·.size)).getD 0
def aggT (P : Program) (t : TypeId) : Bool :=
  match P.underlying t with
  | some (.struct _) => true
  | some (.array _ _) => true
  | _ => false

/-- The fields' places: offset and size, of a struct whose fields all have cells. -/
def fieldT (P : Program) (t : TypeId) (i : Nat) : Option (Nat × Nat) :=
  match P.underlying t with
  | some (.struct fs) => match fs[i]? with
    | some f => if sizeT P f.type = 0 then none else some (f.offset, sizeT P f.type)
    | none => none
  | _ => none

/-! ### states -/

def aget : List (Nat × AVal) → Nat → AVal
  | [], _ => .unk
  | (i, v) :: r, t => if i = t then v else aget r t

/-- The frame's memory: the newest entry of a number counts. -/
abbrev Mem := List (Nat × (Cont × Flag))
def mget : Mem → Nat → Option (Cont × Flag)
  | [], _ => none
  | (i, x) :: r, t => if i = t then some x else mget r t

inductive AExit where
  | normal
  | exit (id : Nat)
  | ret
  deriving DecidableEq

/-- The frame's state; gh: what frames that wait for this one hold; pend: in which way a round was left, if one was. -/
structure AState where
  n : Nat
  tmps : List (Nat × AVal)
  nx : Nat
  M : Mem
  gh : List AVal
  pend : Option AExit

/-- What one operation gives: its value, new regions of the frame's own, regions that are dead or frozen from now on, and those that were read. -/
structure Q where
  val : AVal
  new : List Cont
  use : List (Nat × Flag)
  reads : List Nat

def Q.pure (v : AVal) : Q := ⟨v, [], [], []⟩
def Q.read (v : AVal) (r : Nat) : Q := ⟨v, [], [], [r]⟩

def flagM (m : Mm) (u : Nat × Flag) : Mm :=
  match m u.1 with
  | some (c, _) => upd m u.1 (c, u.2)
  | none => m
def flagsM : Mm → List (Nat × Flag) → Mm
  | m, [] => m
  | m, u :: us => flagsM (flagM m u) us
def newM : Mm → Nat → List Cont → Mm
  | m, _, [] => m
  | m, n, c :: cs => newM (upd m n (c, .own)) (n + 1) cs
def Q.mm (q : Q) (n : Nat) (m : Mm) : Mm := newM (flagsM m q.use) n q.new

def flagL (M : Mem) (u : Nat × Flag) : Mem :=
  match mget M u.1 with
  | some (c, _) => (u.1, (c, u.2)) :: M
  | none => M
def flagsL : Mem → List (Nat × Flag) → Mem
  | M, [] => M
  | M, u :: us => flagsL (flagL M u) us
def newL : Mem → Nat → List Cont → Mem
  | M, _, [] => M
  | M, n, c :: cs => newL ((n, (c, .own)) :: M) (n + 1) cs
def Q.ml (q : Q) (n : Nat) (M : Mem) : Mem := newL (flagsL M q.use) n q.new

/-- The nil pointer. -/
def nilP : SemP where
  P := fun _ v => v = .pointer none
  mono := fun _ _ _ _ h => h
  cell := fun _ _ h => .inr h
def constA1 : Value → AVal
  | .pointer none => .sem nilP
  | .bool b => .bool b
  | .int k n => .int k n
  | .slice none 0 0 => .nilc
  | .nilFunc => .nilfn
  | _ => .unk
def constA : Value → AVal
  | .agg cs => .agg (cs.toList.map constA1)
  | v => constA1 v

def evA (tm : List (Nat × AVal)) : Operand → AVal
  | .tmp t => aget tm t
  | .const v => constA v
  | .global _ => .unk
  | .func f => .fn (.func f) [] []

/-- What a test says. -/
def br (b : Bool) (p q : Prop) : Prop :=
  match b with
  | true => p
  | false => q

theorem br_iff (b : Bool) (p q : Prop) : br b p q ↔ (b = true → p) ∧ (b = false → q) := by cases b <;> simp [br]
theorem br_intro {b : Bool} {p q : Prop} (h : b = true → p) (h' : b = false → q) : br b p q := (br_iff b p q).2 ⟨h, h'⟩

/-! ### the immutable view of a value -/

def dedup : List Nat → List Nat
  | [] => []
  | a :: l => if (dedup l).contains a then dedup l else a :: dedup l

def viewX (f : AVal → Option (AVal × List (Nat × Flag))) : List AVal → Option (List AVal × List (Nat × Flag))
  | [] => some ([], [])
  | v :: vs => match f v with
    | some (v', r1) => match viewX f vs with
      | some (vs', r2) => some (v' :: vs', r1 ++ r2)
      | none => none
    | none => none

/-- The value as it may be handed over for good, and the regions that are then read (those of one's own: to be frozen, if it stays). -/
def view (M : Mm) : Nat → AVal → Option (AVal × List (Nat × Flag))
  | 0, _ => none
  | d + 1, v =>
    match v with
    | .unk => some (.unk, [])
    | .bool b => some (.bool b, [])
    | .int k n => some (.int k n, [])
    | .nils t => some (.imm t [] true, [])
    | .imm t l f => some (.imm t l f, [])
    | .arrv t l => some (.arrv t l, [])
    | .nilfn => some (.nilfn, [])
    | .sem p => some (.sem p, [])
    | .mref r => some (.mref r, [])
    | .reg r f => match M r with
      | some (.sl t l, g) => if g = .dead then none else some (.imm t l f, [(r, g)])
      | _ => none
    | .sub r lo len f => match M r with
      | some (.sl t l, g) => if g = .dead then none else some (.imm t ((l.drop lo).take len) f, [(r, g)])
      | _ => none
    | .ptr r off => match M r with
      | some (.box cells, g) => if g = .dead then none else match viewX (view M d) (cells.drop off) with
        | some (cs, rs) => some (.iptr cs, (r, g) :: rs)
        | none => none
      | _ => none
    | .iptr cells => match viewX (view M d) cells with
      | some (cs, rs) => some (.iptr cs, rs)
      | none => none
    | .agg cells => match viewX (view M d) cells with
      | some (cs, rs) => some (.agg cs, rs)
      | none => none
    | .tup cells => match viewX (view M d) cells with
      | some (cs, rs) => some (.tup cs, rs)
      | none => none
    | .fn f a b => match viewX (view M d) a with
      | some (a', r1) => match viewX (view M d) b with
        | some (b', r2) => some (.fn f a' b', r1 ++ r2)
        | none => none
      | none => none
    | _ => none
abbrev view.viewL (M : Mm) (d : Nat) (vs : List AVal) : Option (List AVal × List (Nat × Flag)) := viewX (view M d) vs

def viewAll (M : Mm) (vs : List AVal) : Option (List AVal × List (Nat × Flag)) := view.viewL M 6 vs

/-- The regions of one's own among those read: frozen from now on. -/
def frzAll : List (Nat × Flag) → List (Nat × Flag)
  | [] => []
  | (r, .own) :: rs => (r, .frz) :: frzAll rs
  | _ :: rs => frzAll rs
def nums : List (Nat × Flag) → List Nat
  | [] => []
  | (r, _) :: rs => r :: nums rs

/-- The cells of a value that is stored or boxed. -/
def AVal.parts : AVal → Option (List AVal)
  | .unk => none
  | .nilc => none
  | .arrv _ _ => none
  | .tup _ => none
  | .agg cells => some cells
  | v => some [v]

def typed (P : Program) (t : TypeId) : AVal → AVal
  | .nilc => match elemTy P t with
    | some e => .nils e
    | none => .nilc
  | v => v

/-- A value that fills one cell. -/
def AVal.one : AVal → Bool
  | .unk => false
  | .agg _ => false
  | .arrv _ _ => false
  | .tup _ => false
  | _ => true

def allOne : List AVal → Bool
  | [] => true
  | v :: vs => v.one && allOne vs

def zeroA : Ty → List AVal
  | .int k => [.int k 0]
  | .bool => [.bool false]
  | .slice e => [.nils e]
  | .pair a b => zeroA a ++ zeroA b

def zeroV : Ty → List Value
  | .int k => [.int k 0]
  | .bool => [.bool false]
  | .slice _ => [.slice none 0 0]
  | .pair a b => zeroV a ++ zeroV b

/-- Is the model's zero value of a type this one? -/
def sameV : List Value → List Value → Bool
  | [], [] => true
  | .int k n :: a, .int k' n' :: b => k = k' && n = n' && sameV a b
  | .bool x :: a, .bool y :: b => x == y && sameV a b
  | .slice none 0 0 :: a, .slice none 0 0 :: b => sameV a b
  | _, _ => false

def zeroOk (P : Program) (t : TypeId) (ty : Ty) : Bool :=
  match P.info? t with
  | some i => match i.zero with
    | some v => sameV v.cells.toList (zeroV ty)
    | none => false
  | none => false

/-- A value loaded at a type out of cells. -/
def ldA (P : Program) (t : TypeId) (cells : List AVal) : Option AVal :=
  match P.underlying t with
  | none => none
  | some (.struct _) => if (P.info? t).isSome && sizeT P t ≤ cells.length then some (.agg (cells.take (sizeT P t))) else none
  | some (.array _ _) => if (P.info? t).isSome && sizeT P t ≤ cells.length then some (.agg (cells.take (sizeT P t))) else none
  | some _ => match cells with
    | v :: _ => some v
    | [] => none

def bitsA (op : BinOp) (k : IntKind) (x y : Int) : Int :=
  match op with
  | .and => k.wrap (BitVec.ofInt k.bits x &&& BitVec.ofInt k.bits y).toNat
  | .or => k.wrap (BitVec.ofInt k.bits x ||| BitVec.ofInt k.bits y).toNat
  | .xor => k.wrap (BitVec.ofInt k.bits x ^^^ BitVec.ofInt k.bits y).toNat
  | .andNot => k.wrap (BitVec.ofInt k.bits x &&& ~~~ BitVec.ofInt k.bits y).toNat
  | _ => 0

def shlA (k : IntKind) (x y : Int) : Int := k.wrap (x * 2 ^ (min y.toNat k.bits))
def shrA (k : IntKind) (x y : Int) : Int := x.fdiv (2 ^ (min y.toNat k.bits))

def eqCells : List AVal → List AVal → Option Bool
  | [], [] => some true
  | [.int k a], [.int k' b] => if k = k' then some (a == b) else none
  | .int k a :: r, .int k' b :: s => if k = k' then (match eqCells r s with
    | some e => some (a == b && e)
    | none => none) else none
  | _, _ => none

/-- A struct type all of whose fields are integers, one cell each, none of them blank, at their places. -/
def intsT (P : Program) (t : TypeId) (n : Nat) : Bool :=
  match P.underlying t with
  | some (.struct fs) => fs.size = n && !P.stoodInHeld t && !P.eqGuardType P.depth t && go fs.toList 0
  | _ => false
where
  go : List Field → Nat → Bool
    | [], _ => true
    | f :: r, i => f.offset = i && f.name ≠ "_" && (match P.underlying f.type with | some (.int _) => true | _ => false) && go r (i + 1)

/-- An array type of integers of one cell each. -/
def intArrT (P : Program) (t : TypeId) (n : Nat) : Bool :=
  match P.underlying t with
  | some (.array n' e) => n' = n && !P.eqGuardType P.depth t && sizeT P e = 1 && (match P.underlying e with | some (.int _) => true | _ => false)
  | _ => false

def intList : (t : Ty) → List t.den → Option (List Int)
  | .int _, l => some l
  | _, _ => none

def arrLenT (P : Program) (t : TypeId) : Nat :=
  match P.underlying t with
  | some (.array n _) => n
  | _ => 0

/-- A number that needs no wrapping. -/
def fitsK (k : IntKind) (n : Int) : Prop := k.wrap n = n

def binA (P : Program) (op : BinOp) (t : TypeId) (x y : AVal) (k : AVal → Prop) : Prop :=
  match x, y with
  | .int ka a, .int kb b =>
    match op with
    | .shl => 0 ≤ b ∧ k (.int ka (shlA ka a b))
    | .shr => 0 ≤ b ∧ k (.int ka (shrA ka a b))
    | _ => if ka = kb then (match op with
      | .add => fitsK ka (a + b) ∧ k (.int ka (a + b))
      | .sub => fitsK ka (a - b) ∧ k (.int ka (a - b))
      | .mul => fitsK ka (a * b) ∧ k (.int ka (a * b))
      | .quo => (0 ≤ a ∧ 0 < b ∧ fitsK ka (a / b)) ∧ k (.int ka (a / b))
      | .rem => (0 ≤ a ∧ 0 < b) ∧ k (.int ka (a % b))
      | .and => k (.int ka (bitsA .and ka a b))
      | .or => k (.int ka (bitsA .or ka a b))
      | .xor => k (.int ka (bitsA .xor ka a b))
      | .andNot => k (.int ka (bitsA .andNot ka a b))
      | .eql => k (.bool (a == b))
      | .neq => k (.bool (a != b))
      | .lss => k (.bool (decide (a < b)))
      | .leq => k (.bool (decide (a ≤ b)))
      | .gtr => k (.bool (decide (a > b)))
      | .geq => k (.bool (decide (a ≥ b)))
      | _ => False) else False
  | .bool a, .bool b => match P.underlying t with
    | some .bool => (match op with
      | .eql => k (.bool (a == b))
      | .neq => k (.bool (!(a == b)))
      | _ => False)
    | _ => False
  | .agg xs, .agg ys => if intsT P t xs.length then (match eqCells xs ys with
    | some e => (match op with
      | .eql => k (.bool e)
      | .neq => k (.bool (!e))
      | _ => False)
    | none => False) else False
  | .arrv tx lx, .arrv ty ly => if intArrT P t (arrLenT P t) ∧ tx = ty then (match intList tx lx, intList ty ly with
    | some l, some l' => l.length = arrLenT P t ∧ l'.length = arrLenT P t ∧ (match op with
      | .eql => k (.bool (l == l'))
      | .neq => k (.bool (!(l == l')))
      | _ => False)
    | _, _ => False) else False
  | _, _ => False

def lenA (M : Mm) (x : AVal) (k : Q → Prop) : Prop :=
  match x with
  | .nilc => k (.pure (.int .i64 0))
  | .nils _ => k (.pure (.int .i64 0))
  | .imm _ l _ => k (.pure (.int .i64 (l.length : Int)))
  | .reg r _ => match M r with
    | some (.sl _ l, f) => if f = .dead then False else k (.read (.int .i64 (l.length : Int)) r)
    | _ => False
  | .sub _ _ len _ => k (.pure (.int .i64 (len : Int)))
  | _ => False

def newSl (nx : Nat) (t : Ty) (l : List t.den) (full : Bool) (reads : List Nat) (use : List (Nat × Flag)) : Q :=
  ⟨.reg nx full, [.sl t l], use, reads⟩

/-- What a slice's elements are, as plain data (its regions of one's own are read). -/
def elemsA (M : Mm) (t : Ty) : AVal → Option (List t.den × List Nat)
  | .nilc => some ([], [])
  | .nils t' => if t' = t then some ([], []) else none
  | .imm t' l _ => if h : t' = t then some (h ▸ l, []) else none
  | .reg r _ => match M r with
    | some (.sl t' l, f) => if h : t' = t then (if f = .dead then none else some (h ▸ l, [r])) else none
    | _ => none
  | .sub r lo len _ => match M r with
    | some (.sl t' l, f) => if h : t' = t then (if f = .dead then none else some (h ▸ (l.drop lo).take len, [r])) else none
    | _ => none
  | _ => none

/-- Slices are no longer than this, in elements. -/
def big : Nat := 1099511627776

def appendA (P : Program) (nx : Nat) (M : Mm) (at0 : TypeId) (at1 : TypeId) (x y : AVal) (k : Q → Prop) : Prop :=
  match P.underlying at0, P.underlying at1 with
  | some (.slice e), some (.slice _) => if at0 = at1 then (match tyOf P 8 e with
    | some t => if (((P.info? e).map (·.bytes)).getD 0) ≤ 64 ∧ zeroOk P e t then (match elemsA M t y with
      | some (ys, rs) => (match x with
        | .nilc => ys.length ≤ big ∧ k (newSl nx t ys false rs [])
        | .nils t' => if t' = t then ys.length ≤ big ∧ k (newSl nx t ys false rs []) else False
        | .imm t' l true => if h : t' = t then l.length + ys.length ≤ big ∧ 0 < ys.length ∧ k (newSl nx t ((h ▸ l) ++ ys) false rs []) else False
        | .reg r _ => (match M r with
          | some (.sl t' l, .own) => if h : t' = t then l.length + ys.length ≤ big ∧ k (newSl nx t ((h ▸ l) ++ ys) false (r :: rs) [(r, .dead)]) else False
          | _ => False)
        | .sub r lo len true => (match M r with
          | some (.sl t' l, f) => if h : t' = t then (if f = .dead then False else len + ys.length ≤ big ∧ 0 < ys.length ∧ k (newSl nx t ((h ▸ ((l.drop lo).take len)) ++ ys) false (r :: rs) [])) else False
          | _ => False)
        | _ => False)
      | none => False) else False
    | none => False) else False
  | _, _ => False

/-- A slice expression: of what, from where, to where, its greatest capacity. -/
def sliceA (P : Program) (M : Mm) (t : TypeId) (x : AVal) (lo hi mx : Option AVal) (k : Q → Prop) : Prop :=
  match lo, hi, mx with
  | none, none, none => (match P.underlying t, x with
    | some (.array n e), .aptr r => (match M r with
      | some (.sl ty l, f) => if f = .dead ∨ sizeT P e ≠ ty.size then False else l.length = n ∧ k (.read (.reg r true) r)
      | _ => False)
    | _, _ => False)
  | some (.int .i64 a), none, none => (match P.underlying t, x with
    | some (.slice e), .imm ty l _ => if sizeT P e = ty.size then (0 ≤ a ∧ a ≤ (l.length : Int)) ∧ k (.pure (.imm ty (l.drop a.toNat) false)) else False
    | some (.slice e), .reg r _ => (match M r with
      | some (.sl ty l, f) => if sizeT P e = ty.size ∧ f ≠ .dead then (0 ≤ a ∧ a ≤ (l.length : Int)) ∧ k (.read (.sub r a.toNat (l.length - a.toNat) false) r) else False
      | _ => False)
    | _, _ => False)
  | none, some (.int .i64 b), none => (match P.underlying t, x with
    | some (.slice e), .imm ty l _ => if sizeT P e = ty.size then (0 ≤ b ∧ b ≤ (l.length : Int)) ∧ k (.pure (.imm ty (l.take b.toNat) false)) else False
    | some (.slice e), .reg r _ => (match M r with
      | some (.sl ty l, f) => if sizeT P e = ty.size ∧ f ≠ .dead then (0 ≤ b ∧ b ≤ (l.length : Int)) ∧ k (.read (.sub r 0 b.toNat false) r) else False
      | _ => False)
    | _, _ => False)
  | none, some (.int .i64 b), some (.int .i64 c) => (match P.underlying t, x with
    | some (.slice e), .imm ty l _ => if sizeT P e = ty.size then (0 ≤ b ∧ b ≤ (l.length : Int) ∧ c = b) ∧ k (.pure (.imm ty (l.take b.toNat) true)) else False
    | some (.slice e), .reg r _ => (match M r with
      | some (.sl ty l, f) => if sizeT P e = ty.size ∧ f ≠ .dead then (0 ≤ b ∧ b ≤ (l.length : Int) ∧ c = b) ∧ k (.read (.sub r 0 b.toNat true) r) else False
      | _ => False)
    | _, _ => False)
  | some (.int .i64 a), some (.int .i64 b), none => (match P.underlying t, x with
    | some (.slice e), .imm ty l _ => if sizeT P e = ty.size then (0 ≤ a ∧ a ≤ b ∧ b ≤ (l.length : Int)) ∧ k (.pure (.imm ty ((l.drop a.toNat).take (b.toNat - a.toNat)) false)) else False
    | some (.slice e), .reg r _ => (match M r with
      | some (.sl ty l, f) => if sizeT P e = ty.size ∧ f ≠ .dead then (0 ≤ a ∧ a ≤ b ∧ b ≤ (l.length : Int)) ∧ k (.read (.sub r a.toNat (b.toNat - a.toNat) false) r) else False
      | _ => False)
    | _, _ => False)
  | _, _, _ => False

def indexAddrA (P : Program) (M : Mm) (t : TypeId) (x i : AVal) (k : Q → Prop) : Prop :=
  match i with
  | .int _ a => (match P.underlying t with
    | some (.slice e) => (match x with
      | .imm ty l _ => if sizeT P e = ty.size then ∃ h : 0 ≤ a ∧ a.toNat < l.length, k (.pure (.iptr (ty.cells (l[a.toNat]'h.2)))) else False
      | .reg r _ => (match M r with
        | some (.sl ty l, f) => if sizeT P e = ty.size ∧ f ≠ .dead then (0 ≤ a ∧ a.toNat < l.length) ∧ k (.read (.eptr r a.toNat 0) r) else False
        | _ => False)
      | .sub r lo len _ => (match M r with
        | some (.sl ty _, f) => if sizeT P e = ty.size ∧ f ≠ .dead then (0 ≤ a ∧ a.toNat < len) ∧ k (.read (.eptr r (lo + a.toNat) 0) r) else False
        | _ => False)
      | _ => False)
    | some (.array n e) => (match x with
      | .aptr r => (match M r with
        | some (.sl ty _, f) => if sizeT P e = ty.size ∧ f ≠ .dead then (0 ≤ a ∧ a.toNat < n) ∧ k (.read (.eptr r a.toNat 0) r) else False
        | _ => False)
      | _ => False)
    | _ => False)
  | _ => False

def hasReg : List AVal → Bool
  | [] => false
  | .reg _ _ :: _ => true
  | .sub _ _ _ _ :: _ => true
  | _ :: l => hasReg l

/-- What was read out of a region: a struct's own regions are frozen then. -/
def readV (M : Mm) (r : Nat) (v : AVal) (k : Q → Prop) : Prop :=
  match v with
  | .agg cs => if hasReg cs then (match view M 6 (.agg cs) with
    | some (v', rs) => k ⟨v', [], frzAll rs, r :: nums rs⟩
    | none => False) else k (.read (.agg cs) r)
  | v => k (.read v r)

def loadA (P : Program) (M : Mm) (t : TypeId) (x : AVal) (k : Q → Prop) : Prop :=
  match x with
  | .ptr r off => (match M r with
    | some (.box cells, f) => if f = .dead then False else (match ldA P t (cells.drop off) with
      | some v => readV M r v k
      | none => False)
    | _ => False)
  | .iptr cells => (match ldA P t cells with
    | some v => k (.pure v)
    | none => False)
  | .eptr r i j => (match M r with
    | some (.sl ty l, f) => if f = .dead then False else ∃ h : i < l.length, (match ldA P t ((ty.cells l[i]).drop j) with
      | some v => k (.read v r)
      | none => False)
    | _ => False)
  | .aptr r => (match M r, P.underlying t with
    | some (.sl ty l, f), some (.array _ _) => if f = .dead then False else l.length * ty.size = sizeT P t ∧ k (.read (.arrv ty l) r)
    | _, _ => False)
  | _ => False

def wholeL (t : Ty) : List (List AVal) → Option (List t.den)
  | [] => some []
  | as :: r => match t.whole as, wholeL t r with
    | some x, some xs => some (x :: xs)
    | _, _ => none

/-- Operands in order, as cells, typed; all their regions frozen. -/
def partsL (P : Program) (M : Mm) (ev : Operand → AVal) (e : TypeId) : Nat → List (Nat × Operand) → Option (List (List AVal) × List (Nat × Flag))
  | _, [] => some ([], [])
  | i, (j, o) :: r => if i = j then (match view M 6 (typed P e (ev o)) with
    | some (v, r1) => (match v.parts, partsL P M ev e (i + 1) r with
      | some as, some (rest, r2) => some (as :: rest, r1 ++ r2)
      | _, _ => none)
    | none => none) else none

/-- A struct's cells, its parts laid over. -/
def fillA (P : Program) (ev : Operand → AVal) (t : TypeId) : List AVal → List (Nat × Operand) → Option (List AVal)
  | cells, [] => some cells
  | cells, (i, o) :: r => match fieldT P t i with
    | some (off, size) => (match (typed P (fldTy P t i) (ev o)).parts with
      | some as => if as.length = size ∧ off + size ≤ cells.length then fillA P ev t (cells.take off ++ as ++ cells.drop (off + size)) r else none
      | none => none)
    | none => none
where
  fldTy (P : Program) (t : TypeId) (i : Nat) : TypeId :=
    match P.underlying t with
    | some (.struct fs) => match fs[i]? with
      | some f => f.type
      | none => 0
    | _ => 0

def infosOk (P : Program) : List Field → Bool
  | [] => true
  | f :: fs => (P.info? f.type).isSome && infosOk P fs
/-- A struct that is no plain data. -/
def buildX (P : Program) (ev : Operand → AVal) (t : TypeId) (ps : List (Nat × Operand)) (k : AVal → Prop) : Prop :=
  match P.info? t, P.underlying t with
  | some i, some (.struct fs) => (match i.zero with
    | some v => if infosOk P fs.toList then (match fillA P ev t (v.cells.toList.map constA1) ps with
      | some cells => k (.agg cells)
      | none => False) else False
    | none => False)
  | _, _ => False

def foldInt (f : Int → Int → Int) (k : IntKind) : Int → List AVal → Option Int
  | a, [] => some a
  | a, .int k' b :: r => if k = k' then foldInt f k (f a b) r else none
  | _, _ => none

/-! ### memories: maps from sets (one number each) to numbers, all of whose entries agree with a function -/

def MemoObj (spec : Int → Int) (o : Obj) : Prop :=
  ∃ es clock, o = .map es clock ∧ ∀ e ∈ es.toList, ∃ a, e.key = .agg #[.int .i64 a] ∧ e.val = .int .i64 (spec a)
def memoP (spec : Int → Int) : SemP where
  P := fun K v => ∃ b, v = .map (some b) ∧ K.inv b = some (MemoObj spec)
  mono := fun _ _ _ h ⟨b, h1, h2⟩ => ⟨b, h1, h.inv _ _ h2⟩
  cell := fun _ _ ⟨b, h1, _⟩ => .inl ⟨some b, h1⟩

def oneInt (P : Program) : List Field → Bool
  | [f] => decide (f.offset = 0) && decide (f.name ≠ "_") && (match P.underlying f.type with
    | some (.int _) => true
    | _ => false)
  | _ => false

/-- The type of such maps. -/
def memoT (P : Program) (t : TypeId) : Bool :=
  match P.underlying t with
  | some (.map kt vt) => intsT P kt 1 && (match P.underlying kt with
    | some (.struct fs) => oneInt P fs.toList
    | _ => false) && (match P.info? vt with
    | some i => (match i.zero with
      | some (.int .i64 0) => true
      | _ => false)
    | none => false)
  | _ => false

/-- What is found in a memory: nothing, or what the function says. -/
def lookA (P : Program) (t : TypeId) (x i : AVal) (ck : Bool) (k : AVal → Prop) : Prop :=
  match x, i with
  | .sem p, .agg [.int .i64 a] => if memoT P t && ck then ∃ spec, p = memoP spec ∧ ∀ hit : Bool, k (.tup [.int .i64 (cond hit (spec a) 0), .bool hit]) else False
  | _, _ => False

/-! ### maps of one's own -/

def beqI (a b : Int) : Bool := a == b
def beqB (a b : Bool) : Bool := a == b
def Ty.beq : (t : Ty) → t.den → t.den → Bool
  | .int _, a, b => beqI a b
  | .bool, a, b => beqB a b
  | .slice _, _, _ => false
  | .pair s t, a, b => s.beq a.1 b.1 && t.beq a.2 b.2

def keyOkT (P : Program) (k : TypeId) (ty : Ty) : Bool :=
  match P.underlying k with
  | some (.struct _) => intsT P k ty.size
  | some (.int _) => true
  | _ => false

def mapT (P : Program) (t : TypeId) : Option MK :=
  match P.underlying t with
  | some (.map k v) => (match tyOf P 8 k, P.underlying v, P.info? v with
    | some ty, some (.int kv), some i => (match i.zero with
      | some (.int kz z) => if ty.ints && decide (kz = kv) && decide (z = 0) && keyOkT P k ty then some ⟨aggT P k, ty, kv⟩ else none
      | _ => none)
    | _, _, _ => none)
  | _ => none

def MK.ofA (mk : MK) (v : AVal) : Option mk.kt.den :=
  match mk.agg with
  | true => (match v with
    | .agg cs => mk.kt.whole cs
    | _ => none)
  | false => mk.kt.whole [v]
def MK.toA (mk : MK) (x : mk.kt.den) : AVal :=
  match mk.agg with
  | true => .agg (mk.kt.cells x)
  | false => (mk.kt.cells x).headD .unk

abbrev MEnts (t : Ty) : Type := List (Nat × t.den × Int)
def mhas (t : Ty) (l : MEnts t) (x : t.den) : Bool := l.any fun e => t.beq x e.2.1
def mval (t : Ty) : MEnts t → t.den → Int
  | [], _ => 0
  | e :: r, x => if t.beq x e.2.1 then e.2.2 else mval t r x
def mputL (t : Ty) (x : t.den) (v : Int) : MEnts t → MEnts t
  | [] => []
  | e :: r => if t.beq x e.2.1 then (e.1, x, v) :: r else e :: mputL t x v r
def mput (t : Ty) (l : MEnts t) (clk : Nat) (x : t.den) (v : Int) : MEnts t := if mhas t l x then mputL t x v l else l ++ [(clk, x, v)]
def mclk (t : Ty) (l : MEnts t) (clk : Nat) (x : t.den) : Nat := if mhas t l x then clk else clk + 1
def mdel (t : Ty) (x : t.den) : MEnts t → MEnts t
  | [] => []
  | e :: r => if t.beq x e.2.1 then r else e :: mdel t x r
def mleft (t : Ty) (l : MEnts t) (seen : List Nat) : MEnts t := l.filter fun e => !seen.contains e.1

/-- A type of maps: its zero value is the nil map. -/
def nilMapT (P : Program) (t : TypeId) : Bool :=
  match P.info? t with
  | some i => (match i.zero with
    | some (.map none) => decide (i.size = 1)
    | some (.pointer none) => decide (i.size = 1)
    | some .nilFunc => decide (i.size = 1)
    | _ => false)
  | none => false

/-! ### calls -/

/-- What comes back: by what is so, this or that. -/
inductive RTree where
  | leaf (v : AVal) (cs : List Cont)
  | br (b : Bool) (x y : RTree)
def RTree.run : RTree → (AVal → List Cont → Prop) → Prop
  | .leaf v cs, k => k v cs
  | .br b x y, k => Abs.br b (x.run k) (y.run k)

/-- What is promised of a function: for such arguments (and the regions that are handed over with them), what comes back. -/
structure Contract where
  pre : List AVal → List Cont → Prop
  res : List AVal → List Cont → RTree
  hand : List Nat

def Contract.run (c : Contract) (as : List AVal) (cs : List Cont) (k : AVal → List Cont → Prop) : Prop :=
  c.pre as cs ∧ (c.res as cs).run k

theorem RTree.det (t : RTree) : ∃ v cs, ∀ k : AVal → List Cont → Prop, t.run k ↔ k v cs := by
  induction t with
  | leaf v cs => exact ⟨v, cs, fun k => Iff.rfl⟩
  | br b x y hx hy =>
    cases b with
    | true => exact hx
    | false => exact hy

abbrev Env := FuncId → Option Contract

mutual
def AVal.flat : AVal → Bool
  | .bool _ => true
  | .int _ _ => true
  | .reg _ _ => true
  | .mref _ => true
  | .agg cs => flatL cs
  | .tup cs => flatL cs
  | _ => false
def flatL : List AVal → Bool
  | [] => true
  | v :: vs => v.flat && flatL vs
end

def Ty.flat : Ty → Bool
  | .int _ => true
  | .bool => true
  | .slice _ => false
  | .pair a b => a.flat && b.flat

def flatC : List Cont → Bool
  | [] => true
  | .sl t _ :: r => t.flat && flatC r
  | .box cs :: r => flatL cs && flatC r
  | .mp _ _ _ :: r => flatC r
  | .it _ _ _ _ :: _ => false

mutual
/-- The regions by other numbers. -/
def AVal.mapR (ρ : Nat → Nat) : AVal → AVal
  | .reg r f => .reg (ρ r) f
  | .sub r lo len f => .sub (ρ r) lo len f
  | .ptr r o => .ptr (ρ r) o
  | .eptr r i o => .eptr (ρ r) i o
  | .aptr r => .aptr (ρ r)
  | .mref r => .mref (ρ r)
  | .iptr cs => .iptr (mapRL ρ cs)
  | .agg cs => .agg (mapRL ρ cs)
  | .tup cs => .tup (mapRL ρ cs)
  | .fn f a b => .fn f (mapRL ρ a) (mapRL ρ b)
  | v => v
def mapRL (ρ : Nat → Nat) : List AVal → List AVal
  | [] => []
  | v :: vs => v.mapR ρ :: mapRL ρ vs
end

def Cont.mapR (ρ : Nat → Nat) : Cont → Cont
  | .box cs => .box (mapRL ρ cs)
  | .sl t l => .sl t l
  | .mp mk l clk => .mp mk l clk
  | .it m since seen last => .it (m.map ρ) since seen last
def mapRC (ρ : Nat → Nat) : List Cont → List Cont
  | [] => []
  | c :: cs => c.mapR ρ :: mapRC ρ cs
abbrev AVal.shift (n : Nat) (v : AVal) : AVal := v.mapR (· + n)
abbrev Cont.shift (n : Nat) (c : Cont) : Cont := c.mapR (· + n)
abbrev shiftC (n : Nat) (cs : List Cont) : List Cont := mapRC (· + n) cs

mutual
/-- No reference to a region. -/
def AVal.noM : AVal → Bool
  | .mref _ => false
  | .reg _ _ => false
  | .sub _ _ _ _ => false
  | .ptr _ _ => false
  | .eptr _ _ _ => false
  | .aptr _ => false
  | .iptr cs => noML cs
  | .agg cs => noML cs
  | .tup cs => noML cs
  | .fn _ a b => noML a && noML b
  | _ => true
def noML : List AVal → Bool
  | [] => true
  | v :: vs => v.noM && noML vs
end

def typedL (P : Program) : List TypeId → List AVal → List AVal
  | t :: ts, v :: vs => typed P t v :: typedL P ts vs
  | _, vs => vs

/-- A call with arguments that the callee only reads. -/
def callA (Γ : Env) (nx : Nat) (M : Mm) (f : FuncId) (args : List AVal) (k : Q → Prop) : Prop :=
  match viewAll M args, Γ f with
  | some (vs, rs), some c => if noML vs = true ∧ c.hand = [] then c.run vs [] (fun v new => k ⟨v.shift nx, shiftC nx new, if v.flat && flatC new then [] else frzAll rs, nums rs⟩) else False
  | _, _ => False

def awpQ (Γ : Env) (P : Program) (o : Oper) (ev : Operand → AVal) (nx : Nat) (M : Mm) (k : Q → Prop) : Prop :=
  match o.op with
  | .move x => moveA x
  | .assign x => moveA x
  | .pick c a b => (match ev c with
    | .bool t => br t (k (.pure (ev a))) (k (.pure (ev b)))
    | _ => False)
  | .alloc e => (match P.underlying e with
    | some (.array n a) => (match tyOf P 8 a with
      | some t => if zeroOkArr P e t n then k ⟨.aptr nx, [.sl t (List.replicate n t.zero)], [], []⟩ else False
      | none => False)
    | _ => (match tyOf P 8 e with
      | some t => if zeroOk P e t then k ⟨.ptr nx 0, [.box (zeroA t)], [], []⟩ else False
      | none => if nilMapT P e then k ⟨.ptr nx 0, [.box [.unk]], [], []⟩ else False))
  | .box e x => (match (typed P e (ev x)).parts with
    | some cells => k ⟨.ptr nx 0, [.box cells], [], []⟩
    | none => False)
  | .build t ps => (match P.underlying t with
    | some (.array n e) => (match tyOf P 8 e with
      | some ty => if zeroOkArr P t ty n ∧ ps.toList.length = 0 then k (.pure (.arrv ty (List.replicate n ty.zero))) else False
      | none => False)
    | _ => (match tyOf P 8 t with
    | some ty => if zeroOk P t ty && aggT P t then (match fillA P ev t (zeroA ty) ps.toList with
      | some cells => k (.pure (.agg cells))
      | none => False) else False
    | none => buildX P ev t ps.toList (fun v => k (.pure v))))
  | .buildSlice t n ps => (match P.underlying t with
    | some (.slice e) => (match tyOf P 8 e with
      | some ty => if zeroOk P e ty ∧ ps.size = n ∧ n * ty.size ≤ 16777216 then (match partsL P M ev e 0 ps.toList with
        | some (cells, rs) => (match wholeL ty cells with
          | some l => k (newSl nx ty l true (nums rs) (frzAll rs))
          | none => False)
        | none => False) else False
      | none => False)
    | _ => False)
  | .load t a => loadA P M t (ev a) k
  | .nilCheck x => (match ev x with
    | .ptr r i => k (.pure (.ptr r i))
    | .iptr cs => k (.pure (.iptr cs))
    | .aptr r => k (.pure (.aptr r))
    | .fn (.func f) a b => k (.pure (.fn (.func f) a b))
    | _ => False)
  | .binOp op t x y _ => binA P op t (ev x) (ev y) (fun v => k (.pure v))
  | .unOp op _ x => (match op, ev x with
    | .not, .bool b => k (.pure (.bool (!b)))
    | .neg, .int kd n => fitsK kd (-n) ∧ k (.pure (.int kd (-n)))
    | _, _ => False)
  | .convert src dst x => (match P.underlying src, P.underlying dst, ev x with
    | some _, some (.int kd), .int _ n => fitsK kd n ∧ k (.pure (.int kd n))
    | _, _, _ => False)
  | .makeMap t r => if memoT P t && r.isNone then ∃ spec, k (.pure (.sem (memoP spec))) else False
  | .makeFunc fn first cap => k (.pure (.fn fn (first.toList.map ev) (cap.toList.map ev)))
  | .makeSlice t l c => (match P.underlying t, ev l, ev c with
    | some (.slice e), .int .i64 a, .int .i64 b => (match tyOf P 8 e with
      | some ty => if zeroOk P e ty ∧ (((P.info? e).map (·.bytes)).getD 0) ≤ 64 then (0 ≤ a ∧ a = b ∧ a ≤ (big : Int)) ∧ k (newSl nx ty (List.replicate a.toNat ty.zero) true [] []) else False
      | none => False)
    | _, _, _ => False)
  | .slice t x lo hi mx => sliceA P M t (ev x) (lo.map ev) (hi.map ev) (mx.map ev) k
  | .fieldAddr s x f => (match fieldT P s f, ev x with
    | some (off, _), .ptr r o => k (.pure (.ptr r (o + off)))
    | some (off, _), .iptr cs => k (.pure (.iptr (cs.drop off)))
    | some (off, _), .eptr r i j => k (.pure (.eptr r i (j + off)))
    | _, _ => False)
  | .field s x f => (match fieldT P s f, ev x with
    | some (off, _), .agg cs => (match ldA P (fillA.fldTy P s f) (cs.drop off) with
      | some v => k (.pure v)
      | none => False)
    | _, _ => False)
  | .indexAddr t x i => indexAddrA P M t (ev x) (ev i) k
  | .index t x i => (match P.underlying t, ev x, ev i with
    | some (.array n e), .arrv ty l, .int _ a => if sizeT P e = ty.size then ∃ h : 0 ≤ a ∧ a.toNat < l.length, a.toNat < n ∧ l.length = n ∧ (match ldA P e (ty.cells (l[a.toNat]'h.2)) with
      | some v => k (.pure v)
      | none => False) else False
    | _, _, _ => False)
  | .extract x i => (match ev x with
    | .tup vs => (match vs[i]? with
      | some v => k (.pure v)
      | none => False)
    | _ => False)
  | .call c => (match c.callee with
    | .builtin .len => (match c.args.toList, c.argTypes.toList with
      | [x], [t] => (match P.underlying t with
        | some (.slice _) => lenA M (ev x) k
        | _ => False)
      | _, _ => False)
    | .builtin .append => (match c.args.toList, c.argTypes.toList with
      | [x, y], [t, u] => appendA P nx M t u (ev x) (ev y) k
      | _, _ => False)
    | .builtin .max => (match c.args.toList.map ev with
      | .int kd a :: r => (match foldInt (fun x y => if y > x then y else x) kd a r with
        | some b => k (.pure (.int kd b))
        | none => False)
      | _ => False)
    | .builtin .min => (match c.args.toList.map ev with
      | .int kd a :: r => (match foldInt (fun x y => if y < x then y else x) kd a r with
        | some b => k (.pure (.int kd b))
        | none => False)
      | _ => False)
    | .value g => (match ev g with
      | .fn (.func f) first cap => callA Γ nx M f (first ++ typedL P c.argTypes.toList (c.args.toList.map ev) ++ cap) k
      | _ => False)
    | _ => False)
  | _ => False
where
  moveA (x : Operand) : Prop := match ev x with
    | .nilc => (match elemTy P o.type with
      | some t => k ⟨.reg nx false, [.sl t []], [], []⟩
      | none => k (.pure .nilc))
    | v => k (.pure v)
  zeroOkArr (P : Program) (e : TypeId) (t : Ty) (n : Nat) : Bool :=
    match P.info? e with
    | some i => match i.zero with
      | some v => Nat.ble n 16777216 && sameV v.cells.toList ((List.replicate n (zeroV t)).flatten)
      | none => false
    | none => false

/-- The operations that write: which regions are read, and what becomes of which. -/
structure W where
  set : List (Nat × (Cont × Flag))
  reads : List Nat
def setM : Mm → List (Nat × (Cont × Flag)) → Mm
  | m, [] => m
  | m, (r, x) :: us => setM (upd m r x) us
def setL : Mem → List (Nat × (Cont × Flag)) → Mem
  | m, [] => m
  | m, u :: us => setL (u :: m) us

def delE (P : Program) (ev : Operand → AVal) (c : Call) (k : W → Prop) (b : Builtin) : Prop :=
  match b with
  | .delete => (match c.args.toList, c.argTypes.toList with
    | [x, y], [t, _] => (match ev x, ev y with
      | .sem p, .agg [.int .i64 _] => if memoT P t then (∃ spec, p = memoP spec) ∧ k ⟨[], []⟩ else False
      | _, _ => False)
    | _, _ => False)
  | _ => False

def awpE (P : Program) (o : Oper) (ev : Operand → AVal) (M : Mm) (k : W → Prop) : Prop :=
  match o.op with
  | .store t a x => (match ev a with
    | .aptr r => (match M r, ev x with
      | some (.sl ty' l, .own), .arrv ty l' => if h : ty = ty' then l'.length = l.length ∧ l'.length * ty.size = sizeT P t ∧ 0 < l.length ∧ k ⟨[(r, (.sl ty' (h ▸ l'), .own))], [r]⟩ else False
      | _, _ => False)
    | .ptr r off => (match M r, (typed P t (ev x)).parts with
      | some (.box cells, .own), some xs => if xs.length = sizeT P t ∧ 0 < xs.length ∧ off + xs.length ≤ cells.length ∧ allOne xs = true then
          k ⟨[(r, (.box (cells.take off ++ xs ++ cells.drop (off + xs.length)), .own))], [r]⟩ else False
      | _, _ => False)
    | .eptr r i j => (match M r, (typed P t (ev x)).parts with
      | some (.sl ty l, .own), some xs => if xs.length = sizeT P t ∧ 0 < xs.length ∧ j + xs.length ≤ ty.size ∧ allOne xs = true then ∃ h : i < l.length,
            (match ty.whole ((ty.cells l[i]).take j ++ xs ++ (ty.cells l[i]).drop (j + xs.length)) with
            | some x' => k ⟨[(r, (.sl ty (l.set i x'), .own))], [r]⟩
            | none => False) else False
      | _, _ => False)
    | _ => False)
  | .call c => (match c.callee with
    | .builtin .clear => (match c.args.toList, c.argTypes.toList with
      | [x], [t] => (match P.underlying t, ev x with
        | some (.slice e), .reg r _ => (match M r with
          | some (.sl ty l, .own) => if zeroOk P e ty then k ⟨[(r, (.sl ty (List.replicate l.length ty.zero), .own))], [r]⟩ else False
          | _ => False)
        | _, _ => False)
      | _, _ => False)
    | .builtin .copy => (match c.args.toList, c.argTypes.toList with
      | [x, y], [t, u] => (match P.underlying t, P.underlying u, ev x with
        | some (.slice e), some (.slice _), .reg r _ => (match M r with
          | some (.sl ty l, .own) => (match elemsA M ty (ev y) with
            | some (ys, rs) => if sizeT P e = ty.size ∧ rs.contains r = false then k ⟨[(r, (.sl ty (ys.take l.length ++ l.drop ys.length), .own))], r :: rs⟩ else False
            | none => False)
          | _ => False)
        | _, _, _ => False)
      | _, _ => False)
    | .builtin b => delE P ev c k b
    | _ => False)
  | .mapUpdate t m x v => (match ev m, ev x, ev v with
    | .sem p, .agg [.int .i64 a], .int .i64 n => if memoT P t then (∃ spec, p = memoP spec ∧ n = spec a) ∧ k ⟨[], []⟩ else False
    | .mref r, x, .int kv n => (match M r with
      | some (.mp mk l clk, .own) => if mapT P t = some mk ∧ kv = mk.kv then (match mk.ofA x with
        | some key => k ⟨[(r, (.mp mk (mput mk.kt l clk key n) (mclk mk.kt l clk key), .own))], [r]⟩
        | none => False) else False
      | _ => False)
    | _, _, _ => False)
  | _ => False

def isE : Op → Bool
  | .store .. => true
  | .mapUpdate .. => true
  | .call c => (match c.callee with
    | .builtin .clear => true
    | .builtin .delete => true
    | .builtin .copy => true
    | _ => false)
  | _ => false

/-! ### maps of one's own; calls to which regions are handed for their time -/

/-- What an operation with maps gives, or a call to which regions were handed: its value; what regions of one's own hold then; flags; new regions. -/
structure XQ where
  val : AVal
  set : List (Nat × Cont)
  use : List (Nat × Flag)
  new : List Cont

def ownAll : List (Nat × Cont) → List (Nat × (Cont × Flag))
  | [] => []
  | u :: us => (u.1, (u.2, .own)) :: ownAll us
def XQ.mm (q : XQ) (n : Nat) (m : Mm) : Mm := newM (setM (flagsM m q.use) (ownAll q.set)) n q.new
def XQ.ml (q : XQ) (n : Nat) (M : Mem) : Mem := newL (setL (flagsL M q.use) (ownAll q.set)) n q.new

/-- A region that is handed over for a call's time. -/
def handOne (M : Mm) (j : Nat) : AVal → Option (AVal × Nat × Cont)
  | .reg r f => match M r with
    | some (.sl t l, .own) => some (.reg j f, r, .sl t l)
    | _ => none
  | .mref r => match M r with
    | some (.mp mk l clk, .own) => some (.mref j, r, .mp mk l clk)
    | _ => none
  | _ => none

/-- An argument as the callee sees it; at some places a nil slice stays one. -/
def viewH (M : Mm) (b : Bool) (v : AVal) : Option (AVal × List (Nat × Flag)) := match b, v with
  | true, .nils t => some (.nils t, [])
  | _, v => view M 6 v

/-- The arguments as the callee sees them; the regions handed over, what they hold; the regions read. -/
def handArgs (M : Mm) (hand : List Nat) : Nat → Nat → List AVal → Option (List AVal × List Nat × List Cont × List (Nat × Flag))
  | _, _, [] => some ([], [], [], [])
  | i, j, v :: vs => if hand.contains i then (match handOne M j v with
      | some (v', r, c) => (match handArgs M hand (i + 1) (j + 1) vs with
        | some (vs', hs, cs, rs) => some (v' :: vs', r :: hs, c :: cs, rs)
        | none => none)
      | none => none)
    else (match viewH M (hand.contains (i + 1000)) v with
      | some (v', r1) => if v'.noM then (match handArgs M hand (i + 1) j vs with
        | some (vs', hs, cs, rs) => some (v' :: vs', hs, cs, r1 ++ rs)
        | none => none) else none
      | none => none)

def nodupN : List Nat → Bool
  | [] => true
  | a :: l => !l.contains a && nodupN l
def disjN (a b : List Nat) : Bool := a.all fun x => !b.contains x

def backR (hs : List Nat) (nx : Nat) (i : Nat) : Nat := if i < hs.length then hs.getD i 0 else nx + (i - hs.length)
def zipC : List Nat → List Cont → List (Nat × Cont)
  | r :: rs, c :: cs => (r, c) :: zipC rs cs
  | _, _ => []

def handCall (Γ : Env) (nx : Nat) (M : Mm) (f : FuncId) (args : List AVal) (k : XQ → Prop) : Prop :=
  match Γ f with
  | some c => (match handArgs M c.hand 0 0 args with
    | some (vs, hs, cs, rs) => if nodupN hs && disjN hs (nums rs) then
        c.run vs cs (fun v new => k ⟨v.mapR (backR hs nx), zipC hs (mapRC (backR hs nx) new), if v.flat && flatC new then [] else frzAll rs, mapRC (backR hs nx) (new.drop hs.length)⟩) else False
    | none => False)
  | none => False

def isMref : AVal → Bool
  | .mref _ => true
  | _ => false

def isNilc : AVal → Bool
  | .nilc => true
  | _ => false
/-- What is so of a slice if it is nil. -/
def maybeNil (M : Mm) : AVal → Option Prop
  | .imm _ l _ => some (l = [])
  | .reg r _ => (match M r with
    | some (.sl _ l, f) => if f = .dead then none else some (l = [])
    | _ => none)
  | .sub _ _ len _ => some (len = 0)
  | _ => none
def isSub : AVal → Bool
  | .sub _ _ _ _ => true
  | _ => false
/-- Elements of a part of a region are cleared. -/
def clearX (P : Program) (M : Mm) (c : Call) (ev : Operand → AVal) (k : XQ → Prop) : Prop :=
  match c.args.toList, c.argTypes.toList with
  | [x], [t] => (match P.underlying t, ev x with
    | some (.slice e), .sub r lo len _ => (match M r with
      | some (.sl ty l, .own) => if zeroOk P e ty then lo + len ≤ l.length ∧ k ⟨.tup [], [(r, .sl ty (l.take lo ++ List.replicate len ty.zero ++ l.drop (lo + len)))], [], []⟩ else False
      | _ => False)
    | _, _ => False)
  | _, _ => False

/-- Is it such an operation? (2: maps made here are memories.) -/
def isX (Γ : Env) (P : Program) (X : Nat) (op : Op) (ev : Operand → AVal) : Bool :=
  match X with
  | 0 => false
  | X + 1 => (match op with
    | .makeMap t r => (match X with
      | 0 => r.isNone && (mapT P t).isSome
      | _ => false)
    | .lookup _ x _ _ => isMref (ev x)
    | .range _ _ => true
    | .next _ _ => true
    | .entry _ => true
    | .binOp b _ _ y _ => (match b with
      | .eql => isNilc (ev y)
      | _ => false)
    | .call c => (match c.callee with
      | .builtin b => (match b with
        | .delete => (match c.args.toList with
          | x :: _ => isMref (ev x)
          | [] => false)
        | .clear => (match c.args.toList with
          | x :: _ => isSub (ev x)
          | [] => false)
        | _ => false)
      | .value g => (match ev g with
        | .fn (.func f) _ _ => (match Γ f with
          | some ct => !ct.hand.isEmpty
          | none => false)
        | _ => false)
      | _ => false)
    | _ => false)

def lookX (mk : MK) (l : MEnts mk.kt) (x : mk.kt.den) (ck : Bool) : AVal :=
  match ck with
  | true => .tup [.int mk.kv (mval mk.kt l x), .bool (mhas mk.kt l x)]
  | false => .int mk.kv (mval mk.kt l x)

def awpX (Γ : Env) (P : Program) (o : Oper) (ev : Operand → AVal) (nx : Nat) (M : Mm) (k : XQ → Prop) : Prop :=
  match o.op with
  | .makeMap t r => (match r, mapT P t with
    | none, some mk => k ⟨.mref nx, [], [], [.mp mk [] 0]⟩
    | _, _ => False)
  | .lookup t x i ck => (match ev x with
    | .mref r => (match M r with
      | some (.mp mk l _, f) => if mapT P t = some mk ∧ f ≠ .dead then (match mk.ofA (ev i) with
        | some key => k ⟨lookX mk l key ck, [], [], []⟩
        | none => False) else False
      | _ => False)
    | _ => False)
  | .range t x => (match ev x with
    | .mref r => (match M r with
      | some (.mp mk _ clk, f) => if mapT P t = some mk ∧ f ≠ .dead then k ⟨.ptr nx 0, [], [], [.it (some r) clk [] clk]⟩ else False
      | _ => False)
    | _ => False)
  | .next i isS => (match ev i, isS with
    | .ptr ri 0, false => (match M ri with
      | some (.it (some r) since seen last, .own) => (match M r with
        | some (.mp mk l clk, f) => if f = .dead ∨ mk.kt.ints = false then False else ((∀ e ∈ l, e.1 < since) ∧ since ≤ last) ∧
            (mleft mk.kt l seen = [] → k ⟨.tup [.bool false], [], [], []⟩) ∧
            ∀ e, e ∈ mleft mk.kt l seen → k ⟨.tup [.bool true, mk.toA e.2.1, .int mk.kv e.2.2], [(ri, .it (some r) since (seen ++ [e.1]) clk)], [], []⟩
        | _ => False)
      | _ => False)
    | _, _ => False)
  | .entry i => (match ev i with
    | .ptr ri 0 => (match M ri with
      | some (.it (some r) _ seen last, .own) => (match M r with
        | some (.mp mk l clk, f) => if f = .dead ∨ mk.kt.ints = false then False else (clk = last ∧ (l.map (·.1)).Nodup) ∧ ∃ e, (e ∈ l ∧ seen.getLast? = some e.1) ∧ k ⟨.tup [mk.toA e.2.1, .int mk.kv e.2.2], [], [], []⟩
        | _ => False)
      | _ => False)
    | _ => False)
  | .call c => (match c.callee with
    | .builtin .delete => (match c.args.toList, c.argTypes.toList with
      | [x, i], [t, _] => (match ev x with
        | .mref r => (match M r with
          | some (.mp mk l clk, .own) => if mapT P t = some mk then (match mk.ofA (ev i) with
            | some key => k ⟨.tup [], [(r, .mp mk (mdel mk.kt key l) clk)], [], []⟩
            | none => False) else False
          | _ => False)
        | _ => False)
      | _, _ => False)
    | .builtin .clear => clearX P M c ev k
    | .value g => (match ev g with
      | .fn (.func f) first cap => handCall Γ nx M f (first ++ typedL P c.argTypes.toList (c.args.toList.map ev) ++ cap) k
      | _ => False)
    | _ => False)
  | .binOp b t x y _ => (match b, P.underlying t, ev y, maybeNil M (ev x) with
    | .eql, some (.slice _), .nilc, some p => ∀ b : Bool, (b = true → p) → k ⟨.bool b, [], [], []⟩
    | _, _, _, _ => False)
  | _ => False

/-! ### regions and code -/

/-- What became of one operation of a region: passed over; done; a write. -/
inductive Did where
  | skip
  | quiet (nx : Nat) (q : Q)
  | write (w : W)

def putA (dst : Option Tmp) (v : AVal) (tm : List (Nat × AVal)) : List (Nat × AVal) :=
  match dst with
  | some d => (d, v) :: tm
  | none => tm

def okDst (n : Nat) : Option Tmp → Bool
  | some d => d < n
  | none => true

/-- What is done where an iterator asks for a round. -/
abbrev Hand := List AVal → AState → (Bool → AState → Prop) → Prop

def yieldArgs (P : Program) (op : Op) (ev : Operand → AVal) : Option (List AVal) :=
  match op with
  | .call c => (match c.callee with
    | .value g => (match ev g with
      | .yieldv => some (typedL P c.argTypes.toList (c.args.toList.map ev))
      | _ => none)
    | _ => none)
  | _ => none

def stepA (Γ : Env) (Y : Option Hand) (X : Nat) (P : Program) (o : Oper) (st : AState) (k : AState → Did → Prop) : Prop :=
  if okDst st.n o.dst then
    (if isX Γ P X o.op (evA st.tmps) then awpX Γ P o (evA st.tmps) st.nx (mget st.M) (fun q => k { st with tmps := putA o.dst q.val st.tmps, nx := st.nx + q.new.length, M := q.ml st.nx st.M } .skip)
    else if isE o.op then awpE P o (evA st.tmps) (mget st.M) (fun w => k { st with tmps := putA o.dst .unk st.tmps, M := setL st.M w.set } (.write w))
    else (match yieldArgs P o.op (evA st.tmps) with
      | some args => (match Y with
        | some h => h args st (fun b st' => k { st' with tmps := putA o.dst (.bool b) st'.tmps } .skip)
        | none => False)
      | none => awpQ Γ P o (evA st.tmps) st.nx (mget st.M) (fun q => k { st with tmps := putA o.dst q.val st.tmps, nx := st.nx + q.new.length, M := q.ml st.nx st.M } (.quiet st.nx q))))
  else False

def dstsOk (n : Nat) : List Oper → Bool
  | [] => true
  | o :: os => okDst n o.dst && dstsOk n os

def awpOps (Γ : Env) (Y : Option Hand) (X : Nat) (P : Program) (all : Array Oper) : List Oper → AState → List Did → (AState → List Did → Prop) → Prop
  | [], st, tr, k => k st tr
  | o :: rest, st, tr, k =>
    match o.guard with
    | none => stepA Γ Y X P o st (fun st' d => awpOps Γ Y X P all rest st' (d :: tr) k)
    | some (j, want) => match (all[j]?).bind (·.dst) with
      | some d => match aget st.tmps d with
        | .bool b =>
          if okDst st.n o.dst then
            br (b == want)
              (stepA Γ Y X P o { st with tmps := (d, .bool want) :: st.tmps } (fun st' d => awpOps Γ Y X P all rest st' (d :: tr) k))
              (awpOps Γ Y X P all rest { st with tmps := putA o.dst (.tup []) ((d, .bool (!want)) :: st.tmps) } (.skip :: tr) k)
          else False
        | .tup [] => if okDst st.n o.dst then awpOps Γ Y X P all rest { st with tmps := putA o.dst (.tup []) st.tmps } (.skip :: tr) k else False
        | _ => False
      | none => False

/-! ### regions that draw their order -/

/-- A number is reckoned out, then handed on. -/
def forceN {α : Type} (n : Nat) (f : Nat → α) : α := match n with
  | 0 => f 0
  | k + 1 => f (k + 1)
theorem forceN_eq {α : Type} (n : Nat) (f : Nat → α) : forceN n f = f n := by cases n <;> rfl
def maskOf (acc : List Nat) : List Nat → Nat → Nat
  | [], m => m
  | j :: d, m => forceN (Nat.lor m (Nat.lor (2 ^ j) (acc.getD j 0))) fun m' => maskOf acc d m'
/-- All operations that surely come before each, by bits. -/
def ancsGo : List Oper → List Nat → List Nat
  | [], acc => acc
  | o :: r, acc => forceN (maskOf acc ((o.after.toList.filter (Region.binds .any)).map (·.on)) 0) fun m => ancsGo r (acc ++ [m])
def ancs (ops : List Oper) : List Nat := ancsGo ops []

def edgesOk : List Oper → Nat → Bool
  | [], _ => true
  | o :: r, i => (o.after.toList.all fun e => !Region.binds .any e || decide (e.on < i)) && edgesOk r (i + 1)

def Did.rd : Did → List Nat
  | .skip => []
  | .quiet _ q => q.reads
  | .write w => w.reads
def rangeL : Nat → Nat → List Nat
  | _, 0 => []
  | n, k + 1 => n :: rangeL (n + 1) k
def Did.wr : Did → List Nat
  | .skip => []
  | .quiet n q => q.use.map (·.1) ++ rangeL n q.new.length
  | .write w => w.set.map (·.1)

def disj (a b : List Nat) : Bool := a.all fun x => !b.contains x

/-- What two operations do to regions may come in either order. -/
def dis2 (d1 d2 : Did) : Bool := disj d1.wr d2.rd && disj d1.wr d2.wr && disj d1.rd d2.wr

/-- Each later operation is free of this one, or surely comes behind it. -/
def freeOf (R : Oper → Did → Oper → Did → Bool) (i : Nat) (o1 : Oper) (d1 : Did) : List Oper → List Did → List Nat → Bool
  | o2 :: os, d2 :: ds, a :: as => (a.testBit i || R o1 d1 o2 d2) && freeOf R i o1 d1 os ds as
  | _, _, _ => true
def freeAll (R : Oper → Did → Oper → Did → Bool) : Nat → List Oper → List Did → List Nat → Bool
  | i, o :: os, d :: ds, _ :: as => freeOf R i o d os ds as && freeAll R (i + 1) os ds as
  | _, _, _, _ => true

/-- A region that draws its order: what can be seen from its text. -/
def textOk (ops : Array Oper) : Bool :=
  edgesOk ops.toList 0 && freeAll (fun o1 _ o2 _ => o1.apart ops o2) 0 ops.toList (ops.toList.map fun _ => .skip) (ancs ops.toList)
/-- And what cannot: which regions are written. -/
def drawOk (ops : Array Oper) (tr : List Did) : Bool :=
  if tr.all (fun d => d.wr.isEmpty) then true else freeAll (fun _ d1 _ d2 => dis2 d1 d2) 0 ops.toList tr (ancs ops.toList)

/-- May it be a round of an iterator? -/
def isValCall (o : Oper) : Bool := match o.op with
  | .call c => (match c.callee with
    | .value (.tmp _) => true
    | _ => false)
  | _ => false
def firstVal : List Oper → Nat → Option Nat
  | [], _ => none
  | o :: os, i => if isValCall o then some i else firstVal os (i + 1)
def guardsIn (c : Nat) : List Oper → Bool
  | [] => true
  | o :: os => (match o.guard with
    | some (j, _) => decide (j < c)
    | none => true) && guardsIn c os
def chainFrom : Nat → List Nat → Bool
  | _, [] => true
  | i, m :: ms => Nat.beq (Nat.land m (2 ^ i - 1)) (2 ^ i - 1) && chainFrom (i + 1) ms
/-- Where the last part of a region that draws its order begins: from there on each operation comes surely behind all earlier ones. -/
def cutOf (ops : Array Oper) : Option Nat := match firstVal ops.toList 0 with
  | some c => if guardsIn c (ops.toList.take c) && chainFrom c ((ancs ops.toList).drop c) then some c else none
  | none => none
def preOf (ops : Array Oper) (c : Nat) : Array Oper := (ops.toList.take c).toArray
def preOk (ops : Array Oper) : Bool := match cutOf ops with
  | some c => textOk (preOf ops c)
  | none => true

/-- All regions of a piece of code that draw their order. -/
def Code.textsOk : Code → Bool
  | .region _ ops draw => !draw || (textOk ops && preOk ops)
  | .seq a b => Code.textsOk a && Code.textsOk b
  | .cond _ a b => Code.textsOk a && Code.textsOk b
  | .block _ a => Code.textsOk a
  | .loop a => Code.textsOk a
  | .scope a => Code.textsOk a
  | .rangeFunc _ _ a b => Code.textsOk a && Code.textsOk b
  | _ => true

/-! ### code -/

/-- The references in a value. -/
def refs : Nat → AVal → List Nat
  | 0, _ => []
  | d + 1, v => match v with
    | .reg r _ => [r]
    | .sub r _ _ _ => [r]
    | .ptr r _ => [r]
    | .eptr r _ _ => [r]
    | .aptr r => [r]
    | .mref r => [r]
    | .iptr cs => (cs.map (refs d)).flatten
    | .agg cs => (cs.map (refs d)).flatten
    | .tup cs => (cs.map (refs d)).flatten
    | .fn _ a b => (a.map (refs d)).flatten ++ (b.map (refs d)).flatten
    | _ => []

/-- Values, with nil slices as regions of their own. -/
def ownNil : List (Nat × AVal) → Nat → Mem → List (Nat × AVal) × Nat × Mem
  | [], n, M => ([], n, M)
  | (t, .nils ty) :: r, n, M =>
    let x := ownNil r (n + 1) ((n, (.sl ty [], .own)) :: M)
    ((t, .reg n false) :: x.1, x.2)
  | u :: r, n, M =>
    let x := ownNil r n M
    (u :: x.1, x.2)

def keepT (tm : List (Nat × AVal)) (ks : List Nat) : List (Nat × AVal) := ks.map fun t => (t, aget tm t)

def boxNils : List AVal → Nat → Mem → List AVal × Nat × Mem
  | [], n, M => ([], n, M)
  | .nils ty :: r, n, M =>
    let x := boxNils r (n + 1) ((n, (.sl ty [], .own)) :: M)
    (.reg n false :: x.1, x.2)
  | v :: r, n, M =>
    let x := boxNils r n M
    (v :: x.1, x.2)

/-- The nil slices in boxes of one's own, as regions of their own. -/
def ownBoxes : List Nat → Nat → Mem → Nat × Mem
  | [], n, M => (n, M)
  | r :: rs, n, M => match mget M r with
    | some (.box cells, .own) =>
      if r < n then
        let x := boxNils cells n M
        ownBoxes rs x.2.1 ((r, (.box x.1, .own)) :: x.2.2)
      else ownBoxes rs n M
    | _ => ownBoxes rs n M

def uniq : List Nat → List Nat → List Nat
  | [], acc => acc
  | a :: l, acc => if acc.contains a then uniq l acc else uniq l (acc ++ [a])

def contRefs : Cont → List Nat
  | .box cells => (cells.map (refs 3)).flatten
  | .it (some m) _ _ _ => [m]
  | _ => []

def reach (M : Mem) : Nat → List Nat → List Nat
  | 0, l => l
  | d + 1, l => reach M d (uniq ((l.map fun r => match mget M r with
    | some (c, _) => contRefs c
    | none => []).flatten) l)

def idx : List Nat → Nat → Nat → Option Nat
  | [], _, _ => none
  | a :: l, r, i => if a = r then some i else idx l r (i + 1)

mutual
/-- References by new numbers; slices not known to be full. -/
def AVal.ren (l : List Nat) : AVal → AVal
  | .reg r _ => match idx l r 0 with
    | some i => .reg i false
    | none => .unk
  | .sub r lo len f => match idx l r 0 with
    | some i => .sub i lo len f
    | none => .unk
  | .ptr r o => match idx l r 0 with
    | some i => .ptr i o
    | none => .unk
  | .eptr r a o => match idx l r 0 with
    | some i => .eptr i a o
    | none => .unk
  | .aptr r => match idx l r 0 with
    | some i => .aptr i
    | none => .unk
  | .mref r => match idx l r 0 with
    | some i => .mref i
    | none => .unk
  | .imm t x _ => .imm t x false
  | .iptr cs => .iptr (renL l cs)
  | .agg cs => .agg (renL l cs)
  | .tup cs => .tup (renL l cs)
  | .fn f a b => .fn f (renL l a) (renL l b)
  | v => v
def renL (l : List Nat) : List AVal → List AVal
  | [] => []
  | v :: vs => v.ren l :: renL l vs
end

def Cont.ren (l : List Nat) : Cont → Cont
  | .box cells => .box (renL l cells)
  | .sl t x => .sl t x
  | .mp mk x clk => .mp mk x clk
  | .it m since seen last => .it (match m with
    | some r => idx l r 0
    | none => none) since seen last

def renMem (l : List Nat) (M : Mem) : List Nat → Nat → Mem
  | [], _ => []
  | r :: rs, i => match mget M r with
    | some (c, f) => (i, (c.ren l, f)) :: renMem l M rs (i + 1)
    | none => renMem l M rs (i + 1)

/-- The state in its plainest form: what is kept, regions numbered in order. -/
def canon (ks : List Nat) (st : AState) : AState :=
  let x := ownNil (keepT st.tmps ks) st.nx st.M
  let l0 := uniq ((x.1.map fun u => refs 3 u.2).flatten ++ (st.gh.map (refs 3)).flatten) []
  let y := ownBoxes l0 x.2.1 x.2.2
  let l := reach y.2 2 l0
  { n := st.n, tmps := x.1.map fun u => (u.1, u.2.ren l), nx := l.length, M := renMem l y.2 l 0, gh := renL l st.gh, pend := st.pend }

def AVal.isSl : AVal → Bool
  | .reg _ _ => true
  | .sub _ _ _ _ => true
  | _ => false
/-- A temporary's region is frozen, and stands there as plain data. -/
def frz1 (t : Nat) (st : AState) : AState :=
  if (aget st.tmps t).isSl then (match view (mget st.M) 6 (aget st.tmps t) with
    | some (v, rs) => { st with tmps := (t, v) :: st.tmps, M := flagsL st.M (frzAll rs) }
    | none => st) else st
/-- The temporaries that are named so (2000000 and more) are frozen. -/
def frzK : List Nat → AState → AState
  | [], st => st
  | k :: ks, st => if 2000000 ≤ k then frz1 (k - 2000000) (frzK ks st) else frzK ks st

def loopKey : Code → Nat
  | .region id _ _ => id
  | .seq a _ => loopKey a
  | .block _ a => loopKey a
  | .loop a => loopKey a
  | .scope a => loopKey a
  | _ => 0

def iter {σ : Type} (B : (σ → Prop) → σ → Prop) : Nat → σ → Prop
  | 0, _ => False
  | n + 1, s => B (iter B n) s

def Loop {σ : Type} (B : (σ → Prop) → σ → Prop) (s : σ) : Prop := ∃ n, iter B n s

/-! ### shapes: what stays the same in a state from round to round -/

inductive VS where
  | int (k : IntKind)
  | bool
  | imm (t : Ty) (f : Bool)
  | arrv (t : Ty)
  | reg (r : Nat) (f : Bool)
  | sub (r : Nat) (f : Bool)
  | ptr (r o : Nat)
  | eptr (r o : Nat)
  | aptr (r : Nat)
  | mref (r : Nat)
  | iptr (l : VS)
  | agg (l : VS)
  | tup (l : VS)
  | fn (f : FuncId) (a b : VS)
  | nilc
  | nils (t : Ty)
  | nilfn
  | yieldv
  | sem
  | unk
  | nl
  | cs (a l : VS)

def VS.den : VS → Type → Type
  | .int _, R => Int × R
  | .bool, R => Bool × R
  | .imm t _, R => List t.den × R
  | .arrv t, R => List t.den × R
  | .sub _ _, R => Nat × Nat × R
  | .eptr _ _, R => Nat × R
  | .sem, R => SemP × R
  | .iptr l, R => l.den R
  | .agg l, R => l.den R
  | .tup l, R => l.den R
  | .fn _ a b, R => a.den (b.den R)
  | .cs a l, R => a.den (l.den R)
  | _, R => R

mutual
def AVal.shape : AVal → VS
  | .unk => .unk
  | .bool _ => .bool
  | .int k _ => .int k
  | .nilc => .nilc
  | .nils t => .nils t
  | .imm t _ f => .imm t f
  | .reg r f => .reg r f
  | .sub r _ _ f => .sub r f
  | .ptr r o => .ptr r o
  | .eptr r _ o => .eptr r o
  | .aptr r => .aptr r
  | .mref r => .mref r
  | .iptr l => .iptr (shapeL l)
  | .agg l => .agg (shapeL l)
  | .arrv t _ => .arrv t
  | .tup l => .tup (shapeL l)
  | .fn (.func f) a b => .fn f (shapeL a) (shapeL b)
  | .fn _ _ _ => .unk
  | .nilfn => .nilfn
  | .yieldv => .yieldv
  | .sem _ => .sem
def shapeL : List AVal → VS
  | [] => .nl
  | v :: vs => .cs v.shape (shapeL vs)
end

/-- The values of a shape, out of their leaves; and the leaves that are left. -/
def VS.enc : (s : VS) → (R : Type) → s.den R → List AVal × R
  | .int k, _, x => ([.int k x.1], x.2)
  | .bool, _, x => ([.bool x.1], x.2)
  | .imm t f, _, x => ([.imm t x.1 f], x.2)
  | .arrv t, _, x => ([.arrv t x.1], x.2)
  | .reg r f, _, x => ([.reg r f], x)
  | .sub r f, _, x => ([.sub r x.1 x.2.1 f], x.2.2)
  | .ptr r o, _, x => ([.ptr r o], x)
  | .eptr r o, _, x => ([.eptr r x.1 o], x.2)
  | .aptr r, _, x => ([.aptr r], x)
  | .mref r, _, x => ([.mref r], x)
  | .iptr l, R, x => ([.iptr (l.enc R x).1], (l.enc R x).2)
  | .agg l, R, x => ([.agg (l.enc R x).1], (l.enc R x).2)
  | .tup l, R, x => ([.tup (l.enc R x).1], (l.enc R x).2)
  | .fn f a b, R, x => ([.fn (.func f) (a.enc (b.den R) x).1 (b.enc R (a.enc (b.den R) x).2).1], (b.enc R (a.enc (b.den R) x).2).2)
  | .nilc, _, x => ([.nilc], x)
  | .nils t, _, x => ([.nils t], x)
  | .nilfn, _, x => ([.nilfn], x)
  | .yieldv, _, x => ([.yieldv], x)
  | .sem, _, x => ([.sem x.1], x.2)
  | .unk, _, x => ([.unk], x)
  | .nl, _, x => ([], x)
  | .cs a l, R, x => ((a.enc (l.den R) x).1 ++ (l.enc R (a.enc (l.den R) x).2).1, (l.enc R (a.enc (l.den R) x).2).2)

def castL {t t' : Ty} (h : t' = t) (l : List t'.den) : List t.den := h ▸ l

def VS.d_int {R : Type} (k : IntKind) (v : List AVal) (r : R) : Option (Int × R) := match v with
  | [.int k' n] => if k' = k then some (n, r) else none
  | _ => none
def VS.d_bool {R : Type}  (v : List AVal) (r : R) : Option (Bool × R) := match v with
  | [.bool b] => some (b, r)
  | _ => none
def VS.d_arrv {R : Type} (t : Ty) (v : List AVal) (r : R) : Option (List t.den × R) := match v with
  | [.arrv t' l] => if h : t' = t then some (castL h l, r) else none
  | _ => none
def VS.d_reg {R : Type} (i : Nat) (f : Bool) (v : List AVal) (r : R) : Option (R) := match v with
  | [.reg i' f'] => if i' = i ∧ f' = f then some r else none
  | _ => none
def VS.d_sub {R : Type} (i : Nat) (f : Bool) (v : List AVal) (r : R) : Option (Nat × Nat × R) := match v with
  | [.sub i' lo len f'] => if i' = i ∧ f' = f then some (lo, len, r) else none
  | _ => none
def VS.d_ptr {R : Type} (i o : Nat) (v : List AVal) (r : R) : Option (R) := match v with
  | [.ptr i' o'] => if i' = i ∧ o' = o then some r else none
  | _ => none
def VS.d_eptr {R : Type} (i o : Nat) (v : List AVal) (r : R) : Option (Nat × R) := match v with
  | [.eptr i' n o'] => if i' = i ∧ o' = o then some (n, r) else none
  | _ => none
def VS.d_aptr {R : Type} (i : Nat) (v : List AVal) (r : R) : Option (R) := match v with
  | [.aptr i'] => if i' = i then some r else none
  | _ => none
def VS.d_mref {R : Type} (i : Nat) (v : List AVal) (r : R) : Option (R) := match v with
  | [.mref i'] => if i' = i then some r else none
  | _ => none
def VS.d_nilc {R : Type}  (v : List AVal) (r : R) : Option (R) := match v with
  | [.nilc] => some r
  | _ => none
def VS.d_nils {R : Type} (t : Ty) (v : List AVal) (r : R) : Option (R) := match v with
  | [.nils t'] => if t' = t then some r else none
  | _ => none
def VS.d_nilfn {R : Type}  (v : List AVal) (r : R) : Option (R) := match v with
  | [.nilfn] => some r
  | _ => none
def VS.d_yieldv {R : Type}  (v : List AVal) (r : R) : Option (R) := match v with
  | [.yieldv] => some r
  | _ => none
def VS.d_sem {R : Type}  (v : List AVal) (r : R) : Option (SemP × R) := match v with
  | [.sem p] => some (p, r)
  | _ => none
def VS.d_unk {R : Type}  (v : List AVal) (r : R) : Option (R) := match v with
  | [.unk] => some r
  | _ => none
def VS.d_nl {R : Type}  (v : List AVal) (r : R) : Option (R) := match v with
  | [] => some r
  | _ => none
def VS.d_imm {R : Type} (t : Ty) (f : Bool) (v : List AVal) (r : R) : Option (List t.den × R) := match v with
  | [.imm t' l f'] => if h : t' = t then (if f' = f then some (castL h l, r) else none) else none
  | _ => none
def VS.inIptr : List AVal → Option (List AVal)
  | [.iptr l] => some l
  | _ => none
def VS.inAgg : List AVal → Option (List AVal)
  | [.agg l] => some l
  | _ => none
def VS.inTup : List AVal → Option (List AVal)
  | [.tup l] => some l
  | _ => none
def VS.inFn (f : FuncId) : List AVal → Option (List AVal × List AVal)
  | [.fn (.func f') a b] => if f' = f then some (a, b) else none
  | _ => none
def VS.into {A B : Type} (x : Option A) (f : A → Option B) : Option B := match x with
  | some a => f a
  | none => none
def VS.inCons : List AVal → Option (AVal × List AVal)
  | x :: xs => some (x, xs)
  | _ => none

/-- The leaves of values of this shape. -/
def VS.dec : (s : VS) → List AVal → (R : Type) → R → Option (s.den R)
  | .int k, v, _, r => VS.d_int k v r
  | .bool, v, _, r => VS.d_bool  v r
  | .arrv t, v, _, r => VS.d_arrv t v r
  | .reg i f, v, _, r => VS.d_reg i f v r
  | .sub i f, v, _, r => VS.d_sub i f v r
  | .ptr i o, v, _, r => VS.d_ptr i o v r
  | .eptr i o, v, _, r => VS.d_eptr i o v r
  | .aptr i, v, _, r => VS.d_aptr i v r
  | .mref i, v, _, r => VS.d_mref i v r
  | .nilc, v, _, r => VS.d_nilc  v r
  | .nils t, v, _, r => VS.d_nils t v r
  | .nilfn, v, _, r => VS.d_nilfn  v r
  | .yieldv, v, _, r => VS.d_yieldv  v r
  | .sem, v, _, r => VS.d_sem  v r
  | .unk, v, _, r => VS.d_unk  v r
  | .nl, v, _, r => VS.d_nl  v r
  | .imm t f, v, _, r => VS.d_imm t f v r
  | .iptr l, v, R, r => VS.into (VS.inIptr v) fun l' => l.dec l' R r
  | .agg l, v, R, r => VS.into (VS.inAgg v) fun l' => l.dec l' R r
  | .tup l, v, R, r => VS.into (VS.inTup v) fun l' => l.dec l' R r
  | .fn f a b, v, R, r => VS.into (VS.inFn f v) fun l' => VS.into (b.dec l'.2 R r) fun y => a.dec l'.1 (b.den R) y
  | .cs a l, v, R, r => VS.into (VS.inCons v) fun l' => VS.into (l.dec l'.2 R r) fun y => a.dec [l'.1] (l.den R) y

inductive CS where
  | box (l : VS)
  | sl (t : Ty)
  | mp (mk : MK)
  | it (m : Option Nat)
def CS.den : CS → Type → Type
  | .box l, R => l.den R
  | .sl t, R => List t.den × R
  | .mp mk, R => MEnts mk.kt × Nat × R
  | .it _, R => Nat × List Nat × Nat × R
def Cont.shape : Cont → CS
  | .box l => .box (shapeL l)
  | .sl t _ => .sl t
  | .mp mk _ _ => .mp mk
  | .it m _ _ _ => .it m
def CS.enc : (c : CS) → (R : Type) → c.den R → Cont × R
  | .box l, R, x => (.box (l.enc R x).1, (l.enc R x).2)
  | .sl t, _, x => (.sl t x.1, x.2)
  | .mp mk, _, x => (.mp mk x.1 x.2.1, x.2.2)
  | .it m, _, x => (.it m x.1 x.2.1 x.2.2.1, x.2.2.2)
def castM {mk mk' : MK} (h : mk' = mk) (l : MEnts mk'.kt) : MEnts mk.kt := h ▸ l
def CS.dec : (c : CS) → Cont → (R : Type) → R → Option (c.den R)
  | .box l, c, R, r => (match c with
    | .box l' => l.dec l' R r
    | _ => none)
  | .sl t, c, _, r => (match c with
    | .sl t' l => if h : t' = t then some (castL h l, r) else none
    | _ => none)
  | .mp mk, c, _, r => (match c with
    | .mp mk' l clk => if h : mk' = mk then some (castM h l, clk, r) else none
    | _ => none)
  | .it m, c, _, r => (match c with
    | .it m' a b c => if m' = m then some (a, b, c, r) else none
    | _ => none)

/-- The temporaries' values and their numbers. -/
def zipT : List Nat → List AVal → List (Nat × AVal)
  | t :: ts, v :: vs => (t, v) :: zipT ts vs
  | _, _ => []

def denM : List (Nat × (CS × Flag)) → Type → Type
  | [], R => R
  | u :: us, R => u.2.1.den (denM us R)
def encM : (l : List (Nat × (CS × Flag))) → (R : Type) → denM l R → Mem × R
  | [], _, x => ([], x)
  | u :: us, R, x => ((u.1, ((u.2.1.enc (denM us R) x).1, u.2.2)) :: (encM us R (u.2.1.enc (denM us R) x).2).1, (encM us R (u.2.1.enc (denM us R) x).2).2)
def decM : (l : List (Nat × (CS × Flag))) → Mem → (R : Type) → R → Option (denM l R)
  | [], m, _, r => (match m with
    | [] => some r
    | _ => none)
  | u :: us, m, R, r => (match m with
    | x :: xs => if x.1 = u.1 ∧ x.2.2 = u.2.2 then (match decM us xs R r with
      | some y => u.2.1.dec x.2.1 (denM us R) y
      | none => none) else none
    | _ => none)

structure Shape where
  n : Nat
  ts : List Nat
  vs : VS
  nx : Nat
  M : List (Nat × (CS × Flag))
  gh : VS
  pend : Option AExit
def Shape.den (S : Shape) : Type := S.vs.den (S.gh.den (denM S.M Unit))
def shapeOf (st : AState) : Shape := ⟨st.n, st.tmps.map (·.1), shapeL (st.tmps.map (·.2)), st.nx, st.M.map fun u => (u.1, (u.2.1.shape, u.2.2)), shapeL st.gh, st.pend⟩
def Shape.enc (S : Shape) (x : S.den) : AState :=
  { n := S.n, tmps := zipT S.ts (S.vs.enc (S.gh.den (denM S.M Unit)) x).1, nx := S.nx, M := (encM S.M Unit (S.gh.enc (denM S.M Unit) (S.vs.enc (S.gh.den (denM S.M Unit)) x).2).2).1, gh := (S.gh.enc (denM S.M Unit) (S.vs.enc (S.gh.den (denM S.M Unit)) x).2).1, pend := S.pend }
def Shape.dec (S : Shape) (st : AState) : Option S.den :=
  if st.n = S.n ∧ st.nx = S.nx ∧ st.tmps.map (·.1) = S.ts ∧ st.pend = S.pend then (match decM S.M st.M Unit () with
    | some y => (match S.gh.dec st.gh (denM S.M Unit) y with
      | some z => S.vs.dec (st.tmps.map (·.2)) (S.gh.den (denM S.M Unit)) z
      | none => none)
    | none => none) else none

/-- A loop, over the leaves of its states. -/
def loopA (S : Shape) (ks : List Nat) (body : AState → (AExit → AState → Prop) → Prop) (s0 : AState) (k : AExit → AState → Prop) : Prop :=
  match S.dec s0 with
  | some x => Loop (fun K x => body (S.enc x) (fun e st' => match e with
    | .normal => (match S.dec (canon ks (frzK ks st')) with
      | some y => K y
      | none => False)
    | e => k e st')) x
  | none => False

def argT : List AVal → Nat → List (Nat × AVal)
  | [], _ => []
  | v :: vs, i => (i, v) :: argT vs (i + 1)

/-! ### values without a call for a round -/

mutual
def AVal.noY : AVal → Bool
  | .yieldv => false
  | .iptr cs => noYL cs
  | .agg cs => noYL cs
  | .tup cs => noYL cs
  | .fn _ a b => noYL a && noYL b
  | _ => true
def noYL : List AVal → Bool
  | [] => true
  | v :: vs => v.noY && noYL vs
end
def Cont.noY : Cont → Bool
  | .box cs => noYL cs
  | _ => true
def noYC : List Cont → Bool
  | [] => true
  | c :: cs => c.noY && noYC cs
def noYM : Mem → Bool
  | [] => true
  | u :: us => u.2.1.noY && noYM us

/-! ### regions that draw their order and only read: their text serves every order -/

def hasLook : List Oper → Bool
  | [] => false
  | o :: os => (match o.op with
    | .lookup .. => true
    | _ => false) || hasLook os

def stillOp : Op → Bool
  | .move _ => true
  | .assign _ => true
  | .load _ _ => true
  | .fieldAddr _ _ _ => true
  | .extract _ _ => true
  | _ => false

def ptrVal : AVal → Bool
  | .ptr _ _ => true
  | .iptr _ => true
  | .aptr _ => true
  | _ => false

def awpStill (Γ : Env) (P : Program) : List Oper → AState → (AState → Prop) → Prop
  | [], st, k => k st
  | o :: rest, st, k => if okDst st.n o.dst && o.guard.isNone then (match o.op with
    | .lookup t x i ck => lookA P t (evA st.tmps x) (evA st.tmps i) ck (fun v => awpStill Γ P rest { st with tmps := putA o.dst v st.tmps } k)
    | .nilCheck x => if ptrVal (evA st.tmps x) then awpStill Γ P rest { st with tmps := putA o.dst (evA st.tmps x) st.tmps } k else False
    | op => if stillOp op then awpQ Γ P o (evA st.tmps) st.nx (mget st.M) (fun q => if q.new.isEmpty && q.use.isEmpty then awpStill Γ P rest { st with tmps := putA o.dst q.val st.tmps } k else False) else False) else False

/-- Where code runs: in a function; in an iterator; in a round. -/
inductive Where where
  | top
  | it (h : Hand)
  | rd
def Where.hand : Where → Option Hand
  | .it h => some h
  | _ => none
def Where.flat : Where → Bool
  | .rd => false
  | _ => true

/-! ### ranges over a function -/

def setArgs : List Nat → List AVal → List (Nat × AVal) → List (Nat × AVal)
  | p :: ps, v :: vs, tm => setArgs ps vs ((p, v) :: tm)
  | _, _, tm => tm

def AExit.isNormal : AExit → Bool
  | .normal => true
  | _ => false
def AExit.left : AExit → Option AExit
  | .normal => none
  | e => some e

def allLt (n : Nat) : List Nat → Bool
  | [] => true
  | a :: l => decide (a < n) && allLt n l

/-- One round: the loop's variables are set; the body runs in the frame as it was where the loop began. -/
def handA (n0 : Nat) (nums ps : List Nat) (assign body : AState → (AExit → AState → Prop) → Prop) : Hand := fun args sti kk =>
  if sti.pend = none ∧ args.length = ps.length ∧ allLt n0 ps = true ∧ noYL args = true ∧ noYM sti.M = true then
    assign { n := n0, tmps := setArgs ps args (zipT nums (sti.gh.take nums.length)), nx := sti.nx, M := sti.M, gh := (dedup (sti.tmps.map (·.1))).map (aget sti.tmps) ++ sti.gh, pend := none }
      (fun e s1 => match e with
        | .normal => body s1 (fun e s2 => if noYM s2.M = true then kk e.isNormal { n := sti.n, tmps := zipT (dedup (sti.tmps.map (·.1))) (s2.gh.take (dedup (sti.tmps.map (·.1))).length), nx := s2.nx, M := s2.M, gh := s2.gh.drop (dedup (sti.tmps.map (·.1))).length, pend := e.left } else False)
        | _ => False)
  else False

/-- How iterators are run: with a handler of rounds, which function, on which arguments, from which state. -/
abbrev Iter := Hand → FuncId → List AVal → AState → (AState → Prop) → Prop

def rangeA (IT : Iter) (g : Operand) (ps : List Nat) (assign body : AState → (AExit → AState → Prop) → Prop) (s0 : AState) (k : AExit → AState → Prop) : Prop :=
  match evA s0.tmps g with
  | .fn (.func gf) [] cap => if noYL cap = true ∧ noYM s0.M = true then
      IT (handA s0.n (s0.tmps.map (·.1)) ps assign body) gf (.yieldv :: cap) s0 (fun s1 =>
        if noYM s1.M = true then
          k (s1.pend.getD .normal) { n := s0.n, tmps := zipT (s0.tmps.map (·.1)) (s1.gh.take (s0.tmps.map (·.1)).length), nx := s1.nx, M := s1.M, gh := s1.gh.drop (s0.tmps.map (·.1)).length, pend := s0.pend }
        else False) else False
  | _ => False

/-- Maps of one's own (1); or memories (2). -/
def modeX : List Nat → Nat
  | [] => 1
  | _ => 2

/-- A region that draws its order and has a round of an iterator: the handler, and where it is cut. -/
def handCut (draw : Bool) (Y : Option Hand) (ops : Array Oper) : Option (Hand × Nat) := match draw, Y with
  | true, some h => (match cutOf ops with
    | some c => some (h, c)
    | none => none)
  | _, _ => none
def awp (Γ : Env) (P : Program) (keep : Nat → List Nat) (IT : Iter) : Code → Where → AState → (AExit → AState → Prop) → Prop
  | .skip, _, st, k => k .normal st
  | .region _ ops draw, Y, st, k => if dstsOk st.n ops.toList then if draw && (Y.flat && hasLook ops.toList) then (if Region.lexB .any ops then awpStill Γ P ops.toList st (fun st' => k .normal st') else False) else (match handCut draw Y.hand ops with
    | some (h, c) => awpOps Γ none 0 P (preOf ops c) (preOf ops c).toList st [] (fun st' tr => if drawOk (preOf ops c) tr.reverse then awpOps Γ (some h) 0 P ops (ops.toList.drop c) st' [] (fun st'' _ => k .normal st'') else False)
    | none => awpOps Γ (if draw then none else Y.hand) (if draw then 0 else modeX (keep 999999)) P ops ops.toList st [] (fun st' tr => if draw then (if drawOk ops tr.reverse then k .normal st' else False) else k .normal st')) else False
  | .seq a b, Y, st, k => awp Γ P keep IT a Y st (fun e st' => match e with
    | .normal => awp Γ P keep IT b Y st' k
    | e => k e st')
  | .cond c a b, Y, st, k => match evA st.tmps c with
    | .bool x => br x (awp Γ P keep IT a Y st k) (awp Γ P keep IT b Y st k)
    | _ => False
  | .block id c, Y, st, k => awp Γ P keep IT c Y st (fun e st' => match e with
    | .exit i => if i = id then k .normal st' else k (.exit i) st'
    | e => k e st')
  | .loop c, Y, st, k => loopA (shapeOf (canon (keep (loopKey c)) (frzK (keep (loopKey c)) st))) (keep (loopKey c)) (fun s k' => awp Γ P keep IT c Y s k') (canon (keep (loopKey c)) (frzK (keep (loopKey c)) st)) k
  | .exit id, _, st, k => k (.exit id) st
  | .ret, _, st, k => k .ret st
  | .scope c, Y, st, k => awp Γ P keep IT c Y st k
  | .label _, _, st, k => k .normal st
  | .rangeFunc g ps assign body, _, st, k => rangeA IT g ps.toList (fun s k' => awp Γ P keep IT assign .rd s k') (fun s k' => awp Γ P keep IT body .rd s k') (canon (keep (1000 + loopKey body)) st) k
  | _, _, _, _ => False

/-- No iterators. -/
def iter0 : Iter := fun _ _ _ _ _ => False

/-- Iterators that hold no range over a function themselves. -/
def iterA (Γ : Env) (P : Program) (kt : FuncId → Nat → List Nat) (IT : Iter) : Iter := fun h gf args s0 k =>
  match P.funcs[gf]? with
  | some fi => (match fi.body with
    | some c => if Code.textsOk c = true ∧ fi.results.size = 0 ∧ (fi.name == "runtime.NumGoroutine") = false then awp Γ P (kt gf) IT c (.it h) { n := max args.length fi.ntmps, tmps := argT args 0, nx := s0.nx, M := s0.M, gh := (s0.tmps.map (·.1)).map (aget s0.tmps) ++ s0.gh, pend := none }
        (fun e s => match e with
          | .normal => k s
          | .ret => k s
          | .exit _ => False) else False
    | none => False)
  | none => False

/-! ### functions -/

/-- What is handed back belongs to a region that was handed over. -/
def ofHanded (hl : List Nat) : AVal → Bool
  | .reg r _ => hl.contains r
  | .sub r _ _ _ => hl.contains r
  | .mref r => hl.contains r
  | _ => false

/-! ### values that hang on known cells alone -/
mutual
def AVal.plainV : AVal → Bool
  | .bool _ => true
  | .int _ _ => true
  | .nilc => true
  | .nils _ => true
  | .imm _ _ _ => true
  | .arrv _ _ => true
  | .nilfn => true
  | .iptr cs => plainVs cs
  | .agg cs => plainVs cs
  | .tup cs => plainVs cs
  | .fn _ a b => plainVs a && plainVs b
  | _ => false
def plainVs : List AVal → Bool
  | [] => true
  | a :: us => a.plainV && plainVs us
end

/-- A result: by its view; or, where slices are to be handed back as the caller's own, those of one's own as such. -/
def outOne (imm : Bool) (m : Mm) (hl : List Nat) (v : AVal) (n : Nat) : Option (AVal × List Cont × List (Nat × Flag)) :=
  if ofHanded hl v then some (v.ren hl, [], []) else
  match imm, v with
  | false, .reg r _ => (match m r with
    | some (.sl t l, .own) => some (.reg n false, [.sl t l], [(r, .dead)])
    | _ => none)
  | false, .mref r => (match m r with
    | some (.mp mk l clk, .own) => some (.mref n, [.mp mk l clk], [(r, .dead)])
    | _ => none)
  | false, .nils t => some (.reg n false, [.sl t []], [])
  | _, .imm t l true => some (.imm t l true, [], [])
  | _, .agg cs => if plainVs cs then some (.agg cs, [], []) else (match view m 6 (.agg cs) with
    | some (v', rs) => some (v'.ren hl, [], frzAll rs)
    | none => none)
  | _, v => (match view m 6 v with
    | some (v', rs) => some (v'.ren hl, [], frzAll rs)
    | none => none)

def outAll (imm : Bool) (hl : List Nat) : Mm → List AVal → Nat → Option (List AVal × List Cont)
  | _, [], _ => some ([], [])
  | m, v :: vs, n => match outOne imm m hl v n with
    | some (v', c, u) => match outAll imm hl (flagsM m u) vs (n + c.length) with
      | some (vs', cs) => some (v' :: vs', c ++ cs)
      | none => none
    | none => none

def resA (P : Program) (m : Mm) (tm : List (Nat × AVal)) : ResultVar → Option AVal
  | .tmp t => some (aget tm t)
  | .cell a t => match aget tm a with
    | .ptr r off => match m r with
      | some (.box cells, f) => if f = .dead then none else ldA P t (cells.drop off)
      | _ => none
    | .aptr r => (match m r, P.underlying t with
      | some (.sl ty l, f), some (.array _ _) => if f = .dead then none else some (.arrv ty l)
      | _, _ => none)
    | _ => none

/-- Arrays that are results are as long as their type says. -/
def resCond (P : Program) (m : Mm) (tm : List (Nat × AVal)) : List ResultVar → Prop → Prop
  | [], q => q
  | r :: rs, q => match r with
    | .tmp _ => resCond P m tm rs q
    | .cell a t => match aget tm a with
      | .aptr r => (match m r with
        | some (.sl ty l, _) => l.length * ty.size = sizeT P t ∧ resCond P m tm rs q
        | _ => resCond P m tm rs q)
      | _ => resCond P m tm rs q

def resAll (P : Program) (m : Mm) (tm : List (Nat × AVal)) : List ResultVar → Option (List AVal)
  | [] => some []
  | r :: rs => match resA P m tm r, resAll P m tm rs with
    | some v, some vs => some (v :: vs)
    | _, _ => none

def regNo : AVal → Option Nat
  | .reg r _ => some r
  | .mref r => some r
  | _ => none
def sameKind : Cont → Cont → Bool
  | .sl t _, .sl t' _ => decide (t = t')
  | .mp mk _ _, .mp mk' _ _ => decide (mk = mk')
  | _, _ => false
/-- The regions that were handed over, and what they hold now. -/
def handedBack (m : Mm) : List AVal → List Cont → Option (List Nat × List Cont)
  | [], [] => some ([], [])
  | v :: vs, c :: cs => match regNo v with
    | some r => (match m r with
      | some (c', .own) => if sameKind c c' then (match handedBack m vs cs with
        | some (hl, cs') => some (r :: hl, c' :: cs')
        | none => none) else none
      | _ => none)
    | none => none
  | _, _ => none
def deadAll : List Nat → List (Nat × Flag)
  | [] => []
  | r :: rs => (r, .dead) :: deadAll rs

def retA (imm : Bool) (P : Program) (fn : Func) (cs0 : List Cont) (st : AState) (k : AVal → List Cont → Prop) : Prop :=
  match handedBack (mget st.M) st.gh cs0 with
  | some (hl, hcs) => if nodupN hl then (match resAll P (mget st.M) st.tmps fn.results.toList with
    | some vs => resCond P (mget st.M) st.tmps fn.results.toList (match outAll imm hl (flagsM (mget st.M) (deadAll hl)) (typedL P fn.resultTypes.toList vs) hcs.length with
      | some ([v], cs) => if v.noY && noYC cs then k v (hcs ++ cs) else False
      | some (vs, cs) => if noYL vs && noYC cs then k (.tup vs) (hcs ++ cs) else False
      | none => False)
    | none => False) else False
  | none => False

def argM : List Cont → Nat → Mem
  | [], _ => []
  | c :: cs, i => (i, (c, .own)) :: argM cs (i + 1)

/-- The arguments that are regions handed over, in order. -/
def handRefs : List AVal → List AVal
  | [] => []
  | v :: vs => match v with
    | .reg r f => .reg r f :: handRefs vs
    | .mref r => .mref r :: handRefs vs
    | _ => handRefs vs
def handNums : List AVal → Nat → List Cont → Bool
  | [], _, [] => true
  | v :: vs, i, c :: cs => (match v, c with
    | .reg r _, .sl _ _ => decide (r = i)
    | .mref r, .mp _ _ _ => decide (r = i)
    | _, _ => false) && handNums vs (i + 1) cs
  | _, _, _ => false

/-- A function's body, from its arguments on. -/
def awpF (Γ : Env) (P : Program) (kt : FuncId → Nat → List Nat) (f : FuncId) (imm : Bool) (fn : Func) (as : List AVal) (cs : List Cont) (k : AVal → List Cont → Prop) : Prop :=
  match fn.body with
  | some c => if noYL as && noYC cs && handNums (handRefs as) 0 cs then awp Γ P (kt f) (iterA Γ P kt iter0) c .top { n := max as.length fn.ntmps, tmps := argT as 0, nx := cs.length, M := argM cs 0, gh := handRefs as, pend := none } (fun e st => match e with
    | .normal => retA imm P fn cs st k
    | .ret => retA imm P fn cs st k
    | .exit _ => False) else False
  | none => False

attribute [irreducible] awpF
end Go.Abs
end

section
/- Contracts, by shapes of arguments. -/
namespace Go.Abs
/-- The leaves of what handed regions hold. -/
def denC : List CS → Type → Type
  | [], R => R
  | c :: cs, R => c.den (denC cs R)
def encC : (l : List CS) → (R : Type) → denC l R → List Cont × R
  | [], _, x => ([], x)
  | c :: cs, R, x => ((c.enc (denC cs R) x).1 :: (encC cs R (c.enc (denC cs R) x).2).1, (encC cs R (c.enc (denC cs R) x).2).2)
def decC : (l : List CS) → List Cont → (R : Type) → R → Option (denC l R)
  | [], v, _, r => (match v with
    | [] => some r
    | _ => none)
  | c :: cs, v, R, r => (match v with
    | x :: xs => (match decC cs xs R r with
      | some y => c.dec x (denC cs R) y
      | none => none)
    | _ => none)

/-- What a function does at arguments of one shape (and regions of these shapes, handed over with them). -/
structure Var where
  S : VS
  C : List CS
  pre : S.den (denC C Unit) → Prop
  res : S.den (denC C Unit) → RTree

abbrev Var.D (v : Var) : Type := v.S.den (denC v.C Unit)
def Var.p (v : Var) (x : v.D) : Prop := v.pre x
def Var.dec (v : Var) (as : List AVal) (cs : List Cont) : Option v.D := match decC v.C cs Unit () with
  | some y => v.S.dec as (denC v.C Unit) y
  | none => none
def Var.args (v : Var) (x : v.D) : List AVal := (v.S.enc (denC v.C Unit) x).1
def Var.conts (v : Var) (x : v.D) : List Cont := (encC v.C Unit (v.S.enc (denC v.C Unit) x).2).1

def preVars : List Var → List AVal → List Cont → Prop
  | [], _, _ => False
  | v :: vs, as, cs => match v.dec as cs with
    | some x => v.p x
    | none => preVars vs as cs
def resVars : List Var → List AVal → List Cont → RTree
  | [], _, _ => .leaf .unk []
  | v :: vs, as, cs => match v.dec as cs with
    | some x => v.res x
    | none => resVars vs as cs

def upTo : Nat → Nat → List Nat
  | _, 0 => []
  | i, n + 1 => i :: upTo (i + 1) n

/-- At which places arguments of this shape are regions handed over. -/
def VS.hand : VS → Nat → List Nat
  | .cs a l, i => (match a with
    | .reg _ _ => [i]
    | .mref _ => [i]
    | .nils _ => [i + 1000]
    | _ => []) ++ l.hand (i + 1)
  | _, _ => []
def handOf : List Var → List Nat
  | [] => []
  | v :: _ => v.S.hand 0

def mkC (vs : List Var) : Contract where
  pre := fun as cs => preVars vs (renL (upTo 0 cs.length) as) cs
  res := fun as cs => resVars vs (renL (upTo 0 cs.length) as) cs
  hand := handOf vs

def envOf : List (FuncId × Contract) → Env
  | [], _ => none
  | (g, c) :: l, f => if g = f then some c else envOf l f

/-- The same, of arguments below a measure alone. -/
def Var.below (v : Var) (μ : v.D → Nat) (n : Nat) : Var := ⟨v.S, v.C, fun x => v.pre x ∧ μ x < n, v.res⟩

end Go.Abs
end

section
/- Which temporaries loops keep (found by a program). -/
namespace Go.Abs.Label
def lk {α : Type} (d : α) : List (Nat × α) → Nat → α
  | [], _ => d
  | (i, x) :: r, k => if i = k then x else lk d r k
def keeps : List (Nat × List (Nat × List Nat)) := [
  (11, [(5, [1, 3, 4])]),
  (51, [(4, [1, 3]), (9, [1, 4]), (14, [1, 5])]),
  (29, [(4, [0, 1, 5])]),
  (28, [(8, [10, 11, 34]), (13, [10, 13, 46, 47, 48])]),
  (38, [(4, [0, 1, 5])]),
  (30, [(1009, [6, 7, 9, 10, 27, 28])]),
  (23, [(1007, [4, 7, 8, 23, 24])]),
  (16, [(9, [2, 3, 9, 10, 42, 43, 44])]),
  (18, [(4, [1, 2, 3, 4, 9]), (8, [1, 2, 3, 4, 9, 10, 11])]),
  (22, [(3, [0, 1, 5, 6])]),
  (17, [(6, [1, 2, 3, 4, 9]), (13, [2, 3, 4, 10, 11, 12])]),
  (53, [(3, [0, 3, 4, 5, 6, 10]), (1005, [0, 3, 4, 5, 6, 9, 10])]),
  (62, [(3, [1, 3, 5])]),
  (47, [(2, [1, 2, 5]), (5, [1, 2, 5, 6])]),
  (25, [(3, [0, 3, 4])]),
  (46, [(3, [2, 5, 6])]),
  (72, [(3, [1, 5, 8, 9, 10])]),
  (26, [(2, [0, 1, 5])]),
  (56, [(3, [3, 6])]),
  (57, [(1004, [5, 7, 8, 15, 16]), (8, [7, 9, 25]), (12, [7, 9, 34, 35, 36])]),
  (59, [(3, [1, 4, 5, 12, 13, 14])]),
  (63, [(3, [1, 5, 12, 13, 14])]),
  (65, [(2, [0, 1, 9, 10, 11])]),
  (66, [(3, [0, 3, 9, 10, 11]), (11, [6, 25, 26, 27])]),
  (49, [(3, [2, 3, 6, 7, 8])]),
  (31, [(3, [1, 2, 4, 5, 6])]),
  (44, [(3, [2, 3, 4, 8, 9, 10, 15, 21, 77]), (1005, [2, 3, 4, 8, 9, 10, 15, 20, 21, 77]), (1020, [2, 3, 4, 11, 13, 15, 75, 77])]),
  (83, [(4, [3, 4, 5, 13, 14, 15])]),
  (77, [(2, [0, 1, 7, 8])]),
  (82, [(2, [0, 1, 3])]),
  (80, [(1, [0, 2, 3])]),
  (81, [(2, [0, 2, 3, 5, 9, 2000003])]),
  (92, [(1, [0, 1, 2, 8, 9])]),
  (91, [(2, [0, 1, 7, 8])]),
  (96, [(2, [0, 1, 2, 3, 4, 10, 11])]),
  (98, [(2, [0, 1, 7, 8])]),
  (93, [(1, [0, 1, 3])]),
  (102, [(1, [0, 1, 2, 3, 8]), (4, [0, 1, 2, 3, 8, 9])]),
  (103, [(4, [0, 3, 8, 9, 10, 11]), (8, [0, 3, 8, 9, 12])]),
  (104, [(5, [0, 1, 8, 9, 10, 11])]),
  (106, [(2, [0, 8, 9])]),
  (107, [(3, [0, 1, 2, 3, 9, 10]), (5, [0, 1, 2, 3, 9, 10]), (14, [0, 1, 2, 3, 9, 10, 11]), (20, [0, 1, 2, 3, 9, 10, 12])]),
  (108, [(3, [0, 1, 4, 11, 12]), (3, [0, 1, 4, 11, 12]), (5, [0, 1, 4, 11, 12])]),
  (109, [(3, [0, 1, 4, 12, 13]), (5, [0, 1, 4, 12, 13]), (13, [0, 1, 4, 12, 13]), (13, [0, 1, 4, 12, 13]), (15, [0, 1, 4, 12, 13])]),
  (112, [(1, [0, 2, 3, 4, 10])]),
  (5, [(11, [4, 10, 11, 15, 17, 18, 19]), (20, [4, 10, 11, 15, 17, 18, 19, 20, 24])]),
  (6, [(15, [3, 8, 11, 13, 14, 15, 17, 18]), (24, [3, 8, 11, 13, 14, 15, 17, 18, 22])]),
  (9, [(6, [1, 3, 4, 9, 10, 11])]),
  (27, [(2, [0, 1, 5])]),
  (33, [(3, [0, 1, 2, 7, 8])])]
def kt (f k : Nat) : List Nat := lk [] (lk [] keeps f) k
end Go.Abs.Label
end

section
/- What the label's functions compute: plain definitions. -/
namespace Go.Abs.Label
/-- Longer than any list that can come in. -/
abbrev big60 : Nat := 1152921504606846976
def maxIf (rs : List (List Int × Int)) : Nat := rs.foldl (fun n r => max n r.1.length) 0
def greatG (rs : List (List Int × Int)) : Bool := decide (20 < rs.length ∨ 8 < maxIf rs)
def longL (a : List Int) : Bool := decide (20 < a.length)
def eqL (a b : List Int) : Bool := decide (a = b)
def eqLL (a b : List (List Int)) : Bool := decide (a = b)
def indexOf {α : Type} (p : α → Bool) : List α → Int
  | [] => -1
  | x :: l => if p x then 0 else (if indexOf p l < 0 then -1 else indexOf p l + 1)
def outOf (lo hi y : Int) : Bool := decide (y < lo ∨ hi < y)
def anyOut (lo hi : Int) (l : List Int) : Bool := l.any (outOf lo hi)
def rises : Int → List Int → Int → Bool
  | _, [], _ => true
  | a, x :: l, b => decide (a ≤ x ∧ x < b) && rises (x + 1) l b
def isList (l : List Int) (b : Int) : Bool := rises 0 l b
/-- Is a list before another one? A beginning comes first. -/
def before : List Int → List Int → Bool
  | a :: l, b :: m => if a = b then before l m else decide (a < b)
  | [], _ :: _ => true
  | _, [] => false
def listed (bits : Nat) (n : Nat) : List Int := ((List.range n).filter (fun i => bits.testBit i)).map Int.ofNat
/-! guilds -/
def ifLong (r : List Int × Int) : Bool := decide (4 < r.1.length)
def ifBad (w : Int) (r : List Int × Int) : Bool := !isList r.1 w
def thenBad (w : Int) (r : List Int × Int) : Bool := outOf (-1) (w - 1) r.2
def anyLong (rs : List (List Int × Int)) : Bool := rs.any ifLong
def anyIf (w : Int) (rs : List (List Int × Int)) : Bool := rs.any (ifBad w)
def anyThen (w : Int) (rs : List (List Int × Int)) : Bool := rs.any (thenBad w)
def guildErr (w : Int) (rs : List (List Int × Int)) : Int :=
  if w < 1 ∨ 10 < w ∨ 12 < rs.length then 6 else if anyLong rs then 6 else if anyIf w rs then 2 else if anyThen w rs then 3 else 0
def labelErr (w : Int) (rs : List (List Int × Int)) (l : List Int) : Int := if guildErr w rs ≠ 0 then guildErr w rs else if isList l w then 0 else 2
def leIs (w : Int) (rs : List (List Int × Int)) (l : List Int) (e : Int) : Bool := decide (labelErr w rs l = e)
/-! sets, by bits -/
def bitsL (l : List Int) : Nat := l.foldl (fun b x => b ||| 2 ^ x.toNat) 0
/-- All of the first are in the second. -/
def subB (a b : Nat) : Bool := decide (b &&& a = a)
def stepR (b : Nat) (r : List Int × Int) : Nat := if 0 ≤ r.2 ∧ subB (bitsL r.1) b = true then b ||| 2 ^ r.2.toNat else b
def passR (rs : List (List Int × Int)) (b : Nat) : Nat := rs.foldl stepR b
def iterR (rs : List (List Int × Int)) : Nat → Nat → Nat
  | 0, b => b
  | n + 1, b => iterR rs n (passR rs b)
/-- What follows. -/
def clo (w : Int) (rs : List (List Int × Int)) (b : Nat) : Nat := iterR rs (w.toNat + 1) b
def banR (all : Nat) (r : List Int × Int) : Bool := decide (r.2 < 0) && subB (bitsL r.1) all
def banned (w : Int) (rs : List (List Int × Int)) (b : Nat) : Bool := rs.any (banR (clo w rs b))
def cnt (b : Nat) : Nat := (listed b 10).length
def andNot (a b : Nat) : Nat := a &&& (1023 ^^^ b)
/-! the same, of integers -/
def andI (b w : Int) : Int := ((b.toNat ||| 2 ^ w.toNat : Nat) : Int)
def hasI (s t : Int) : Bool := subB t.toNat s.toNat
def cntI (b : Int) : Int := (cnt b.toNat : Int)
def listI (b : Int) : List Int := listed b.toNat 10
def bitsI (l : List Int) : Int := (bitsL l : Int)
def listedI (b n : Int) : List Int := listed b.toNat n.toNat
def fromI (w : Int) (rs : List (List Int × Int)) (b : Int) : Int := (clo w rs b.toNat : Int)
def banI (w : Int) (rs : List (List Int × Int)) (b : Int) : Bool := banned w rs b.toNat
def clsI (w : Int) (rs : List (List Int × Int)) (b : Int) : Bool := decide (fromI w rs b = b) && !banI w rs b
def wants (rs : List (List Int × Int)) (b : Int) : List Int := rs.map (fun r => (cnt (andNot (bitsL r.1) b.toNat) : Int)) ++ List.replicate (12 - rs.length) 0
def hasR (s : Int) (r : List Int × Int) : Bool := subB (bitsL r.1) s.toNat
def ban2 (whole : Bool) (s : Int) (r : List Int × Int) : Bool := decide (r.2 < 0) && (whole || hasR s r)
def anyBan2 (whole : Bool) (s : Int) (rs : List (List Int × Int)) : Bool := rs.any (ban2 whole s)
def ban3 (s : Int) (r : List Int × Int) : Bool := decide (r.2 < 0) && hasR s r
end Go.Abs.Label
end

section
/- The contracts of the label's functions. -/
namespace Go.Abs.Label
abbrev sI : VS := .int .i64
abbrev sL : VS := .imm (.int .i64) false
abbrev sLL : VS := .imm (.slice (.int .i64)) false
abbrev sRL : VS := .imm (.pair (.slice (.int .i64)) (.int .i64)) false
abbrev sG : VS := .agg (.cs sI (.cs sRL .nl))
abbrev sD : VS := .iptr (.cs sI (.cs sRL .nl))
abbrev sS : VS := .agg (.cs sI .nl)
abbrev sR : VS := .agg (.cs sL (.cs sI .nl))
abbrev rI (n : Int) : AVal := .int .i64 n
abbrev rS (n : Int) : AVal := .agg [.int .i64 n]
abbrev rBo (b : Bool) : AVal := .bool b
abbrev nilA : AVal := .sem nilP
abbrev one (v : AVal) : RTree := .leaf v []
abbrev own (l : List Int) : RTree := .leaf (.reg 0 false) [.sl (.int .i64) l]
abbrev ownE (l : List Int) (e : Int) : RTree := .leaf (.tup [.reg 0 false, rI e]) [.sl (.int .i64) l]
abbrev ownLE (l : List (List Int)) (e : Int) : RTree := .leaf (.tup [.reg 0 false, rI e]) [.sl (.slice (.int .i64)) l]
abbrev r2 (a b : Int) : RTree := one (.tup [rI a, rI b])
abbrev rBE (b : Bool) (e : Int) : RTree := one (.tup [rBo b, rI e])
/-- A guild that is right. -/
abbrev Gd (w : Int) (rs : List (List Int × Int)) : Prop := guildErr w rs = 0
abbrev smallG (rs : List (List Int × Int)) : Prop := greatG rs = false
abbrev inL (lo hi : Int) (l : List Int) : Prop := ∀ x ∈ l, lo ≤ x ∧ x ≤ hi
abbrev isB (b : Int) : Prop := 0 ≤ b ∧ b < 1024
abbrev desk (w : Int) (rs : List (List Int × Int)) : AVal := .iptr [rI w, .imm (.pair (.slice (.int .i64)) (.int .i64)) rs false]
def v9 : Var := ⟨.cs sL .nl, [], fun _ => True, fun x => one (rBo (longL x.1))⟩
def v17 : Var := ⟨.cs sL (.cs sL .nl), [], fun x => x.1.length ≤ big60 ∧ x.2.1.length ≤ big60, fun x => one (rBo (eqL x.1 x.2.1))⟩
def v22 : Var := ⟨.cs sLL (.cs sLL .nl), [], fun x => x.1.length ≤ 2000 ∧ x.2.1.length ≤ 2000 ∧ (∀ l ∈ x.1, l.length ≤ 1000) ∧ (∀ l ∈ x.2.1, l.length ≤ 1000), fun x => one (rBo (eqLL x.1 x.2.1))⟩
def v39 : Var := ⟨.cs sL .nl, [], fun _ => True, fun x => one (.imm (.int .i64) x.1 false)⟩
def v41 : Var := ⟨.cs sLL .nl, [], fun _ => True, fun x => one (.imm (.slice (.int .i64)) x.1 false)⟩
def v77 : Var := ⟨.cs sI (.cs sL .nl), [], fun _ => True, fun x => one (.agg [.imm (.int .i64) x.2.1 false, rI x.1])⟩
def v76 : Var := ⟨.cs sI (.cs sRL .nl), [], fun _ => True, fun x => one (.agg [rI x.1, .imm (.pair (.slice (.int .i64)) (.int .i64)) x.2.1 false])⟩
/- numbers within -/
def v82 : Var := ⟨.cs sI (.cs (.iptr (.cs sI .nl)) (.cs (.iptr (.cs sI .nl)) .nl)), [], fun _ => True, fun x => one (rBo (outOf x.2.1 x.2.2.1 x.1))⟩
abbrev sC82 : VS := .fn 75 .nl (.cs (.iptr (.cs sI .nl)) (.cs (.iptr (.cs sI .nl)) .nl))
def v96 : Var := ⟨.cs sL (.cs sC82 .nl), [], fun x => x.1.length ≤ big60, fun x => one (rI (indexOf (outOf x.2.1 x.2.2.1) x.1))⟩
def v81 : Var := ⟨.cs sL (.cs sC82 .nl), [], fun x => x.1.length ≤ big60, fun x => one (rBo (anyOut x.2.1 x.2.2.1 x.1))⟩
def v50 : Var := ⟨.cs sI (.cs sI (.cs sL .nl)), [], fun x => x.2.2.1.length ≤ big60, fun x => one (rBo (Bool.not (anyOut x.1 x.2.1 x.2.2.1)))⟩
def v54 : Var := ⟨.cs sL (.cs sI .nl), [], fun x => x.1.length ≤ big60 ∧ 0 ≤ x.2.1 ∧ x.2.1 ≤ 1000, fun x => one (rBo (isList x.1 x.2.1))⟩
def v56 : Var := ⟨.cs sL (.cs sI .nl), [], fun x => x.1.length ≤ big60 ∧ 0 ≤ x.2.1 ∧ x.2.1 ≤ 1000, fun x => one (rBo (isList x.1 x.2.1))⟩
/- guilds -/
def v52 : Var := ⟨.cs sR .nl, [], fun _ => True, fun x => one (rBo (ifLong (x.1, x.2.1)))⟩
def v53 : Var := ⟨.cs sR (.cs (.iptr (.cs sI (.cs sRL .nl))) .nl), [], fun x => x.1.length ≤ 1000 ∧ 0 ≤ x.2.2.1 ∧ x.2.2.1 ≤ 1000, fun x => one (rBo (ifBad x.2.2.1 (x.1, x.2.1)))⟩
def v55 : Var := ⟨.cs sR (.cs (.iptr (.cs sI (.cs sRL .nl))) .nl), [], fun x => 0 ≤ x.2.2.1 ∧ x.2.2.1 ≤ 1000, fun x => one (rBo (thenBad x.2.2.1 (x.1, x.2.1)))⟩
abbrev sC52 : VS := .fn 70 .nl .nl
abbrev sC53 : VS := .fn 71 .nl (.cs (.iptr (.cs sI (.cs sRL .nl))) .nl)
abbrev sC55 : VS := .fn 73 .nl (.cs (.iptr (.cs sI (.cs sRL .nl))) .nl)
abbrev shortIfs (rs : List (List Int × Int)) : Prop := ∀ r ∈ rs, r.1.length ≤ 1000
def v83a : Var := ⟨.cs sRL (.cs sC52 .nl), [], fun x => x.1.length ≤ 1000, fun x => one (rI (indexOf ifLong x.1))⟩
def v83b : Var := ⟨.cs sRL (.cs sC53 .nl), [], fun x => x.1.length ≤ 1000 ∧ shortIfs x.1 ∧ 0 ≤ x.2.1 ∧ x.2.1 ≤ 1000, fun x => one (rI (indexOf (ifBad x.2.1) x.1))⟩
def v83c : Var := ⟨.cs sRL (.cs sC55 .nl), [], fun x => x.1.length ≤ 1000 ∧ 0 ≤ x.2.1 ∧ x.2.1 ≤ 1000, fun x => one (rI (indexOf (thenBad x.2.1) x.1))⟩
def v51a : Var := ⟨.cs sRL (.cs sC52 .nl), [], fun x => x.1.length ≤ 1000, fun x => one (rBo (anyLong x.1))⟩
def v51b : Var := ⟨.cs sRL (.cs sC53 .nl), [], fun x => x.1.length ≤ 1000 ∧ shortIfs x.1 ∧ 0 ≤ x.2.1 ∧ x.2.1 ≤ 1000, fun x => one (rBo (anyIf x.2.1 x.1))⟩
def v51c : Var := ⟨.cs sRL (.cs sC55 .nl), [], fun x => x.1.length ≤ 1000 ∧ 0 ≤ x.2.1 ∧ x.2.1 ≤ 1000, fun x => one (rBo (anyThen x.2.1 x.1))⟩
def v15 : Var := ⟨.cs sG .nl, [], fun x => smallG x.2.1, fun x => one (rI (guildErr x.1 x.2.1))⟩
def v16 : Var := ⟨.cs sG .nl, [], fun x => smallG x.2.1, fun x => one (rI (guildErr x.1 x.2.1))⟩
def v45 : Var := ⟨.cs sG (.cs sL .nl), [], fun x => smallG x.2.1 ∧ x.2.2.1.length ≤ 1000, fun x => one (rI (labelErr x.1 x.2.1 x.2.2.1))⟩
/- sets -/
def v57 : Var := ⟨.cs sS (.cs sI .nl), [], fun x => isB x.1 ∧ 0 ≤ x.2.1 ∧ x.2.1 ≤ 9, fun x => one (rS (andI x.1 x.2.1))⟩
def v59 : Var := ⟨.cs sS (.cs sS .nl), [], fun x => isB x.1 ∧ isB x.2.1, fun x => one (rBo (hasI x.1 x.2.1))⟩
def v101 : Var := ⟨.cs (.int .u64) .nl, [], fun x => isB x.1, fun x => one (rI (cntI x.1))⟩
def v87 : Var := ⟨.cs (.int .u64) .nl, [], fun x => isB x.1, fun x => one (rI (cntI x.1))⟩
def v66 : Var := ⟨.cs sS .nl, [], fun x => isB x.1, fun x => one (rI (cntI x.1))⟩
def v44 : Var := ⟨.cs sS .nl, [], fun x => isB x.1, fun x => own (listI x.1)⟩
def v73 : Var := ⟨.cs sL .nl, [], fun x => x.1.length ≤ 1000 ∧ inL 0 9 x.1, fun x => one (rS (bitsI x.1))⟩
def v47 : Var := ⟨.cs sL .nl, [], fun x => x.1.length ≤ 1000 ∧ inL 0 9 x.1, fun x => one (rI (bitsI x.1))⟩
/- what follows -/
def v46 : Var := ⟨.cs sG (.cs sI .nl), [], fun x => Gd x.1 x.2.1 ∧ isB x.2.2.1, fun x => one (rI (fromI x.1 x.2.1 x.2.2.1))⟩
def v79 : Var := ⟨.cs sD (.cs sS .nl), [], fun x => Gd x.1 x.2.1 ∧ isB x.2.2.1, fun x => one (.arrv (.int .i64) (wants x.2.1 x.2.2.1))⟩
def v78 : Var := ⟨.cs sD (.cs sS .nl), [], fun _ => True, fun x => .leaf (.fn (.func 92) [] [.iptr [desk x.1 x.2.1], .iptr [rI x.2.2.1]]) []⟩
def v43 : Var := ⟨.cs sD (.cs sS .nl), [], fun x => Gd x.1 x.2.1 ∧ isB x.2.2.1, fun x => one (rS (fromI x.1 x.2.1 x.2.2.1))⟩
abbrev sC59 : VS := .fn 48 (.cs sS .nl) .nl
def v80 : Var := ⟨.cs sR (.cs (.iptr (.cs .bool .nl)) (.cs (.iptr (.cs sC59 .nl)) .nl)), [], fun x => x.1.length ≤ 1000 ∧ inL 0 9 x.1 ∧ isB x.2.2.2.1, fun x => one (rBo (ban2 x.2.2.1 x.2.2.2.1 (x.1, x.2.1)))⟩
abbrev sC80 : VS := .fn 84 .nl (.cs (.iptr (.cs .bool .nl)) (.cs (.iptr (.cs sC59 .nl)) .nl))
abbrev goodIfs (rs : List (List Int × Int)) : Prop := ∀ r ∈ rs, r.1.length ≤ 1000 ∧ ∀ x ∈ r.1, 0 ≤ x ∧ x ≤ 9
def v83d : Var := ⟨.cs sRL (.cs sC80 .nl), [], fun x => x.1.length ≤ 1000 ∧ goodIfs x.1 ∧ isB x.2.2.1, fun x => one (rI (indexOf (ban2 x.2.1 x.2.2.1) x.1))⟩
def v51d : Var := ⟨.cs sRL (.cs sC80 .nl), [], fun x => x.1.length ≤ 1000 ∧ goodIfs x.1 ∧ isB x.2.2.1, fun x => one (rBo (anyBan2 x.2.1 x.2.2.1 x.1))⟩
def v48 : Var := ⟨.cs sD (.cs sS .nl), [], fun x => Gd x.1 x.2.1 ∧ isB x.2.2.1, fun x => one (rBo (banI x.1 x.2.1 x.2.2.1))⟩
/- openings -/
abbrev errsO (w : Int) (rs : List (List Int × Int)) (l : List Int) (f : Int → RTree) (ok : RTree) : RTree :=
  .br (leIs w rs l 6) (f 6) (.br (leIs w rs l 2) (f 2) (.br (leIs w rs l 3) (f 3) ok))
def v42 : Var := ⟨.cs sG (.cs sL .nl), [], fun x => smallG x.2.1 ∧ x.2.2.1.length ≤ 1000, fun x => errsO x.1 x.2.1 x.2.2.1 (fun e => one (.tup [nilA, rS 0, rI e])) (one (.tup [desk x.1 x.2.1, rS (bitsI x.2.2.1), rI 0]))⟩
def folL (w : Int) (rs : List (List Int × Int)) (l : List Int) : List Int := if labelErr w rs l = 0 then listedI (fromI w rs (bitsI l)) w else []
def banL (w : Int) (rs : List (List Int × Int)) (l : List Int) : Bool := decide (labelErr w rs l = 0) && banI w rs (bitsI l)
def v11 : Var := ⟨.cs sG (.cs sL .nl), [], fun x => smallG x.2.1 ∧ x.2.2.1.length ≤ 1000, fun x => ownE (folL x.1 x.2.1 x.2.2.1) (labelErr x.1 x.2.1 x.2.2.1)⟩
def v13 : Var := ⟨.cs sG (.cs sL .nl), [], fun x => smallG x.2.1 ∧ x.2.2.1.length ≤ 1000, fun x => rBE (banL x.1 x.2.1 x.2.2.1) (labelErr x.1 x.2.1 x.2.2.1)⟩
end Go.Abs.Label
end

section
/- What the label's functions compute: reasons, keys. -/
namespace Go.Abs.Label
def cmpL (a b : List Int) : Int := if a = b then 0 else if before a b = true then -1 else 1
def sortLL (l : List (List Int)) : List (List Int) := l.mergeSort (fun a b => !decide (cmpL b a < 0))
def partsN (s : Nat) : List Nat := (List.range (s + 1)).filter (fun p => subB p s)
def reasonOk (w : Int) (rs : List (List Int × Int)) (need p : Int) : Bool := hasI (fromI w rs p) need
def keyOk (w : Int) (rs : List (List Int × Int)) (whole p : Int) : Bool := decide (fromI w rs p = whole)
/-- The second is within the first, and less. -/
def properB (x y : Int) : Bool := decide (x ≠ y) && hasI x y
def goodsI (good : Int → Bool) (s : Int) : List Int := ((partsN s.toNat).map Int.ofNat).filter good
def entsI (l : List Int) : List (Nat × Int × Int) := l.zipIdx.map (fun p => (p.2, p.1, cntI p.1))
def minE (l : List Int) : List (Nat × Int × Int) := (entsI l).filter (fun e => !l.any (properB e.2.1))
def goodsR (w : Int) (rs : List (List Int × Int)) (need s : Int) : List Int := goodsI (reasonOk w rs need) s
def goodsK (w : Int) (rs : List (List Int × Int)) (whole s : Int) : List Int := goodsI (keyOk w rs whole) s
def listsE (l : List (Nat × Int × Int)) : List (List Int) := sortLL (l.map (fun e => listI e.2.1))
/-- The first of the least ones. -/
def bestC : List Int → Int
  | [] => 0
  | x :: l => l.foldl (fun b y => if cntI y < cntI b then y else b) x
def fewE (l : List (Nat × Int × Int)) : List (Nat × Int × Int) := l.filter (fun e => !decide (cntI e.2.1 > cntI (bestC (l.map (fun e => e.2.1)))))
def wordErr (w : Int) (rs : List (List Int × Int)) (l : List Int) (x : Int) : Int := if labelErr w rs l ≠ 0 then labelErr w rs l else if 0 ≤ x ∧ x < w then 0 else 3
def reaL (w : Int) (rs : List (List Int × Int)) (l : List Int) (x : Int) : List (List Int) := if wordErr w rs l x = 0 then listsE (minE (goodsR w rs (andI 0 x) (bitsI l))) else []
def keyL (w : Int) (rs : List (List Int × Int)) (l : List Int) : List (List Int) := if labelErr w rs l = 0 then listsE (fewE (minE (goodsK w rs (fromI w rs (bitsI l)) (bitsI l)))) else []
end Go.Abs.Label
end

section
/- The contracts of the label's functions: reasons, keys. -/
namespace Go.Abs.Label
abbrev mkB : MK := ⟨true, .int .i64, .i64⟩
abbrev sDD : VS := .iptr (.cs sD .nl)
abbrev sSS : VS := .iptr (.cs sI .nl)
abbrev sLLr : CS := .sl (.slice (.int .i64))
def v67 : Var := ⟨.cs sS .nl, [], fun _ => True, fun x => .leaf (.fn (.func 82) [] [.iptr [rI x.1]]) []⟩
def v58 : Var := ⟨.cs sS (.cs sDD (.cs sSS .nl)), [], fun x => isB x.1 ∧ Gd x.2.1 x.2.2.1 ∧ isB x.2.2.2.1, fun x => one (rBo (reasonOk x.2.1 x.2.2.1 x.2.2.2.1 x.1))⟩
def v63 : Var := ⟨.cs sS (.cs sDD (.cs sSS .nl)), [], fun x => isB x.1 ∧ Gd x.2.1 x.2.2.1 ∧ isB x.2.2.2.1, fun x => one (rBo (keyOk x.2.1 x.2.2.1 x.2.2.2.1 x.1))⟩
abbrev sC58 : VS := .fn 55 .nl (.cs sDD (.cs sSS .nl))
abbrev sC63 : VS := .fn 58 .nl (.cs sDD (.cs sSS .nl))
def v86 : Var := ⟨.cs sS (.cs sSS .nl), [], fun x => isB x.1 ∧ isB x.2.1, fun x => one (rBo (properB x.2.1 x.1))⟩
abbrev sC86 : VS := .fn 87 .nl (.cs sSS .nl)
abbrev allB (l : List Int) : Prop := ∀ x ∈ l, isB x
def v99 : Var := ⟨.cs sL (.cs sC86 .nl), [], fun x => x.1.length ≤ 2000 ∧ allB x.1 ∧ isB x.2.1, fun x => one (rI (indexOf (properB x.2.1) x.1))⟩
def v85 : Var := ⟨.cs sL (.cs sC86 .nl), [], fun x => x.1.length ≤ 2000 ∧ allB x.1 ∧ isB x.2.1, fun x => one (rBo (x.1.any (properB x.2.1)))⟩
abbrev mpR (l : List (Nat × Int × Int)) (c : Nat) : RTree := .leaf (.mref 0) [.mp mkB l c]
def v61a : Var := ⟨.cs sD (.cs sS (.cs sC58 .nl)), [], fun x => isB x.2.2.1 ∧ Gd x.2.2.2.1 x.2.2.2.2.1 ∧ isB x.2.2.2.2.2.1, fun x => mpR (minE (goodsR x.2.2.2.1 x.2.2.2.2.1 x.2.2.2.2.2.1 x.2.2.1)) (goodsR x.2.2.2.1 x.2.2.2.2.1 x.2.2.2.2.2.1 x.2.2.1).length⟩
def v61b : Var := ⟨.cs sD (.cs sS (.cs sC63 .nl)), [], fun x => isB x.2.2.1 ∧ Gd x.2.2.2.1 x.2.2.2.2.1 ∧ isB x.2.2.2.2.2.1, fun x => mpR (minE (goodsK x.2.2.2.1 x.2.2.2.2.1 x.2.2.2.2.2.1 x.2.2.1)) (goodsK x.2.2.2.1 x.2.2.2.2.1 x.2.2.2.2.2.1 x.2.2.1).length⟩
def v102 : Var := ⟨.cs sI .nl, [], fun _ => True, fun x => one (rBo false)⟩
def cmpI (a b : Int) : Int := if a < b then -1 else if a > b then 1 else 0
def v89 : Var := ⟨.cs sI (.cs sI .nl), [], fun _ => True, fun x => one (rI (cmpI x.1 x.2.1))⟩
def v70 : Var := ⟨.cs sL (.cs sL .nl), [], fun x => x.1.length ≤ 1000 ∧ x.2.1.length ≤ 1000, fun x => one (rI (cmpL x.1 x.2.1))⟩
abbrev sC70 : VS := .fn 65 .nl .nl
abbrev shortL (l : List (List Int)) : Prop := l.length ≤ 2000 ∧ ∀ x ∈ l, x.length ≤ 1000
def v84 : Var := ⟨.cs (.reg 0 false) (.cs sC70 .nl), [sLLr], fun x => shortL x.1, fun x => .leaf (.tup []) [.sl (.slice (.int .i64)) (sortLL x.1)]⟩
abbrev entsOk (l : List (Nat × Int × Int)) (c : Nat) : Prop := l.length ≤ 2000 ∧ (l.map (·.1)).Nodup ∧ (∀ e ∈ l, e.1 < c) ∧ ∀ e ∈ l, isB e.2.1
def v60 : Var := ⟨.cs (.mref 0) .nl, [.mp mkB], fun x => entsOk x.1 x.2.1, fun x => .leaf (.reg 1 false) [.mp mkB x.1 x.2.1, .sl (.slice (.int .i64)) (listsE x.1)]⟩
def v65 : Var := ⟨.cs sS (.cs sS .nl), [], fun x => isB x.1 ∧ isB x.2.1, fun x => one (rBo (decide (cntI x.1 < cntI x.2.1)))⟩
def v64 : Var := ⟨.cs sL (.cs (.fn 60 .nl .nl) .nl), [], fun x => 0 < x.1.length ∧ x.1.length ≤ 2000 ∧ allB x.1, fun x => one (rS (bestC x.1))⟩
def v18 : Var := ⟨.cs sG (.cs sL (.cs sI .nl)), [], fun x => smallG x.2.1 ∧ x.2.2.1.length ≤ 1000, fun x => ownLE (reaL x.1 x.2.1 x.2.2.1 x.2.2.2.1) (wordErr x.1 x.2.1 x.2.2.1 x.2.2.2.1)⟩
def v20 : Var := ⟨.cs sG (.cs sL .nl), [], fun x => smallG x.2.1 ∧ x.2.2.1.length ≤ 1000, fun x => ownLE (keyL x.1 x.2.1 x.2.2.1) (labelErr x.1 x.2.1 x.2.2.1)⟩
end Go.Abs.Label
end

section
/- What the label's functions compute: reasons and keys by the reference; what is taken; how many are closed; idle rules. -/
namespace Go.Abs.Label
/- what is taken -/
def betT (a b : List Int) : Bool := decide (a.length < b.length) || (decide (a.length = b.length) && before a b)
def bestT : List (List Int) → List Int
  | [] => []
  | x :: l => l.foldl (fun b y => if betT y b then y else b) x
def takeErr (w : Int) (rs : List (List Int × Int)) (l : List Int) : Int := if labelErr w rs l ≠ 0 then labelErr w rs l else if banned w rs 0 then 25 else 0
def takeG (w : Int) (rs : List (List Int × Int)) (b p : Nat) : Bool := !banned w rs (andNot b p)
def triesI (w : Int) (rs : List (List Int × Int)) (b : Int) : List (List Int) := ((partsN b.toNat).filter (takeG w rs b.toNat)).map (fun i => listed i 10)
def takeL (w : Int) (rs : List (List Int × Int)) (l : List Int) : List Int := if takeErr w rs l = 0 then bestT (triesI w rs (bitsI l)) else []
/- closed ones -/
def closN (w : Int) (rs : List (List Int × Int)) : Int := (((List.range (2 ^ w.toNat)).filter (fun i : Nat => clsI w rs (i : Int))).length : Int)
def closL (w : Int) (rs : List (List Int × Int)) : Int := if guildErr w rs = 0 then closN w rs else 0
/- idle rules -/
def without (rs : List (List Int × Int)) (r : Int) : List (List Int × Int) := rs.take r.toNat ++ rs.drop (r.toNat + 1)
def idleErr (w : Int) (rs : List (List Int × Int)) (r : Int) : Int := if guildErr w rs ≠ 0 then guildErr w rs else if 0 ≤ r ∧ r < rs.length then 0 else 2
def idleOf (w : Int) (rs : List (List Int × Int)) (r : Int) : Bool :=
  if (rs.getD r.toNat ([], 0)).2 < 0 then banned w (without rs r) (bitsL (rs.getD r.toNat ([], 0)).1)
  else (clo w (without rs r) (bitsL (rs.getD r.toNat ([], 0)).1)).testBit (rs.getD r.toNat ([], 0)).2.toNat
def idleB (w : Int) (rs : List (List Int × Int)) (r : Int) : Bool := decide (idleErr w rs r = 0) && idleOf w rs r
end Go.Abs.Label
end

section
/- The contracts of the label's functions: reasons and keys by the reference, what is taken, closed ones, idle rules. -/
namespace Go.Abs.Label
def v69 : Var := ⟨.cs sL (.cs sL .nl), [], fun x => x.1.length ≤ 1000 ∧ x.2.1.length ≤ 1000, fun x => one (rBo (betT x.1 x.2.1))⟩
def v68 : Var := ⟨.cs sLL (.cs (.fn 64 .nl .nl) .nl), [], fun x => 0 < x.1.length ∧ shortL x.1, fun x => one (.imm (.int .i64) (bestT x.1) false)⟩
abbrev immE (l : List Int) (e : Int) : RTree := one (.tup [.imm (.int .i64) l false, rI e])
def v23 : Var := ⟨.cs sG (.cs sL .nl), [], fun x => smallG x.2.1 ∧ x.2.2.1.length ≤ 1000, fun x => immE (takeL x.1 x.2.1 x.2.2.1) (takeErr x.1 x.2.1 x.2.2.1)⟩
def v25 : Var := ⟨.cs sG .nl, [], fun x => smallG x.2.1, fun x => r2 (closL x.1 x.2.1) (guildErr x.1 x.2.1)⟩
abbrev sRLL : VS := .imm (.slice (.pair (.slice (.int .i64)) (.int .i64))) false
def v72 : Var := ⟨.cs sRLL .nl, [], fun x => x.1.length ≤ 100 ∧ ∀ y ∈ x.1, y.length ≤ 1000, fun x => .leaf (.imm (.pair (.slice (.int .i64)) (.int .i64)) x.1.flatten false) []⟩
def v27 : Var := ⟨.cs sG (.cs sI .nl), [], fun x => smallG x.2.1, fun x => rBE (idleB x.1 x.2.1 x.2.2.1) (idleErr x.1 x.2.1 x.2.2.1)⟩
end Go.Abs.Label
end

section
/- What the label's functions compute: steps. -/
namespace Go.Abs.Label
def ruleAt (rs : List (List Int × Int)) (i : Int) : List Int × Int := rs.getD i.toNat ([], 0)
/-- The steps that are left, from the words that are known. -/
def goS (rs : List (List Int × Int)) (word : Int) : List Int → Nat → Int
  | [], b => if word < 0 ∨ b.testBit word.toNat = false then 14 else 0
  | i :: r, b =>
    if ((ruleAt rs i).2 < 0 ∧ (0 ≤ word ∨ r ≠ [])) ∨ subB (bitsL (ruleAt rs i).1) b = false then 16
    else if (ruleAt rs i).2 < 0 then 0 else goS rs word r (b ||| 2 ^ (ruleAt rs i).2.toNat)
def stepBad (rs : List (List Int × Int)) (i : Int) : Bool := outOf 0 ((rs.length : Int) - 1) i
def chkS (w : Int) (rs : List (List Int × Int)) (l : List Int) (word : Int) (s : List Int) : Int :=
  if labelErr w rs l ≠ 0 then labelErr w rs l
  else if outOf (-1) (w - 1) word then 3
  else if s.any (stepBad rs) then 2
  else goS rs word s (bitsL l)
end Go.Abs.Label
end

section
/- The contracts of the label's functions: steps. -/
namespace Go.Abs.Label
def v33 : Var := ⟨.cs sG (.cs sL (.cs sI (.cs sL .nl))), [], fun x => smallG x.2.1 ∧ x.2.2.1.length ≤ 1000 ∧ x.2.2.2.2.1.length ≤ 1000, fun x => one (rI (chkS x.1 x.2.1 x.2.2.1 x.2.2.2.1 x.2.2.2.2.1))⟩
def v40 : Var := ⟨.cs sG (.cs sL (.cs sI (.cs sL .nl))), [], fun x => smallG x.2.1 ∧ x.2.2.1.length ≤ 1000 ∧ x.2.2.2.2.1.length ≤ 1000, fun x => one (rI (chkS x.1 x.2.1 x.2.2.1 x.2.2.2.1 x.2.2.2.2.1))⟩
end Go.Abs.Label
end

section
/- What the label's functions compute: steps that lead to a word. -/
namespace Go.Abs.Label
def grantR (c : Nat) (r : List Int × Int) : Bool := decide (0 ≤ r.2) && (subB (bitsL r.1) c && !c.testBit r.2.toNat)
/-- The steps in order, as far as they go. -/
def runS (rs : List (List Int × Int)) : Nat → Nat × List Int → Nat × List Int
  | 0, s => s
  | n + 1, s => if indexOf (grantR s.1) rs < 0 then s else runS rs n (s.1 ||| 2 ^ (ruleAt rs (indexOf (grantR s.1) rs)).2.toNat, s.2 ++ [indexOf (grantR s.1) rs])
def runOf (rs : List (List Int × Int)) (b : Nat) : Nat × List Int := runS rs 11 (b, [])
def backS (rs : List (List Int × Int)) (b : Nat) (s : Nat × List Int) (i : Int) : Nat × List Int :=
  if (ruleAt rs i).2 < 0 ∨ s.1.testBit (ruleAt rs i).2.toNat = true then (andNot (s.1 ||| bitsL (ruleAt rs i).1) b, s.2 ++ [i]) else s
def backOf (rs : List (List Int × Int)) (b need : Nat) (out : List Int) : List Int := (out.reverse.foldl (backS rs b) (need, [])).2.reverse
def lessAt (w : Int) (rs : List (List Int × Int)) (b word : Int) (s : List Int) : Int := indexOf (fun i : Nat => decide (chkS w rs (listI b) word (s.eraseIdx i) = 0)) (List.range s.length)
def lessS (w : Int) (rs : List (List Int × Int)) (b word : Int) : Nat → List Int → List Int
  | 0, s => s
  | n + 1, s => if lessAt w rs b word s < 0 then s else lessS w rs b word n (s.eraseIdx (lessAt w rs b word s).toNat)
def lessL (w : Int) (rs : List (List Int × Int)) (b word : Int) (s : List Int) : List Int := lessS w rs b word (s.length + 1) s
def hasSteps (rs : List (List Int × Int)) (b word : Int) : Bool :=
  if 0 ≤ word then (runOf rs b.toNat).1.testBit word.toNat else !decide (indexOf (ban3 ((runOf rs b.toNat).1 : Int)) rs < 0)
def rawS (rs : List (List Int × Int)) (b word : Int) : List Int :=
  if 0 ≤ word then backOf rs b.toNat (2 ^ word.toNat) (runOf rs b.toNat).2
  else backOf rs b.toNat (bitsL (ruleAt rs (indexOf (ban3 ((runOf rs b.toNat).1 : Int)) rs)).1) ((runOf rs b.toNat).2 ++ [indexOf (ban3 ((runOf rs b.toNat).1 : Int)) rs])
def stepL (w : Int) (rs : List (List Int × Int)) (b word : Int) : List Int := if hasSteps rs b word then lessL w rs b word (rawS rs b word) else []
def stepErr (w : Int) (rs : List (List Int × Int)) (l : List Int) (word : Int) : Int :=
  if labelErr w rs l ≠ 0 then labelErr w rs l else if outOf (-1) (w - 1) word then 3 else if hasSteps rs (bitsI l) word then 0 else 5
def stepsL (w : Int) (rs : List (List Int × Int)) (l : List Int) (word : Int) : List Int := if stepErr w rs l word = 0 then stepL w rs (bitsI l) word else []
end Go.Abs.Label
end

section
/- The contracts of the label's functions: steps that lead to a word. -/
namespace Go.Abs.Label
def v91 : Var := ⟨.cs sR (.cs sSS .nl), [], fun x => x.1.length ≤ 1000 ∧ inL 0 9 x.1 ∧ isB x.2.2.1, fun x => one (rBo (ban3 x.2.2.1 (x.1, x.2.1)))⟩
abbrev sC91 : VS := .fn 78 .nl (.cs sSS .nl)
def v83e : Var := ⟨.cs sRL (.cs sC91 .nl), [], fun x => x.1.length ≤ 1000 ∧ goodIfs x.1 ∧ isB x.2.1, fun x => one (rI (indexOf (ban3 x.2.1) x.1))⟩
def v92 : Var := ⟨.cs sL .nl, [], fun _ => True, fun x => .leaf (.fn (.func 93) [] [.iptr [.imm (.int .i64) x.1 false]]) []⟩
def v93 : Var := ⟨.cs (.reg 0 false) .nl, [.sl (.int .i64)], fun x => x.1.length ≤ 1000, fun x => .leaf (.tup []) [.sl (.int .i64) x.1.reverse]⟩
def v105 : Var := ⟨.cs sL .nl, [], fun x => x.1.length ≤ 1000, fun x => own x.1⟩
def v104 : Var := ⟨.cs (.reg 0 false) (.cs sI (.cs sI .nl)), [.sl (.int .i64)], fun x => x.2.2.1.length ≤ 1000 ∧ 0 ≤ x.1 ∧ x.1 < x.2.2.1.length ∧ x.2.1 = x.1 + 1, fun x => .leaf (.sub 0 0 (x.2.2.1.length - 1) false) [.sl (.int .i64) ((show List Int from x.2.2.1).eraseIdx x.1.toNat ++ [(0 : Int)] : List Int)]⟩
def v94 : Var := ⟨.cs sD (.cs sS (.cs sI (.cs sL .nl))), [], fun x => Gd x.1 x.2.1 ∧ isB x.2.2.1 ∧ x.2.2.2.2.1.length ≤ 1000, fun x => one (.imm (.int .i64) (lessL x.1 x.2.1 x.2.2.1 x.2.2.2.1 x.2.2.2.2.1) false)⟩
def v75 : Var := ⟨.cs sD (.cs sS (.cs sI .nl)), [], fun x => Gd x.1 x.2.1 ∧ isB x.2.2.1 ∧ -1 ≤ x.2.2.2.1 ∧ x.2.2.2.1 < x.1, fun x => one (.tup [.imm (.int .i64) (stepL x.1 x.2.1 x.2.2.1 x.2.2.2.1) false, rBo (hasSteps x.2.1 x.2.2.1 x.2.2.2.1)])⟩
def v32 : Var := ⟨.cs sG (.cs sL (.cs sI .nl)), [], fun x => smallG x.2.1 ∧ x.2.2.1.length ≤ 1000, fun x => ownE (stepsL x.1 x.2.1 x.2.2.1 x.2.2.2.1) (stepErr x.1 x.2.1 x.2.2.1 x.2.2.2.1)⟩
end Go.Abs.Label
end

section
/- The contracts of the label's functions: room for more rules (slices.Grow). -/
namespace Go.Abs.Label
def growPre : List AVal → List Cont → Prop
  | [.nils (.pair (.slice (.int .i64)) (.int .i64)), .int .i64 n], [] => 0 ≤ n ∧ n ≤ 1000000
  | _, _ => False
def cGrow : Contract := ⟨growPre, fun _ _ => .leaf (.reg 0 false) [.sl (.pair (.slice (.int .i64)) (.int .i64)) []], [1000]⟩
end Go.Abs.Label
end

section
/- What the label's functions compute: the examples of the chapter. -/
namespace Go.Abs.Label
def fiveR : List (List Int × Int) := [([0, 1], 2), ([2], 3), ([3, 4], -1), ([0], 4), ([5], 1)]
def sixR : List (List Int × Int) := fiveR ++ [([0, 5], 3)]
end Go.Abs.Label
end

section
/- The contracts of the label's functions: the examples; what follows, as the statements ask it. -/
namespace Go.Abs.Label
abbrev sRLt : VS := .imm (.pair (.slice (.int .i64)) (.int .i64)) true
def v76t : Var := ⟨.cs sI (.cs sRLt .nl), [], fun _ => True, fun x => one (.agg [rI x.1, .imm (.pair (.slice (.int .i64)) (.int .i64)) x.2.1 true])⟩
def guildPre : List AVal → List Cont → Prop
  | [.int .i64 _, .imm (.pair (.slice (.int .i64)) (.int .i64)) _ _], [] => True
  | _, _ => False
def guildRes : List AVal → List Cont → RTree
  | [.int .i64 n, .imm (.pair (.slice (.int .i64)) (.int .i64)) l f], [] => .leaf (.agg [rI n, .imm (.pair (.slice (.int .i64)) (.int .i64)) l f]) []
  | _, _ => .leaf .unk []
/-- A guild of rules: whether all room of their list is taken is known on. -/
def cGuild : Contract := ⟨guildPre, guildRes, []⟩
def v37 : Var := ⟨.nl, [], fun _ => True, fun _ => one (.agg [rI 6, .imm (.pair (.slice (.int .i64)) (.int .i64)) fiveR true])⟩
def v38 : Var := ⟨.nl, [], fun _ => True, fun _ => one (.agg [rI 6, .imm (.pair (.slice (.int .i64)) (.int .i64)) sixR false])⟩
def v10 : Var := ⟨.nl, [], fun _ => True, fun _ => one (rBo true)⟩
end Go.Abs.Label
end

section
/- The contracts of the label's statements. -/
namespace Go.Abs.Label
abbrev yes : RTree := one (rBo true)
def v3 : Var := ⟨.cs sG (.cs sL .nl), [], fun _ => True, fun _ => yes⟩
def v4 : Var := ⟨.cs sG (.cs sL (.cs sI .nl)), [], fun _ => True, fun _ => yes⟩
def v5 : Var := ⟨.cs sG (.cs sL (.cs sI .nl)), [], fun _ => True, fun _ => yes⟩
end Go.Abs.Label
end

section
/- The contracts of the label's other statements. -/
namespace Go.Abs.Label
def v210 : Var := ⟨.nl, [], fun _ => True, fun _ => yes⟩
end Go.Abs.Label
end

section
/- What an operation leaves behind; the immutable view of a value; freezing. -/
namespace Go.Abs

/-- The blocks of F are known as they were. -/
def Fix (F : Nat → Prop) (K K' : Know) : Prop := ∀ b, F b → K'.cells b = K.cells b ∧ K'.inv b = K.inv b
theorem Fix.refl (F : Nat → Prop) (K : Know) : Fix F K K := fun _ _ => ⟨rfl, rfl⟩
theorem Fix.trans {F : Nat → Prop} {A B C : Know} (h : Fix F A B) (k : Fix F B C) : Fix F A C :=
  fun b hb => ⟨(k b hb).1.trans (h b hb).1, (k b hb).2.trans (h b hb).2⟩

structure After (F : Nat → Prop) (K : Know) (H : Nat → Option Hd) (w : World) (m : Mm) (nx : Nat) (q : Q) (v : Value) (w' : World) (K' : Know) (H' : Nat → Option Hd) : Prop where
  le : K.le K'
  hle : HLe H H'
  hnew : ∀ r, H r = none → H' r ≠ none → nx ≤ r ∧ r < nx + q.new.length
  rep : Rep K' H' q.val v
  mem : MRel F K' H' w' (q.mm nx m)
  ok : WOk F K' w'
  kept : Kept F w w'
  fix : Fix F K K'

/-- What a run of an operation gives: a value, or a call that gives one. -/
def Gives (P : Program) (F : Nat → Prop) (K : Know) (H : Nat → Option Hd) (w : World) (m : Mm) (nx : Nat) (k : Q → Prop) : Result Next → Prop
  | .ok (.value v) w' => ∃ q K' H', k q ∧ After F K H w m nx q v w' K' H'
  | .ok (.enter f args) w' => w' = w ∧ Calls P f args w (fun e w'' => ∃ v q K' H', e = .returned v ∧ k q ∧ After F K H w m nx q v w'' K' H')
  | _ => False

theorem after_same {F : Nat → Prop} {K : Know} {H : Nat → Option Hd} {w : World} {m : Mm} {nx : Nat} (hok : WOk F K w) (hm : MRel F K H w m) {a : AVal} {v : Value} (rs : List Nat) (hr : Rep K H a v) :
    After F K H w m nx ⟨a, [], [], rs⟩ v w K H :=
  ⟨.refl K, .refl H, fun _ h h' => absurd h h', hr, hm, hok, .refl F w, .refl F K⟩

section
variable {P : Program} {F : Nat → Prop} {K : Know} {H : Nat → Option Hd} {w : World} {m : Mm} {nx : Nat} {k : Q → Prop}

theorem gives_pure (hok : WOk F K w) (hm : MRel F K H w m) {a : AVal} {v : Value} (hr : Rep K H a v) (hk : k (.pure a)) : Gives P F K H w m nx k (.ok (.value v) w) :=
  ⟨_, K, H, hk, after_same hok hm [] hr⟩
theorem gives_read (hok : WOk F K w) (hm : MRel F K H w m) {a : AVal} {v : Value} (r : Nat) (hr : Rep K H a v) (hk : k (.read a r)) : Gives P F K H w m nx k (.ok (.value v) w) :=
  ⟨_, K, H, hk, after_same hok hm [r] hr⟩

theorem WOk.alloc (h : WOk F K w) (o : Obj) : WOk F K (w.alloc o) := by
  have old : ∀ b, b < w.heap.size → (w.alloc o).heap[b]? = w.heap[b]? := fun b hb => RowKit.Below.heap_alloc w o b hb
  refine ⟨⟨?_, ?_⟩, fun b hb => ?_, h.inv, h.apart⟩
  · intro b cs hc
    obtain ⟨e, fz, g⟩ := h.knows.1 b cs hc
    exact ⟨e, fz, by rw [old b (lt_of_heap g)]; exact g⟩
  · intro b p hc
    obtain ⟨o', g, hp⟩ := h.knows.2 b p hc
    exact ⟨o', by rw [old b (lt_of_heap g)]; exact g, hp⟩
  · have := h.lt b hb
    simp; omega

theorem kept_alloc (h : WOk F K w) (o : Obj) : Kept F w (w.alloc o) :=
  ⟨rfl, rfl, rfl, by simp, fun b hb => RowKit.Below.heap_alloc w o b (h.lt b hb), Nat.le_refl _⟩

theorem alloc_new (w : World) (o : Obj) : (w.alloc o).heap[w.heap.size]? = some o := by
  show (w.heap.push o)[w.heap.size]? = some o
  simp

/-- A new block, a region of one's own. -/
theorem after_alloc (hok : WOk F K w) (hm : MRel F K H w m) (hf : H nx = none) (cs : Array Value) (e : TypeId) (c : Cont) (hd : Hd) (hb : hd.base = some w.heap.size)
    (hc : ContRel K (upd H nx hd) (w.alloc (.cells cs e)) hd c) (a : AVal) (v : Value) (ha : Rep K (upd H nx hd) a v) (rs : List Nat) :
    After F K H w m nx ⟨a, [c], [], rs⟩ v (w.alloc (.cells cs e)) K (upd H nx hd) := by
  refine ⟨.refl K, hle_upd hf, ?_, ha, ?_, hok.alloc _, kept_alloc hok _, .refl F K⟩
  · intro r h1 h2
    by_cases e' : r = nx
    · subst e'; simp
    · rw [upd_ne _ _ _ _ e'] at h2; exact absurd h1 h2
  · have hw : MRel F K H (w.alloc (.cells cs e)) m := hm.world (fun r c f hd b h1 h2 h3 h4 => RowKit.Below.heap_alloc w _ b (base_lt hm h1 h2 h3 h4))
    refine hw.new nx hf c hd hc (fun b hb' => ?_)
    rw [hb] at hb'
    cases hb'
    have hn := hok.knows.new (Nat.le_refl w.heap.size)
    refine ⟨fun hF => ?_, hn.1, hn.2, fun _ => ⟨cs, e, alloc_new w _⟩, fun r' c' hd' h1 h2 h3 => ?_⟩
    · have := hok.lt _ hF; omega
    · have := base_lt hm h1 (by simp) h2 h3; omega

/-! ### knowing more blocks -/

/-- The cells of these blocks are known, too. -/
def Know.plus (K : Know) (w : World) (B : Nat → Bool) : Know where
  cells := fun b => match K.cells b with
    | some cs => some cs
    | none => if B b then (match w.heap[b]? with
      | some (.cells cs _ _) => some cs
      | _ => none) else none
  inv := K.inv
  y := K.y

theorem Know.le_plus (K : Know) (w : World) (B : Nat → Bool) : K.le (K.plus w B) :=
  ⟨fun b cs h => by simp [Know.plus, h], fun _ _ h => h, fun _ h => h⟩

theorem plus_cells {K : Know} (w : World) (B : Nat → Bool) (hk : Knows K w) {b : Nat} {cs : Array Value} (h : (K.plus w B).cells b = some cs) : ∃ e fz, w.heap[b]? = some (.cells cs e fz) := by
  simp only [Know.plus] at h
  split at h
  · rename_i cs' hc
    cases h
    exact hk.1 _ _ hc
  · split at h
    · split at h
      · rename_i cs' e fz hc
        cases h
        exact ⟨e, fz, hc⟩
      · cases h
    · cases h

theorem plus_new {K : Know} {w : World} {B : Nat → Bool} {b : Nat} (hb : B b = true) (hk : Knows K w) {cs : Array Value} {e : TypeId} {fz : Nat × Nat} (h : w.heap[b]? = some (.cells cs e fz)) : (K.plus w B).cells b = some cs := by
  simp only [Know.plus]
  split
  · rename_i cs' hc
    obtain ⟨e', fz', g⟩ := hk.1 _ _ hc
    rw [h] at g
    cases g
    rfl
  · rw [if_pos hb, h]

theorem plus_none {K : Know} {w : World} {B : Nat → Bool} {b : Nat} (hb : B b = false) : (K.plus w B).cells b = K.cells b := by
  simp only [Know.plus]
  split
  · rename_i h; exact h.symm
  · rename_i h; rw [hb, h]; rfl

theorem WOk.plus (h : WOk F K w) (B : Nat → Bool) (hB : ∀ b, B b = true → K.inv b = none) : WOk F (K.plus w B) w := by
  refine ⟨⟨fun b cs hc => plus_cells w B h.knows hc, h.knows.2⟩, h.lt, h.inv, fun b p hp => ?_⟩
  have hp : K.inv b = some p := hp
  cases hb : B b with
  | true => rw [hB b hb] at hp; cases hp
  | false => rw [plus_none hb]; exact h.apart b p hp

/-- The bases of regions that were read. -/
def bases (H : Nat → Option Hd) (rs : List (Nat × Flag)) (b : Nat) : Bool :=
  rs.any (fun u => match H u.1 with
    | some hd => hd.base == some b
    | none => false)

theorem bases_mem {rs : List (Nat × Flag)} {r : Nat} {f : Flag} {hd : Hd} {b : Nat} (h : (r, f) ∈ rs) (hr : H r = some hd) (hb : hd.base = some b) : bases H rs b = true := by
  simp only [bases, List.any_eq_true]
  exact ⟨(r, f), h, by simp [hr, hb]⟩
theorem bases_spec {rs : List (Nat × Flag)} {b : Nat} (h : bases H rs b = true) : ∃ r f hd, (r, f) ∈ rs ∧ H r = some hd ∧ hd.base = some b := by
  simp only [bases, List.any_eq_true] at h
  obtain ⟨⟨r, f⟩, h1, h2⟩ := h
  simp only at h2
  split at h2
  · rename_i hd hh
    exact ⟨r, f, hd, h1, hh, by simpa using h2⟩
  · simp at h2

/-! ### the view -/

theorem slab_all (cs : Array Value) (o : Nat) : slab cs o (cs.size - o) = cs.toList.drop o := by
  unfold slab
  apply List.take_of_length_le
  simp

/-- A view is a value of the same, by what is known with the regions' blocks. -/
theorem view_rep (hm : MRel F K H w m) {Kp : Know} (hle : K.le Kp) (H' : Nat → Option Hd) (hH : HLe H H') :
    ∀ (d : Nat),
      (∀ (v : AVal) (x : Value) (v' : AVal) (rs : List (Nat × Flag)), view m d v = some (v', rs) →
        (∀ r f hd b cs e fz, (r, f) ∈ rs → H r = some hd → hd.base = some b → w.heap[b]? = some (.cells cs e fz) → Kp.cells b = some cs) → Rep K H v x → Rep Kp H' v' x) ∧
      (∀ (vs : List AVal) (xs : List Value) (vs' : List AVal) (rs : List (Nat × Flag)), viewX (view m d) vs = some (vs', rs) →
        (∀ r f hd b cs e fz, (r, f) ∈ rs → H r = some hd → hd.base = some b → w.heap[b]? = some (.cells cs e fz) → Kp.cells b = some cs) → RepL K H vs xs → RepL Kp H' vs' xs ∧ vs'.length = vs.length) := by
  intro d
  induction d with
  | zero =>
    refine ⟨fun v x v' rs h => by simp [view] at h, ?_⟩
    intro vs
    cases vs with
    | nil =>
      intro xs vs' rs h hB hr
      simp only [viewX, Option.some.injEq, Prod.mk.injEq] at h
      obtain ⟨rfl, rfl⟩ := h
      rw [RepL.nil_iff.1 hr]
      exact ⟨.nil, rfl⟩
    | cons v vs => intro xs vs' rs h; simp [viewX, view] at h
  | succ d ih =>
    have hv : ∀ (v : AVal) (x : Value) (v' : AVal) (rs : List (Nat × Flag)), view m (d + 1) v = some (v', rs) →
        (∀ r f hd b cs e fz, (r, f) ∈ rs → H r = some hd → hd.base = some b → w.heap[b]? = some (.cells cs e fz) → Kp.cells b = some cs) → Rep K H v x → Rep Kp H' v' x := by
      intro v x v' rs h hB hr
      cases v with
      | unk =>
        simp only [view, Option.some.injEq, Prod.mk.injEq] at h
        obtain ⟨rfl, rfl⟩ := h
        simp [Rep]
      | nilc => simp [view] at h
      | eptr r i j => simp [view] at h
      | aptr r => simp [view] at h
      | bool b =>
        simp only [view, Option.some.injEq, Prod.mk.injEq] at h
        obtain ⟨rfl, rfl⟩ := h
        simpa [Rep] using hr
      | int kd n =>
        simp only [view, Option.some.injEq, Prod.mk.injEq] at h
        obtain ⟨rfl, rfl⟩ := h
        simpa [Rep] using hr
      | nils t =>
        simp only [view, Option.some.injEq, Prod.mk.injEq] at h
        obtain ⟨rfl, rfl⟩ := h
        simp only [Rep] at hr ⊢
        subst hr
        exact ⟨none, 0, rfl, Nat.le_refl _, fun _ => rfl, .inl rfl⟩
      | imm t l f =>
        simp only [view, Option.some.injEq, Prod.mk.injEq] at h
        obtain ⟨rfl, rfl⟩ := h
        simp only [Rep] at hr ⊢
        exact hr.mono hle
      | arrv t l =>
        simp only [view, Option.some.injEq, Prod.mk.injEq] at h
        obtain ⟨rfl, rfl⟩ := h
        simp only [Rep] at hr ⊢
        obtain ⟨cs, h1, h2, h3⟩ := hr
        exact ⟨cs, h1, h2, h3.mono hle⟩
      | yieldv => simp [view] at h
      | nilfn =>
        simp only [view, Option.some.injEq, Prod.mk.injEq] at h
        obtain ⟨rfl, rfl⟩ := h
        simpa [Rep] using hr
      | sem p =>
        simp only [view, Option.some.injEq, Prod.mk.injEq] at h
        obtain ⟨rfl, rfl⟩ := h
        simp only [Rep] at hr ⊢
        exact p.mono _ _ _ hle.toW hr
      | mref r =>
        simp only [view, Option.some.injEq, Prod.mk.injEq] at h
        obtain ⟨rfl, rfl⟩ := h
        exact Rep.mono hle hH _ _ hr
      | reg r f =>
        simp only [view] at h
        split at h
        · rename_i t l g hg
          split at h
          · cases h
          · rename_i hgd
            simp only [Option.some.injEq, Prod.mk.injEq] at h
            obtain ⟨rfl, rfl⟩ := h
            simp only [Rep] at hr ⊢
            obtain ⟨hd, h1, rfl, h3⟩ := hr
            obtain ⟨g1, g2, g3, g4⟩ := hm.cont r _ g hd hg hgd h1
            refine ⟨_, hd.cap, by rw [g2], by omega, fun hf => by rw [h3 hf, g2], ?_⟩
            rcases g4 with ⟨g4, g5⟩ | ⟨b, cs, e, fz, g4, g5, g6, g7⟩
            · left
              exact List.eq_nil_of_length_eq_zero (by omega)
            · right
              refine ⟨b, 0, cs, by rw [g4]; rfl, hB r g hd b cs e fz (by simp) h1 g4 g5, fun i hi => ?_⟩
              exact DenRep.mono hle _ _ _ (g7 i hi)
        · cases h
      | sub r lo len f =>
        simp only [view] at h
        split at h
        · rename_i t l g hg
          split at h
          · cases h
          · rename_i hgd
            simp only [Option.some.injEq, Prod.mk.injEq] at h
            obtain ⟨rfl, rfl⟩ := h
            simp only [Rep] at hr ⊢
            obtain ⟨hd, cap, base, h1, rfl, h3, h4, h5, h6, h7⟩ := hr
            obtain ⟨g1, g2, g3, g4⟩ := hm.cont r _ g hd hg hgd h1
            have hlen : ((l.drop lo).take len).length = len := by simp; omega
            refine ⟨base, cap, by rw [hlen], by omega, fun hf => by rw [hlen]; exact h6 hf, ?_⟩
            rcases h7 with h7 | ⟨b, h7, h8⟩
            · left
              exact List.eq_nil_of_length_eq_zero (by omega)
            · rcases g4 with ⟨g4, g5⟩ | ⟨b', cs, e, fz, g4, g5, g6, g7⟩
              · rw [g4] at h7; cases h7
              · rw [h7] at g4; cases g4
                right
                refine ⟨b, lo * hd.sz, cs, h8, hB r g hd b cs e fz (by simp) h1 h7 g5, fun i hi => ?_⟩
                have := DenRep.mono hle _ _ _ (g7 (lo + i) (by omega))
                rw [List.getElem_take, List.getElem_drop]
                rw [g1, ← Nat.add_mul]
                simpa using this
        · cases h
      | ptr r off =>
        simp only [view] at h
        split at h
        · rename_i cells g hg
          split at h
          · cases h
          · rename_i hgd
            split at h
            · rename_i cs' rs' hv
              simp only [Option.some.injEq, Prod.mk.injEq] at h
              obtain ⟨rfl, rfl⟩ := h
              simp only [Rep] at hr ⊢
              obtain ⟨hd, b, h1, h2, rfl⟩ := hr
              obtain ⟨b', cs, e, fz, g1, g2, g3⟩ := hm.cont r _ g hd hg hgd h1
              rw [h2] at g1; cases g1
              have hl := (ih.2 _ _ _ _ hv (fun r' f' hd' b' cs' e' fz' q1 => hB r' f' hd' b' cs' e' fz' (by simp [q1])) (RepL.drop off g3))
              refine ⟨b, off, cs, rfl, hB r g hd b cs e fz (by simp) h1 h2 g2, ?_⟩
              have hsz : cs'.length = cs.size - off := by
                rw [hl.2]
                have := RepL.length g3
                simp at this ⊢
                omega
              rw [hsz, slab_all]
              exact hl.1
            · cases h
        · cases h
      | iptr cells =>
        simp only [view] at h
        split at h
        · rename_i cs' rs' hv
          simp only [Option.some.injEq, Prod.mk.injEq] at h
          obtain ⟨rfl, rfl⟩ := h
          simp only [Rep] at hr ⊢
          obtain ⟨b, off, arr, rfl, h2, h3⟩ := hr
          have hl := ih.2 _ _ _ _ hv hB h3
          exact ⟨b, off, arr, rfl, hle.cells _ _ h2, by rw [hl.2]; exact hl.1⟩
        · cases h
      | agg cells =>
        simp only [view] at h
        split at h
        · rename_i cs' rs' hv
          simp only [Option.some.injEq, Prod.mk.injEq] at h
          obtain ⟨rfl, rfl⟩ := h
          simp only [Rep] at hr ⊢
          obtain ⟨cs, rfl, h3⟩ := hr
          exact ⟨cs, rfl, (ih.2 _ _ _ _ hv hB h3).1⟩
        · cases h
      | tup cells =>
        simp only [view] at h
        split at h
        · rename_i cs' rs' hv
          simp only [Option.some.injEq, Prod.mk.injEq] at h
          obtain ⟨rfl, rfl⟩ := h
          simp only [Rep] at hr ⊢
          obtain ⟨cs, rfl, h3⟩ := hr
          exact ⟨cs, rfl, (ih.2 _ _ _ _ hv hB h3).1⟩
        · cases h
      | fn f a b =>
        simp only [view] at h
        split at h
        · rename_i a' r1 hv1
          split at h
          · rename_i b' r2 hv2
            simp only [Option.some.injEq, Prod.mk.injEq] at h
            obtain ⟨rfl, rfl⟩ := h
            simp only [Rep] at hr ⊢
            obtain ⟨fi, ca, rfl, h3, h4⟩ := hr
            exact ⟨fi, ca, rfl, (ih.2 _ _ _ _ hv1 (fun r' f' hd' b' cs' e' fz' q1 => hB r' f' hd' b' cs' e' fz' (by simp [q1])) h3).1,
              (ih.2 _ _ _ _ hv2 (fun r' f' hd' b' cs' e' fz' q1 => hB r' f' hd' b' cs' e' fz' (by simp [q1])) h4).1⟩
          · cases h
        · cases h
    refine ⟨hv, ?_⟩
    intro vs
    induction vs with
    | nil =>
      intro xs vs' rs h hB hr
      simp only [viewX, Option.some.injEq, Prod.mk.injEq] at h
      obtain ⟨rfl, rfl⟩ := h
      rw [RepL.nil_iff.1 hr]
      exact ⟨.nil, rfl⟩
    | cons v vs ihl =>
      intro xs vs' rs h hB hr
      simp only [viewX] at h
      split at h
      · rename_i v' r1 hv1
        split at h
        · rename_i vs1 r2 hv2
          simp only [Option.some.injEq, Prod.mk.injEq] at h
          obtain ⟨rfl, rfl⟩ := h
          obtain ⟨x, xs', rfl, h1, h2⟩ := hr.inv
          have ha := hv _ _ _ _ hv1 (fun r' f' hd' b' cs' e' fz' q1 => hB r' f' hd' b' cs' e' fz' (by simp [q1])) h1
          have hb := ihl _ _ _ hv2 (fun r' f' hd' b' cs' e' fz' q1 => hB r' f' hd' b' cs' e' fz' (by simp [q1])) h2
          exact ⟨.cons ha hb.1, by simp [hb.2]⟩
        · cases h
      · cases h

/-- What a view read was so. -/
theorem view_reads (m : Mm) : ∀ (d : Nat), (∀ (v v' : AVal) (rs : List (Nat × Flag)), view m d v = some (v', rs) → ∀ r f, (r, f) ∈ rs → f ≠ .dead ∧ ∃ c, m r = some (c, f) ∧ c.isCells = true) ∧
    (∀ (vs vs' : List AVal) (rs : List (Nat × Flag)), viewX (view m d) vs = some (vs', rs) → ∀ r f, (r, f) ∈ rs → f ≠ .dead ∧ ∃ c, m r = some (c, f) ∧ c.isCells = true) := by
  have hL : ∀ d, (∀ (v v' : AVal) (rs : List (Nat × Flag)), view m d v = some (v', rs) → ∀ r f, (r, f) ∈ rs → f ≠ .dead ∧ ∃ c, m r = some (c, f) ∧ c.isCells = true) →
      (∀ (vs vs' : List AVal) (rs : List (Nat × Flag)), viewX (view m d) vs = some (vs', rs) → ∀ r f, (r, f) ∈ rs → f ≠ .dead ∧ ∃ c, m r = some (c, f) ∧ c.isCells = true) := by
    intro d hv vs
    induction vs with
    | nil =>
      intro vs' rs h r f hrf
      simp only [viewX, Option.some.injEq, Prod.mk.injEq] at h
      obtain ⟨rfl, rfl⟩ := h
      simp at hrf
    | cons v vs ih =>
      intro vs' rs h r f hrf
      simp only [viewX] at h
      split at h
      · rename_i v' r1 hv1
        split at h
        · rename_i vs1 r2 hv2
          simp only [Option.some.injEq, Prod.mk.injEq] at h
          obtain ⟨rfl, rfl⟩ := h
          rcases List.mem_append.1 hrf with h | h
          · exact hv _ _ _ hv1 r f h
          · exact ih _ _ hv2 r f h
        · cases h
      · cases h
  intro d
  induction d with
  | zero => exact ⟨fun v v' rs h => by simp [view] at h, hL 0 (fun v v' rs h => by simp [view] at h)⟩
  | succ d ih =>
    have hv : ∀ (v v' : AVal) (rs : List (Nat × Flag)), view m (d + 1) v = some (v', rs) → ∀ r f, (r, f) ∈ rs → f ≠ .dead ∧ ∃ c, m r = some (c, f) ∧ c.isCells = true := by
      intro v v' rs h r f hrf
      cases v with
      | unk => simp only [view, Option.some.injEq, Prod.mk.injEq] at h; obtain ⟨rfl, rfl⟩ := h; simp at hrf
      | nilc => simp [view] at h
      | eptr r i j => simp [view] at h
      | aptr r => simp [view] at h
      | bool b => simp only [view, Option.some.injEq, Prod.mk.injEq] at h; obtain ⟨rfl, rfl⟩ := h; simp at hrf
      | int kd n => simp only [view, Option.some.injEq, Prod.mk.injEq] at h; obtain ⟨rfl, rfl⟩ := h; simp at hrf
      | nils t => simp only [view, Option.some.injEq, Prod.mk.injEq] at h; obtain ⟨rfl, rfl⟩ := h; simp at hrf
      | imm t l f => simp only [view, Option.some.injEq, Prod.mk.injEq] at h; obtain ⟨rfl, rfl⟩ := h; simp at hrf
      | arrv t l => simp only [view, Option.some.injEq, Prod.mk.injEq] at h; obtain ⟨rfl, rfl⟩ := h; simp at hrf
      | yieldv => simp [view] at h
      | nilfn => simp only [view, Option.some.injEq, Prod.mk.injEq] at h; obtain ⟨rfl, rfl⟩ := h; simp at hrf
      | sem p => simp only [view, Option.some.injEq, Prod.mk.injEq] at h; obtain ⟨rfl, rfl⟩ := h; simp at hrf
      | mref r => simp only [view, Option.some.injEq, Prod.mk.injEq] at h; obtain ⟨rfl, rfl⟩ := h; simp at hrf
      | reg r0 f0 =>
        simp only [view] at h
        split at h
        · rename_i t l g hg
          split at h
          · cases h
          · rename_i hgd
            simp only [Option.some.injEq, Prod.mk.injEq] at h
            obtain ⟨rfl, rfl⟩ := h
            simp only [List.mem_singleton, Prod.mk.injEq] at hrf
            obtain ⟨rfl, rfl⟩ := hrf
            exact ⟨hgd, _, hg, rfl⟩
        · cases h
      | sub r0 lo len f0 =>
        simp only [view] at h
        split at h
        · rename_i t l g hg
          split at h
          · cases h
          · rename_i hgd
            simp only [Option.some.injEq, Prod.mk.injEq] at h
            obtain ⟨rfl, rfl⟩ := h
            simp only [List.mem_singleton, Prod.mk.injEq] at hrf
            obtain ⟨rfl, rfl⟩ := hrf
            exact ⟨hgd, _, hg, rfl⟩
        · cases h
      | ptr r0 off =>
        simp only [view] at h
        split at h
        · rename_i cells g hg
          split at h
          · cases h
          · rename_i hgd
            split at h
            · rename_i cs' rs' hv
              simp only [Option.some.injEq, Prod.mk.injEq] at h
              obtain ⟨rfl, rfl⟩ := h
              rcases List.mem_cons.1 hrf with h | h
              · simp only [Prod.mk.injEq] at h
                obtain ⟨rfl, rfl⟩ := h
                exact ⟨hgd, _, hg, rfl⟩
              · exact ih.2 _ _ _ hv r f h
            · cases h
        · cases h
      | iptr cells =>
        simp only [view] at h
        split at h
        · rename_i cs' rs' hv
          simp only [Option.some.injEq, Prod.mk.injEq] at h
          obtain ⟨rfl, rfl⟩ := h
          exact ih.2 _ _ _ hv r f hrf
        · cases h
      | agg cells =>
        simp only [view] at h
        split at h
        · rename_i cs' rs' hv
          simp only [Option.some.injEq, Prod.mk.injEq] at h
          obtain ⟨rfl, rfl⟩ := h
          exact ih.2 _ _ _ hv r f hrf
        · cases h
      | tup cells =>
        simp only [view] at h
        split at h
        · rename_i cs' rs' hv
          simp only [Option.some.injEq, Prod.mk.injEq] at h
          obtain ⟨rfl, rfl⟩ := h
          exact ih.2 _ _ _ hv r f hrf
        · cases h
      | fn f0 a b =>
        simp only [view] at h
        split at h
        · rename_i a' r1 hv1
          split at h
          · rename_i b' r2 hv2
            simp only [Option.some.injEq, Prod.mk.injEq] at h
            obtain ⟨rfl, rfl⟩ := h
            rcases List.mem_append.1 hrf with h | h
            · exact ih.2 _ _ _ hv1 r f h
            · exact ih.2 _ _ _ hv2 r f h
          · cases h
        · cases h
    exact ⟨hv, hL (d + 1) hv⟩

/-- The memory in which the regions of one's own among those read are frozen. -/
theorem frz_get (m : Mm) : ∀ (rs : List (Nat × Flag)) (r : Nat), flagsM m (frzAll rs) r = match m r with
    | some (c, g) => some (c, if (r, Flag.own) ∈ rs then .frz else g)
    | none => none := by
  intro rs
  induction rs generalizing m with
  | nil => intro r; simp only [frzAll, flagsM]; split <;> simp_all
  | cons u rs ih =>
    intro r
    obtain ⟨r0, f0⟩ := u
    cases f0 with
    | own =>
      simp only [frzAll, flagsM, ih]
      have hu : flagM m (r0, Flag.frz) r = match m r with
          | some (c, g) => some (c, if r = r0 then .frz else g)
          | none => none := by
        simp only [flagM]
        by_cases e : r = r0
        · subst e
          cases hmr : m r with
          | none => simp [hmr]
          | some x => simp [upd_same]
        · have h1 : ∀ y : Option (Cont × Flag), (match y with
              | some (c, _) => upd m r0 (c, Flag.frz)
              | none => m) r = m r := by
            intro y
            rcases y with _ | ⟨c, g⟩
            · rfl
            · exact upd_ne _ _ _ _ e
          refine Eq.trans (h1 _) ?_
          split <;> simp_all
      rw [hu]
      cases hmr : m r with
      | none => simp
      | some x =>
        obtain ⟨c, g⟩ := x
        simp only [List.mem_cons, Prod.mk.injEq, and_true]
        by_cases e : r = r0
        · subst e; simp
        · simp [e]
    | frz => simp only [frzAll, ih]; split <;> simp
    | dead => simp only [frzAll, ih]; split <;> simp

theorem MRel.freeze (hm : MRel F K H w m) (hk : Knows K w) (rs : List (Nat × Flag)) (hrs : ∀ r f, (r, f) ∈ rs → f ≠ .dead ∧ ∃ c, m r = some (c, f) ∧ c.isCells = true) :
    MRel F (K.plus w (bases H rs)) H w (flagsM m (frzAll rs)) ∧ (∀ b, bases H rs b = true → K.inv b = none ∨ ∃ cs, K.cells b = some cs) := by
  have hB : ∀ b, bases H rs b = true → (K.inv b = none ∧ ¬ F b ∧ ∃ r c hd, (r, Flag.own) ∈ rs ∧ m r = some (c, .own) ∧ H r = some hd ∧ hd.base = some b) ∨ ∃ cs, K.cells b = some cs := by
    intro b hb
    obtain ⟨r, f, hd, h1, h2, h3⟩ := bases_spec hb
    obtain ⟨hd1, c, hc, hcc⟩ := hrs r f h1
    cases f with
    | own =>
      have := hm.own r c hd b hc h2 h3
      exact .inl ⟨this.2.2.1, this.1, r, c, hd, h1, hc, h2, h3⟩
    | frz => exact .inr (hm.frz r c hd b hc h2 h3)
    | dead => exact absurd rfl hd1
  refine ⟨⟨?_, ?_, ?_, ?_⟩, fun b hb => (hB b hb).imp (fun h => h.1) id⟩
  · intro r c f hd h1 h2 h3
    rw [frz_get] at h1
    cases hmr : m r with
    | none => rw [hmr] at h1; cases h1
    | some x =>
      obtain ⟨c', g⟩ := x
      rw [hmr] at h1
      simp only [Option.some.injEq, Prod.mk.injEq] at h1
      obtain ⟨rfl, h1⟩ := h1
      refine (hm.cont r c' g hd hmr ?_ h3).mono (K.le_plus w _) (.refl H) (fun _ _ => rfl)
      intro e
      subst e
      by_cases hmem : (r, Flag.own) ∈ rs
      · obtain ⟨_, c2, hc2, _⟩ := hrs r _ hmem
        rw [hmr] at hc2; cases hc2
      · rw [if_neg hmem] at h1; exact h2 h1.symm
  · intro r c hd b h1 h2 h3
    rw [frz_get] at h1
    cases hmr : m r with
    | none => rw [hmr] at h1; cases h1
    | some x =>
      obtain ⟨c', g⟩ := x
      rw [hmr] at h1
      simp only [Option.some.injEq, Prod.mk.injEq] at h1
      obtain ⟨rfl, h1⟩ := h1
      by_cases hmem : (r, Flag.own) ∈ rs
      · rw [if_pos hmem] at h1; cases h1
      · rw [if_neg hmem] at h1
        subst h1
        obtain ⟨g1, g2, g3, g4⟩ := hm.own r c' hd b hmr h2 h3
        refine ⟨g1, ?_, g3, g4⟩
        cases hb : bases H rs b with
        | false => rw [plus_none hb]; exact g2
        | true =>
          rcases hB b hb with ⟨_, _, r2, c2, hd2, q1, q2, q3, q4⟩ | ⟨cs, q⟩
          · have := hm.inj r r2 c' c2 hd hd2 b hmr q2 h2 q3 h3 q4
            subst this
            exact absurd q1 hmem
          · rw [g2] at q; cases q
  · intro r c hd b h1 h2 h3
    rw [frz_get] at h1
    cases hmr : m r with
    | none => rw [hmr] at h1; cases h1
    | some x =>
      obtain ⟨c', g⟩ := x
      rw [hmr] at h1
      simp only [Option.some.injEq, Prod.mk.injEq] at h1
      obtain ⟨rfl, h1⟩ := h1
      by_cases hmem : (r, Flag.own) ∈ rs
      · obtain ⟨_, c2, hc2, hcc⟩ := hrs r _ hmem
        obtain ⟨_, _, _, g0⟩ := hm.own r c2 hd b hc2 h2 h3
        obtain ⟨cs, e, g4⟩ := g0 hcc
        exact ⟨cs, plus_new (bases_mem hmem h2 h3) hk g4⟩
      · rw [if_neg hmem] at h1
        subst h1
        obtain ⟨cs, g⟩ := hm.frz r c' hd b hmr h2 h3
        exact ⟨cs, (K.le_plus w _).cells _ _ g⟩
  · intro r1 r2 c1 c2 hd1 hd2 b h1 h2 h3 h4 h5 h6
    have back : ∀ r c, flagsM m (frzAll rs) r = some (c, .own) → ∃ c', m r = some (c', .own) := by
      intro r c h
      rw [frz_get] at h
      cases hmr : m r with
      | none => rw [hmr] at h; cases h
      | some x =>
        obtain ⟨c', g⟩ := x
        rw [hmr] at h
        simp only [Option.some.injEq, Prod.mk.injEq] at h
        obtain ⟨rfl, h⟩ := h
        split at h
        · cases h
        · subst h; exact ⟨c', rfl⟩
    obtain ⟨d1, g1⟩ := back r1 c1 h1
    obtain ⟨d2, g2⟩ := back r2 c2 h2
    exact hm.inj r1 r2 d1 d2 hd1 hd2 b g1 g2 h3 h4 h5 h6

theorem WOk.frozen (hok : WOk F K w) (hm : MRel F K H w m) (rs : List (Nat × Flag)) (hrs : ∀ r f, (r, f) ∈ rs → f ≠ .dead ∧ ∃ c, m r = some (c, f) ∧ c.isCells = true) :
    WOk F (K.plus w (bases H rs)) w ∧ Fix F K (K.plus w (bases H rs)) := by
  have hB : ∀ b, bases H rs b = true → (K.inv b = none ∧ ¬ F b) ∨ ∃ cs, K.cells b = some cs := by
    intro b hb
    obtain ⟨r, f, hd, h1, h2, h3⟩ := bases_spec hb
    obtain ⟨hd1, c, hc, hcc⟩ := hrs r f h1
    cases f with
    | own =>
      have := hm.own r c hd b hc h2 h3
      exact .inl ⟨this.2.2.1, this.1⟩
    | frz => exact .inr (hm.frz r c hd b hc h2 h3)
    | dead => exact absurd rfl hd1
  refine ⟨hok.plus _ (fun b hb => ?_), fun b hb => ⟨?_, rfl⟩⟩
  · rcases hB b hb with h | ⟨cs, h⟩
    · exact h.1
    · cases hi : K.inv b with
      | none => rfl
      | some p => have := hok.apart b p hi; rw [h] at this; cases this
  · cases hbs : bases H rs b with
    | false => exact plus_none hbs
    | true =>
      rcases hB b hbs with h | ⟨cs, h⟩
      · exact absurd hb h.2
      · rw [h]; exact (K.le_plus w _).cells _ _ h
end
end Go.Abs
end

section
/- The operations that make no memory do what the interpreter says. -/
namespace Go.Abs
section
variable {P : Program} {F : Nat → Prop} {K : Know} {H : Nat → Option Hd} {w : World} {m : Mm} {nx : Nat} {k : Q → Prop} {ev : Operand → AVal} {ρ : Operand → Value}

theorem r_under {t : TypeId} {d : TypeDesc} (h : P.underlying t = some d) (w : World) : (underlying t).run P w = .ok d w := by
  simp [underlying, h]
theorem r_info {t : TypeId} {i : TypeInfo} (h : P.info? t = some i) (w : World) : (typeInfo t).run P w = .ok i w := by
  simp [typeInfo, h]
theorem r_size {t : TypeId} {i : TypeInfo} (h : P.info? t = some i) (w : World) : (sizeOf t).run P w = .ok i.size w := by
  simp [sizeOf, r_info h]
theorem under_info {t : TypeId} {d : TypeDesc} (h : P.underlying t = some d) : ∃ i, P.info? t = some i := by
  unfold Program.underlying at h
  cases hi : P.info? t with
  | none => rw [hi] at h; cases h
  | some i => exact ⟨i, rfl⟩
theorem r_sizeT {t : TypeId} {d : TypeDesc} (h : P.underlying t = some d) (w : World) : (sizeOf t).run P w = .ok (sizeT P t) w := by
  obtain ⟨i, hi⟩ := under_info h
  rw [r_size hi]
  simp [sizeT, hi]
theorem r_isAgg {t : TypeId} {d : TypeDesc} (h : P.underlying t = some d) (w : World) : (isAgg t).run P w = .ok (aggT P t) w := by
  simp only [isAgg, Sem.run_bind, r_under h, Result.andThen_ok, aggT, h]
  cases d <;> rfl
theorem aggT_under {t : TypeId} (h : aggT P t = true) : ∃ d, P.underlying t = some d := by
  unfold aggT at h
  split at h
  · exact ⟨_, ‹_›⟩
  · exact ⟨_, ‹_›⟩
  · cases h

theorem tyOf_info : ∀ (d : Nat) (t : TypeId) (ty : Ty), tyOf P d t = some ty → ∃ i de, P.info? t = some i ∧ i.size = ty.size ∧ P.underlying t = some de ∧ sizeT P t = ty.size := by
  intro d
  induction d with
  | zero => intro t ty h; simp [tyOf] at h
  | succ d ih =>
    intro t ty h
    unfold tyOf at h
    split at h
    · rename_i i kd hi hu
      split at h
      · rename_i hs; cases h; exact ⟨i, _, hi, hs, hu, by simp [sizeT, hi, hs, Ty.size]⟩
      · cases h
    · rename_i i hi hu
      split at h
      · rename_i hs; cases h; exact ⟨i, _, hi, hs, hu, by simp [sizeT, hi, hs, Ty.size]⟩
      · cases h
    · rename_i i e hi hu
      split at h
      · rename_i hs
        split at h
        · cases h; exact ⟨i, _, hi, hs, hu, by simp [sizeT, hi, hs, Ty.size]⟩
        · cases h
      · cases h
    · rename_i i fs hi hu
      split at h
      · split at h
        · rename_i hs; cases h; exact ⟨i, _, hi, hs, hu, by simp [sizeT, hi, hs]⟩
        · cases h
      · cases h
    · cases h

theorem typed_rep {t : TypeId} {v : AVal} {x : Value} (h : Rep K H v x) : Rep K H (typed P t v) x := by
  unfold typed
  split
  · split
    · simpa [Rep] using h
    · exact h
  · exact h

theorem constA1_rep : ∀ (v : Value), Rep K H (constA1 v) v := by
  intro v
  unfold constA1
  split <;> simp [Rep, nilP]
theorem constA_rep : ∀ (v : Value), Rep K H (constA v) v := by
  intro v
  unfold constA
  split
  · rename_i cs
    simp only [Rep]
    refine ⟨cs, rfl, ?_⟩
    generalize cs.toList = l
    induction l with
    | nil => exact .nil
    | cons a l ih => exact .cons (constA1_rep a) ih
  · exact constA1_rep v

theorem parts_rep {v : AVal} {x : Value} {cells : List AVal} (hp : v.parts = some cells) (h : Rep K H v x) : RepL K H cells x.cells.toList := by
  cases v <;> simp only [AVal.parts, Option.some.injEq] at hp <;> (try cases hp)
  case agg =>
    simp only [Rep] at h
    obtain ⟨cs', rfl, h2⟩ := h
    exact h2
  all_goals
    have h0 := h
    simp only [Rep] at h
  case bool => subst h; exact .cons h0 .nil
  case int => subst h; exact .cons h0 .nil
  case nils => subst h; exact .cons h0 .nil
  case imm => obtain ⟨_, _, rfl, _⟩ := h; exact .cons h0 .nil
  case reg => obtain ⟨_, _, rfl, _⟩ := h; exact .cons h0 .nil
  case sub => obtain ⟨_, _, _, _, rfl, _⟩ := h; exact .cons h0 .nil
  case ptr => obtain ⟨_, _, _, _, rfl⟩ := h; exact .cons h0 .nil
  case eptr => obtain ⟨_, _, _, _, rfl⟩ := h; exact .cons h0 .nil
  case aptr => obtain ⟨_, _, _, _, _, rfl⟩ := h; exact .cons h0 .nil
  case mref => obtain ⟨_, _, _, _, rfl⟩ := h; exact .cons h0 .nil
  case iptr => obtain ⟨_, _, _, rfl, _⟩ := h; exact .cons h0 .nil
  case fn => obtain ⟨_, _, rfl, _⟩ := h; exact .cons h0 .nil
  case nilfn => subst h; exact .cons h0 .nil
  case yieldv => obtain ⟨_, _, rfl⟩ := h; exact .cons h0 .nil
  case sem => rcases SemP.cell _ _ _ h with ⟨_, rfl⟩ | rfl <;> exact .cons h0 .nil

theorem one_rep {v : AVal} {x : Value} (hp : v.one = true) (h : Rep K H v x) : one x = true := by
  cases v <;> simp [AVal.one] at hp <;> simp only [Rep] at h
  case nilc => subst h; rfl
  case bool => subst h; rfl
  case int => subst h; rfl
  case nils => subst h; rfl
  case imm => obtain ⟨_, _, rfl, _⟩ := h; rfl
  case reg => obtain ⟨_, _, rfl, _⟩ := h; rfl
  case sub => obtain ⟨_, _, _, _, rfl, _⟩ := h; rfl
  case ptr => obtain ⟨_, _, _, _, rfl⟩ := h; rfl
  case eptr => obtain ⟨_, _, _, _, rfl⟩ := h; rfl
  case aptr => obtain ⟨_, _, _, _, _, rfl⟩ := h; rfl
  case mref => obtain ⟨_, _, _, _, rfl⟩ := h; rfl
  case iptr => obtain ⟨_, _, _, rfl, _⟩ := h; rfl
  case fn => obtain ⟨_, _, rfl, _⟩ := h; rfl
  case nilfn => subst h; rfl
  case yieldv => obtain ⟨_, _, rfl⟩ := h; rfl
  case sem => rcases SemP.cell _ _ _ h with ⟨_, rfl⟩ | rfl <;> rfl

theorem allOne_rep : ∀ {vs : List AVal} {xs : List Value}, allOne vs = true → RepL K H vs xs → ∀ x ∈ xs, one x = true
  | [], xs, _, h, x, hx => by rw [RepL.nil_iff.1 h] at hx; simp at hx
  | v :: vs, xs, ho, h, x, hx => by
    simp only [allOne, Bool.and_eq_true] at ho
    obtain ⟨c, cs, rfl, h1, h2⟩ := h.inv
    rcases List.mem_cons.1 hx with rfl | hx
    · exact one_rep ho.1 h1
    · exact allOne_rep ho.2 h2 x hx

/-- A load at a type. -/
theorem ld_run {t : TypeId} {cells : List AVal} {v : AVal} {b off : Nat} {cs : Array Value} {e : TypeId} {fz : Nat × Nat} (hb : w.heap[b]? = some (.cells cs e fz))
    (hr : RepL K H cells (slab cs off cells.length)) (h : ldA P t cells = some v) : ∃ x, (loadVar t ⟨b, off, none⟩).run P w = .ok x w ∧ Rep K H v x := by
  have agg : ∀ d, P.underlying t = some d → aggT P t = true → (P.info? t).isSome = true → sizeT P t ≤ cells.length → v = .agg (cells.take (sizeT P t)) →
      ∃ x, (loadVar t ⟨b, off, none⟩).run P w = .ok x w ∧ Rep K H v x := by
    intro d hd ha hi hs hv
    have hl := RepL.length hr
    by_cases hz : sizeT P t = 0
    · refine ⟨.agg #[], ?_, ?_⟩
      · simp only [loadVar, Sem.run_bind, r_isAgg hd, Result.andThen_ok, ha, if_true, r_sizeT hd, hz]
        simp [loadCells, loadCellsFrom]
      · rw [hv, hz]
        simp only [Rep]
        exact ⟨_, rfl, .nil⟩
    · have hsz : off + cells.length ≤ cs.size := slab_le hl (by omega)
      refine ⟨.agg (slab cs off (sizeT P t)).toArray, ?_, ?_⟩
      · simp only [loadVar, Sem.run_bind, r_isAgg hd, Result.andThen_ok, ha, if_true, r_sizeT hd]
        have := run_loadCells P hb off (sizeT P t) 0 #[] (by omega)
        simp only [loadCells, this, Result.andThen_ok]
        simp
      · rw [hv]
        simp only [Rep]
        refine ⟨_, rfl, ?_⟩
        have h2 := RepL.take (sizeT P t) hr
        have h3 : (slab cs off cells.length).take (sizeT P t) = slab cs off (sizeT P t) := by
          unfold slab
          rw [List.take_take, Nat.min_eq_left hs]
        rw [h3] at h2
        simpa using h2
  have other : ∀ d, P.underlying t = some d → aggT P t = false → cells.head? = some v → ∃ x, (loadVar t ⟨b, off, none⟩).run P w = .ok x w ∧ Rep K H v x := by
    intro d hd ha hv
    cases cells with
    | nil => simp at hv
    | cons a as =>
      simp only [List.head?_cons, Option.some.injEq] at hv
      subst hv
      obtain ⟨x, xs, h1, h2, h3⟩ := hr.inv
      refine ⟨x, ?_, h2⟩
      have hc : cs[off]? = some x := by
        have := slab_get (cs := cs) (o := off) (n := (a :: as).length) (j := 0) (by simp)
        rw [h1] at this
        simpa using this.symm
      simp only [loadVar, Sem.run_bind, r_isAgg hd, Result.andThen_ok, ha]
      exact Abs.run_load P hb off x hc
  unfold ldA at h
  split at h
  · cases h
  · rename_i fs hd
    split at h
    · rename_i hc
      simp only [Bool.and_eq_true, decide_eq_true_eq] at hc
      cases h
      exact agg _ hd (by simp [aggT, hd]) hc.1 hc.2 rfl
    · cases h
  · rename_i n e' hd
    split at h
    · rename_i hc
      simp only [Bool.and_eq_true, decide_eq_true_eq] at hc
      cases h
      exact agg _ hd (by simp [aggT, hd]) hc.1 hc.2 rfl
    · cases h
  · rename_i d h1 h2 hd
    split at h
    · cases h
      refine other d hd ?_ rfl
      unfold aggT
      rw [hd]
      cases d with
      | struct fs => exact absurd rfl (h1 fs)
      | array n e' => exact absurd rfl (h2 n e')
      | _ => rfl
    · cases h

/-- A part of an aggregate. -/
theorem part_run {t : TypeId} {cells : List AVal} {v : AVal} {off : Nat} {cs : Array Value} (hr : RepL K H cells cs.toList) (h : ldA P t (cells.drop off) = some v) :
    ∃ x, (part t cs off).run P w = .ok x w ∧ Rep K H v x := by
  have hrd := RepL.drop off hr
  have hlen := RepL.length hrd
  have agg : ∀ d, P.underlying t = some d → aggT P t = true → sizeT P t ≤ (cells.drop off).length → v = .agg ((cells.drop off).take (sizeT P t)) →
      ∃ x, (part t cs off).run P w = .ok x w ∧ Rep K H v x := by
    intro d hd ha hs hv
    refine ⟨.agg (cs.extract off (off + sizeT P t)), ?_, ?_⟩
    · simp only [part, Sem.run_bind, r_isAgg hd, Result.andThen_ok, ha, if_true, r_sizeT hd]
      rfl
    · rw [hv]
      simp only [Rep]
      refine ⟨_, rfl, ?_⟩
      have h2 := RepL.take (sizeT P t) hrd
      have h3 : (cs.toList.drop off).take (sizeT P t) = (cs.extract off (off + sizeT P t)).toList := by
        rw [Array.toList_extract]
        simp [List.extract]
      rw [h3] at h2
      exact h2
  have other : ∀ d, P.underlying t = some d → aggT P t = false → (cells.drop off).head? = some v → ∃ x, (part t cs off).run P w = .ok x w ∧ Rep K H v x := by
    intro d hd ha hv
    cases hcd : cells.drop off with
    | nil => rw [hcd] at hv; simp at hv
    | cons a as =>
      rw [hcd] at hv hrd
      simp only [List.head?_cons, Option.some.injEq] at hv
      subst hv
      obtain ⟨x, xs, h1, h2, h3⟩ := hrd.inv
      refine ⟨x, ?_, h2⟩
      have hc : cs[off]? = some x := by
        have h4 : (cs.toList.drop off)[0]? = some x := by rw [h1]; rfl
        rw [List.getElem?_drop] at h4
        simpa using h4
      simp only [part, Sem.run_bind, r_isAgg hd, Result.andThen_ok, ha]
      simp [hc]
  unfold ldA at h
  split at h
  · cases h
  · rename_i fs hd
    split at h
    · rename_i hc
      simp only [Bool.and_eq_true, decide_eq_true_eq] at hc
      cases h
      exact agg _ hd (by simp [aggT, hd]) hc.2 rfl
    · cases h
  · rename_i n e' hd
    split at h
    · rename_i hc
      simp only [Bool.and_eq_true, decide_eq_true_eq] at hc
      cases h
      exact agg _ hd (by simp [aggT, hd]) hc.2 rfl
    · cases h
  · rename_i d h1 h2 hd
    split at h
    · rename_i a as heq
      cases h
      refine other d hd ?_ (by rw [heq]; rfl)
      unfold aggT
      rw [hd]
      cases d with
      | struct fs => exact absurd rfl (h1 fs)
      | array n e' => exact absurd rfl (h2 n e')
      | _ => rfl
    · cases h

/-! ### the operations, one by one: those that only look -/

theorem q_value {s : Sem Value} {x : Value} {w' : World} (h : s.run P w = .ok x w') : (do pure (Next.value (← s)) : Sem Next).run P w = .ok (.value x) w' := by
  simp [h]

theorem eqCells_run : ∀ (xs ys : List AVal) (e : Bool), eqCells xs ys = some e → ∀ (cs ds : List Value), RepL K H xs cs → RepL K H ys ds →
    ∃ (l : List (IntKind × Int × Int)), cs = l.map (fun u => Value.int u.1 u.2.1) ∧ ds = l.map (fun u => Value.int u.1 u.2.2) ∧ e = l.all (fun u => u.2.1 == u.2.2)
  | [], [], e, h, cs, ds, h1, h2 => by
    simp only [eqCells, Option.some.injEq] at h
    refine ⟨[], by simpa using RepL.nil_iff.1 h1, by simpa using RepL.nil_iff.1 h2, by simp [← h]⟩
  | [.int k a], [.int k' b], e, h, cs, ds, h1, h2 => by
    simp only [eqCells] at h
    split at h
    · rename_i hk
      subst hk
      cases h
      obtain ⟨c, cs', rfl, g1, g2⟩ := h1.inv
      obtain ⟨d, ds', rfl, g3, g4⟩ := h2.inv
      simp only [Rep] at g1 g3
      subst g1 g3
      rw [RepL.nil_iff.1 g2, RepL.nil_iff.1 g4]
      exact ⟨[(k, a, b)], rfl, rfl, by simp⟩
    · cases h
  | .int k a :: x :: r, .int k' b :: s, e, h, cs, ds, h1, h2 => by
    simp only [eqCells] at h
    split at h
    · rename_i hk
      subst hk
      split at h
      · rename_i e' he
        cases h
        obtain ⟨c, cs', rfl, g1, g2⟩ := h1.inv
        obtain ⟨d, ds', rfl, g3, g4⟩ := h2.inv
        simp only [Rep] at g1 g3
        subst g1 g3
        obtain ⟨l, rfl, rfl, rfl⟩ := eqCells_run _ _ _ he _ _ g2 g4
        exact ⟨(k, a, b) :: l, rfl, rfl, by simp⟩
      · cases h
    · cases h
  | [.int k a], .int k' b :: y :: s, e, h, cs, ds, h1, h2 => by
    simp only [eqCells] at h
    split at h
    · cases h
    · cases h
end
end Go.Abs
end

section
/- The operations that only look: what they give. -/
namespace Go.Abs
section
variable {P : Program} {F : Nat → Prop} {K : Know} {H : Nat → Option Hd} {w : World} {m : Mm} {nx : Nat} {k : Q → Prop} {ev : Operand → AVal} {ρ : Operand → Value}

theorem rep_int {kd : IntKind} {n : Int} {x : Value} (h : Rep K H (.int kd n) x) : x = .int kd n := by simpa [Rep] using h
theorem rep_bool {b : Bool} {x : Value} (h : Rep K H (.bool b) x) : x = .bool b := by simpa [Rep] using h

theorem eqFields_ints (d : Nat) (cs ds : Array Value) : ∀ (fs : List Field) (i : Nat) (l : List (IntKind × Int × Int)), intsT.go P fs i = true → fs.length = l.length →
    cs.toList.drop i = l.map (fun u => Value.int u.1 u.2.1) → ds.toList.drop i = l.map (fun u => Value.int u.1 u.2.2) →
    (Op.eqFields (d + 1) cs ds fs).run P w = .ok (l.all (fun u => u.2.1 == u.2.2)) w
  | [], i, l, _, hl, _, _ => by
    simp only [List.length_nil] at hl
    rw [List.eq_nil_of_length_eq_zero hl.symm]
    simp [Op.eqFields]
  | f :: fs, i, l, hf, hl, hc, hd => by
    cases l with
    | nil => simp at hl
    | cons u l =>
      simp only [intsT.go, Bool.and_eq_true, decide_eq_true_eq] at hf
      obtain ⟨⟨⟨h1, h2⟩, h3⟩, h4⟩ := hf
      cases hu : P.underlying f.type with
      | none => rw [hu] at h3; simp at h3
      | some de =>
        rw [hu] at h3
        cases de <;> simp at h3
        rename_i kd
        have hag : aggT P f.type = false := by simp [aggT, hu]
        have cell : ∀ (es : Array Value) (v : Value) (r : List Value), es.toList.drop i = v :: r → es[i]? = some v := by
          intro es v r h
          have h4 : (es.toList.drop i)[0]? = some v := by rw [h]; rfl
          rw [List.getElem?_drop] at h4
          simpa using h4
        have nxt : ∀ (es : Array Value) (v : Value) (r : List Value), es.toList.drop i = v :: r → es.toList.drop (i + 1) = r := by
          intro es v r h
          rw [← List.drop_drop, h]; rfl
        simp only [List.map_cons] at hc hd
        have e1 := cell cs _ _ hc
        have e2 := cell ds _ _ hd
        have ih := eqFields_ints d cs ds fs (i + 1) l h4 (by simpa using hl) (nxt cs _ _ hc) (nxt ds _ _ hd)
        have p1 : (part f.type cs f.offset).run P w = .ok (.int u.1 u.2.1) w := by
          simp only [part, Sem.run_bind, r_isAgg hu, Result.andThen_ok, hag, h1]
          simp [e1]
        have p2 : (part f.type ds f.offset).run P w = .ok (.int u.1 u.2.2) w := by
          simp only [part, Sem.run_bind, r_isAgg hu, Result.andThen_ok, hag, h1]
          simp [e2]
        simp only [Op.eqFields]
        rw [if_pos (by simpa using h2)]
        simp only [Sem.run_bind, p1, p2, Result.andThen_ok, run_equalIn_int w d f.type u.1 kd u.2.1 u.2.2 hu, List.all_cons]
        cases hb : (u.2.1 == u.2.2)
        · simp
        · simp only [Bool.not_true, Bool.false_eq_true, if_false, Bool.true_and]
          exact ih

theorem eqItems_ints (d : Nat) {e : TypeId} {kd kd' : IntKind} (hu : P.underlying e = some (.int kd')) (hs : P.cellsOf e = 1) (cs ds : Array Value) : ∀ (n i : Nat) (l l' : List Int), l.length = n → l'.length = n →
    (∀ j (h : j < l.length), cs[i + j]? = some (.int kd l[j])) → (∀ j (h : j < l'.length), ds[i + j]? = some (.int kd l'[j])) →
    (Op.eqItems (d + 1) e (P.cellsOf e) cs ds (List.range' i n)).run P w = .ok (l == l') w
  | 0, i, l, l', h1, h2, _, _ => by
    rw [List.eq_nil_of_length_eq_zero h1, List.eq_nil_of_length_eq_zero h2]
    simp [Op.eqItems]
  | n + 1, i, [], l', h1, h2, _, _ => by simp at h1
  | n + 1, i, a :: l, [], h1, h2, _, _ => by simp at h2
  | n + 1, i, a :: l, b :: l', h1, h2, h3, h4 => by
    have hag : aggT P e = false := by simp [aggT, hu]
    have e1 : cs[i]? = some (.int kd a) := h3 0 (by simp)
    have e2 : ds[i]? = some (.int kd b) := h4 0 (by simp)
    have ih := eqItems_ints d hu hs cs ds n (i + 1) l l' (by simpa using h1) (by simpa using h2)
      (fun j h => by have := h3 (j + 1) (by simpa using h); simpa [Nat.add_assoc, Nat.add_comm 1 j] using this)
      (fun j h => by have := h4 (j + 1) (by simpa using h); simpa [Nat.add_assoc, Nat.add_comm 1 j] using this)
    have p1 : (part e cs (i * P.cellsOf e)).run P w = .ok (.int kd a) w := by
      simp only [part, Sem.run_bind, r_isAgg hu, Result.andThen_ok, hag, hs, Nat.mul_one]
      simp [e1]
    have p2 : (part e ds (i * P.cellsOf e)).run P w = .ok (.int kd b) w := by
      simp only [part, Sem.run_bind, r_isAgg hu, Result.andThen_ok, hag, hs, Nat.mul_one]
      simp [e2]
    simp only [List.range'_succ, Op.eqItems, Sem.run_bind, p1, p2, Result.andThen_ok, run_equalIn_int w d e kd kd' a b hu]
    have hab : ((a :: l) == (b :: l')) = (a == b && (l == l')) := rfl
    rw [hab]
    cases hb : (a == b)
    · simp
    · simp only [Bool.not_true, Bool.false_eq_true, if_false, Bool.true_and]
      exact ih

theorem elems_ints {kd : IntKind} {l : List Int} {cs : Array Value} (h : Elems K (.int kd) l cs 0) (j : Nat) (hj : j < l.length) : cs[j]? = some (.int kd l[j]) := by
  have := h j hj
  have h1 : slab cs (0 + j * 1) 1 = [Value.int kd l[j]] := this
  have h2 := slab_get (cs := cs) (o := 0 + j * 1) (n := 1) (j := 0) (by omega)
  rw [h1] at h2
  simpa using h2.symm

theorem bin_run {op : BinOp} {t : TypeId} {a b : AVal} {x y : Value} {ox oy : Operand} {kk : AVal → Prop} (hx : Rep K H a x) (hy : Rep K H b y) (h : binA P op t a b kk) :
    ∃ v z, kk v ∧ Rep K H v z ∧ (do eqGuard op t ox oy x y; binOp op t x y : Sem Value).run P w = .ok z w := by
  unfold binA at h
  split at h
  · rename_i ka na kb nb
    have hx := rep_int hx
    have hy := rep_int hy
    subst hx hy
    have hg : ∀ z, (binOp op t (.int ka na) (.int kb nb)).run P w = .ok z w → (do eqGuard op t ox oy (.int ka na) (.int kb nb); binOp op t (.int ka na) (.int kb nb) : Sem Value).run P w = .ok z w := by
      intro z hz
      have h1 : (eqGuard op t ox oy (.int ka na) (.int kb nb)).run P w = .ok () w := by
        cases op <;> simp [eqGuard]
      simp only [Sem.run_bind, h1, Result.andThen_ok, hz]
    split at h
    · obtain ⟨h1, h2⟩ := h
      refine ⟨_, .int ka (shlA ka na nb), h2, by simp [Rep], hg _ ?_⟩
      simp [binOp, Op.shift, shlA, Int.not_lt.2 h1]
    · obtain ⟨h1, h2⟩ := h
      refine ⟨_, .int ka (shrA ka na nb), h2, by simp [Rep], hg _ ?_⟩
      simp [binOp, Op.shift, shrA, Int.not_lt.2 h1]
    · rename_i hs1 hs2
      split at h
      · rename_i hkk
        subst hkk
        cases op <;> simp only at h <;> (try exact absurd h id)
        case add => exact ⟨_, .int ka (na + nb), h.2, by simp [Rep], hg _ (by have e : ka.wrap (na + nb) = na + nb := h.1; simp [binOp, Op.intArith, e])⟩
        case sub => exact ⟨_, .int ka (na - nb), h.2, by simp [Rep], hg _ (by have e : ka.wrap (na - nb) = na - nb := h.1; simp [binOp, Op.intArith, e])⟩
        case mul => exact ⟨_, .int ka (na * nb), h.2, by simp [Rep], hg _ (by have e : ka.wrap (na * nb) = na * nb := h.1; simp [binOp, Op.intArith, e])⟩
        case quo =>
          obtain ⟨⟨h1, h2, h3⟩, h4⟩ := h
          have e : ka.wrap (na.tdiv nb) = na / nb := by rw [Int.tdiv_eq_ediv_of_nonneg h1]; exact h3
          have hne : nb ≠ 0 := by omega
          exact ⟨_, .int ka (na / nb), h4, by simp [Rep], hg _ (by simp [binOp, Op.intDiv, hne, e])⟩
        case rem =>
          obtain ⟨⟨h1, h2⟩, h4⟩ := h
          have e : na.tmod nb = na % nb := Int.tmod_eq_emod_of_nonneg h1
          have hne : nb ≠ 0 := by omega
          exact ⟨_, .int ka (na % nb), h4, by simp [Rep], hg _ (by simp [binOp, Op.intDiv, hne, e])⟩
        case and => exact ⟨_, .int ka (bitsA .and ka na nb), h, by simp [Rep], hg _ (by simp [binOp, Op.intBits, bitsA])⟩
        case or => exact ⟨_, .int ka (bitsA .or ka na nb), h, by simp [Rep], hg _ (by simp [binOp, Op.intBits, bitsA])⟩
        case xor => exact ⟨_, .int ka (bitsA .xor ka na nb), h, by simp [Rep], hg _ (by simp [binOp, Op.intBits, bitsA])⟩
        case andNot => exact ⟨_, .int ka (bitsA .andNot ka na nb), h, by simp [Rep], hg _ (by simp [binOp, Op.intBits, bitsA])⟩
        case eql => exact ⟨_, _, h, by simp [Rep]; rfl, hg _ (by simp [binOp, Op.intCmp])⟩
        case neq => exact ⟨_, .bool (na != nb), h, by simp [Rep], hg _ (by simp [binOp, Op.intCmp])⟩
        case lss => exact ⟨_, .bool (decide (na < nb)), h, by simp [Rep], hg _ (by simp [binOp, Op.intCmp])⟩
        case leq => exact ⟨_, .bool (decide (na ≤ nb)), h, by simp [Rep], hg _ (by simp [binOp, Op.intCmp])⟩
        case gtr => exact ⟨_, .bool (decide (na > nb)), h, by simp [Rep], hg _ (by simp [binOp, Op.intCmp])⟩
        case geq => exact ⟨_, .bool (decide (na ≥ nb)), h, by simp [Rep], hg _ (by simp [binOp, Op.intCmp])⟩
      · exact absurd h id
  · rename_i p q
    have hx := rep_bool hx
    have hy := rep_bool hy
    subst hx hy
    split at h
    · rename_i hu
      cases op <;> simp only at h <;> (try exact absurd h id)
      case eql => exact ⟨_, .bool (p == q), h, by simp [Rep], by simp [eqGuard, binOp, Op.equal, Op.maxDepth, run_equalIn_bool w 9999 t p q hu]⟩
      case neq => exact ⟨_, .bool (!(p == q)), h, by simp [Rep], by simp [eqGuard, binOp, Op.equal, Op.maxDepth, run_equalIn_bool w 9999 t p q hu]⟩
    · exact absurd h id
  · rename_i xs ys
    split at h
    · rename_i hT
      split at h
      · rename_i e he
        simp only [Rep] at hx hy
        obtain ⟨cs, rfl, hc⟩ := hx
        obtain ⟨ds, rfl, hd⟩ := hy
        obtain ⟨l, h1, h2, h3⟩ := eqCells_run _ _ _ he _ _ hc hd
        unfold intsT at hT
        split at hT
        · rename_i fs hu
          simp only [Bool.and_eq_true, Bool.not_eq_true', decide_eq_true_eq] at hT
          obtain ⟨⟨⟨g1, g2⟩, g3⟩, g4⟩ := hT
          have hfo : P.fieldsOf t = fs := by simp [Program.fieldsOf, hu]
          have hlen : fs.toList.length = l.length := by
            have := RepL.length hc
            rw [h1] at this
            simp at this ⊢
            omega
          have heq := eqFields_ints (P := P) (w := w) 9998 cs ds fs.toList 0 l g4 hlen (by simpa using h1) (by simpa using h2)
          have hrun : (Op.equal t (.agg cs) (.agg ds)).run P w = .ok e w := by
            unfold Op.equal Op.maxDepth
            rw [run_equalIn_struct w 9999 t cs ds (by rw [hfo]; exact hu) g2, hfo, heq, h3]
          have hgd : ∀ op, (eqGuard op t ox oy (.agg cs) (.agg ds)).run P w = .ok () w := fun op => run_eqGuard_agg w op t ox oy cs ds g3
          cases op <;> simp only at h <;> (try exact absurd h id)
          case eql => exact ⟨_, .bool e, h, by simp [Rep], by simp [hgd, binOp, hrun]⟩
          case neq => exact ⟨_, .bool (!e), h, by simp [Rep], by simp [hgd, binOp, hrun]⟩
        · cases hT
      · exact absurd h id
    · exact absurd h id
  · rename_i tx lx ty ly
    split at h
    · rename_i hT
      obtain ⟨hT, rfl⟩ := hT
      split at h
      · rename_i l l' hl hl'
        cases tx <;> simp only [intList] at hl hl' <;> (try cases hl)
        rename_i kd
        cases hl'
        obtain ⟨hn1, hn2, h⟩ := h
        simp only [Rep] at hx hy
        obtain ⟨cs, rfl, hc, hc2⟩ := hx
        obtain ⟨ds, rfl, hd, hd2⟩ := hy
        unfold intArrT at hT
        split at hT
        · rename_i n' e hu
          simp only [Bool.and_eq_true, Bool.not_eq_true', decide_eq_true_eq] at hT
          obtain ⟨⟨⟨g1, g2⟩, g3⟩, g4⟩ := hT
          cases hue : P.underlying e with
          | none => rw [hue] at g4; simp at g4
          | some de =>
            rw [hue] at g4
            cases de <;> simp at g4
            rename_i kd'
            obtain ⟨i, hi⟩ := under_info hue
            have hco : P.cellsOf e = 1 := by simpa [Program.cellsOf, sizeT] using g3
            have hgd : ∀ op, (eqGuard op t ox oy (.agg cs) (.agg ds)).run P w = .ok () w := fun op => run_eqGuard_agg w op t ox oy cs ds g2
            have at_ : ∀ (l0 : List Int) (es : Array Value), l0.length = arrLenT P t → Elems K (.int kd) l0 es 0 → ∀ j (h : j < l0.length), es[0 + j]? = some (.int kd l0[j]) := by
              intro l0 es _ he j hj
              rw [Nat.zero_add]
              exact elems_ints he j hj
            have heq := eqItems_ints (P := P) (w := w) 9998 hue hco cs ds (arrLenT P t) 0 l l' hn1 hn2 (at_ l cs hn1 hc2) (at_ l' ds hn2 hd2)
            have hrun : (Op.equal t (.agg cs) (.agg ds)).run P w = .ok (l == l') w := by
              unfold Op.equal Op.maxDepth
              rw [run_equalIn_array w 9999 cs ds hu hi, List.range_eq_range', g1]
              exact heq
            cases op <;> simp only at h <;> (try exact absurd h id)
            case eql => exact ⟨_, .bool (l == l'), h, by simp [Rep], by simp [hgd, binOp, hrun]⟩
            case neq => exact ⟨_, .bool (!(l == l')), h, by simp [Rep], by simp [hgd, binOp, hrun]⟩
        · cases hT
      · exact absurd h id
    · exact absurd h id
  · exact absurd h id

/-! ### one operation at a time -/

variable (hok : WOk F K w) (hm : MRel F K H w m) (hev : ∀ x, Rep K H (ev x) (ρ x))
include hok hm hev

theorem q_pick (o : Oper) {c a b : Operand} (ho : o.op = .pick c a b) (h : match ev c with
    | .bool t => br t (k (.pure (ev a))) (k (.pure (ev b)))
    | _ => False) : Gives P F K H w m nx k ((execOp ρ o).run P w) := by
  split at h
  · rename_i t ht
    have hc := rep_bool (ht ▸ hev c)
    rw [br_iff] at h
    simp only [execOp, ho, hc, asBool, Sem.run_bind, Sem.run_pure, Result.andThen_ok]
    cases t with
    | true => exact gives_pure hok hm (hev a) (h.1 rfl)
    | false => exact gives_pure hok hm (hev b) (h.2 rfl)
  · exact absurd h id

theorem q_nilCheck (o : Oper) {x : Operand} (ho : o.op = .nilCheck x) (h : match ev x with
    | .ptr r i => k (.pure (.ptr r i))
    | .iptr cs => k (.pure (.iptr cs))
    | .aptr r => k (.pure (.aptr r))
    | .fn (.func f) a b => k (.pure (.fn (.func f) a b))
    | _ => False) : Gives P F K H w m nx k ((execOp ρ o).run P w) := by
  have hx := hev x
  split at h
  · rename_i r i he
    rw [he] at hx
    have hx' := hx
    simp only [Rep] at hx
    obtain ⟨hd, b, _, _, e⟩ := hx
    simp only [execOp, ho, e, Sem.run_pure]
    exact gives_pure hok hm (e ▸ hx') h
  · rename_i cs he
    rw [he] at hx
    have hx' := hx
    simp only [Rep] at hx
    obtain ⟨b, off, arr, e, _⟩ := hx
    simp only [execOp, ho, e, Sem.run_pure]
    exact gives_pure hok hm (e ▸ hx') h
  · rename_i r he
    rw [he] at hx
    have hx' := hx
    simp only [Rep] at hx
    obtain ⟨hd, b, _, _, _, e⟩ := hx
    simp only [execOp, ho, e, Sem.run_pure]
    exact gives_pure hok hm (e ▸ hx') h
  · rename_i f a b he
    rw [he] at hx
    have hx' := hx
    simp only [Rep] at hx
    obtain ⟨fi, ca, e, _⟩ := hx
    simp only [execOp, ho, e, Sem.run_pure]
    exact gives_pure hok hm (e ▸ hx') h
  · exact absurd h id

theorem q_binOp (o : Oper) {op : BinOp} {t : TypeId} {x y : Operand} {u : TypeId} (ho : o.op = .binOp op t x y u) (h : binA P op t (ev x) (ev y) (fun v => k (.pure v))) :
    Gives P F K H w m nx k ((execOp ρ o).run P w) := by
  obtain ⟨v, z, h1, h2, h3⟩ := bin_run (w := w) (ox := x) (oy := y) (hev x) (hev y) h
  simp only [execOp, ho]
  rw [q_value h3]
  exact gives_pure hok hm h2 h1

theorem q_unOp (o : Oper) {op : UnOp} {t : TypeId} {x : Operand} (h : match op, ev x with
    | .not, .bool b => k (.pure (.bool (!b)))
    | .neg, .int kd n => fitsK kd (-n) ∧ k (.pure (.int kd (-n)))
    | _, _ => False) (ho : o.op = .unOp op t x) : Gives P F K H w m nx k ((execOp ρ o).run P w) := by
  split at h
  · rename_i b he
    have hx := rep_bool (he ▸ hev x)
    simp only [execOp, ho, hx, Op.unary]
    rw [q_value (x := .bool (!b)) (w' := w) (by simp)]
    exact gives_pure hok hm (by simp [Rep]) h
  · rename_i kd n he
    have hx := rep_int (he ▸ hev x)
    simp only [execOp, ho, hx, Op.unary]
    have e : kd.wrap (0 - n) = -n := by rw [Int.zero_sub]; exact h.1
    rw [q_value (x := .int kd (-n)) (w' := w) (by simp only [Op.intArith, e]; simp)]
    exact gives_pure hok hm (by simp [Rep]) h.2
  · exact absurd h id

theorem q_convert (o : Oper) {s dst : TypeId} {x : Operand} (ho : o.op = .convert s dst x) (h : match P.underlying s, P.underlying dst, ev x with
    | some _, some (.int kd), .int _ n => fitsK kd n ∧ k (.pure (.int kd n))
    | _, _, _ => False) : Gives P F K H w m nx k ((execOp ρ o).run P w) := by
  split at h
  · rename_i ds kd ki n hs hu he
    have hx := rep_int (he ▸ hev x)
    simp only [execOp, ho, hx]
    have e : kd.wrap n = n := h.1
    rw [q_value (x := .int kd n) (w' := w) ?_]
    · exact gives_pure hok hm (by simp [Rep]) h.2
    · simp only [convert, Sem.run_bind, r_under hs, r_under hu, Result.andThen_ok]
      simp [Conv.intToInt, e]
  · exact absurd h id

omit hok hm in
theorem repL_map (l : List Operand) : RepL K H (l.map ev) (l.map ρ) := by
  induction l with
  | nil => exact .nil
  | cons x l ih => exact .cons (hev x) ih

theorem q_makeFunc (o : Oper) {fn : Fn} {first cap : Array Operand} (ho : o.op = .makeFunc fn first cap) (h : k (.pure (.fn fn (first.toList.map ev) (cap.toList.map ev)))) :
    Gives P F K H w m nx k ((execOp ρ o).run P w) := by
  simp only [execOp, ho, Instr.makeFunc]
  rw [q_value (x := .func fn (first.map ρ) (cap.map ρ)) (w' := w) (by simp)]
  refine gives_pure hok hm ?_ h
  simp only [Rep]
  exact ⟨_, _, rfl, by simpa using repL_map hev first.toList, by simpa using repL_map hev cap.toList⟩

omit hok hm hev in
theorem fieldT_spec {s : TypeId} {f off size : Nat} (h : fieldT P s f = some (off, size)) : ∃ fs fl, P.underlying s = some (.struct fs) ∧ fs[f]? = some fl ∧ fl.offset = off ∧ sizeT P fl.type ≠ 0 ∧ size = sizeT P fl.type := by
  unfold fieldT at h
  split at h
  · rename_i fs hu
    split at h
    · rename_i fl hf
      split at h
      · cases h
      · rename_i hz
        simp only [Option.some.injEq, Prod.mk.injEq] at h
        exact ⟨fs, fl, hu, hf, h.1, hz, h.2.symm⟩
    · cases h
  · cases h

omit hok hm hev in
theorem sizeT_info {t : TypeId} (h : sizeT P t ≠ 0) : ∃ i, P.info? t = some i ∧ i.size = sizeT P t := by
  unfold sizeT at *
  cases hi : P.info? t with
  | none => rw [hi] at h; simp at h
  | some i => exact ⟨i, rfl, rfl⟩

omit hok hm hev in
theorem field_run {s : TypeId} {f off size : Nat} (h : fieldT P s f = some (off, size)) (b o : Nat) : (Instr.fieldAt s (.pointer (some ⟨b, o, none⟩)) f).run P w = .ok (.pointer (some ⟨b, o + off, none⟩)) w := by
  obtain ⟨fs, fl, hu, hf, rfl, hz, _⟩ := fieldT_spec h
  obtain ⟨i, hi, his⟩ := sizeT_info hz
  simp only [Instr.fieldAt, Sem.run_bind, r_under hu, Result.andThen_ok, hf, Instr.sureAddr, Sem.run_pure, fieldPlace, r_size hi]
  rw [if_neg (by rw [his]; exact hz)]
  simp [add_none]

theorem q_fieldAddr (o : Oper) {s : TypeId} {x : Operand} {f : Nat} (ho : o.op = .fieldAddr s x f) (h : match fieldT P s f, ev x with
    | some (off, _), .ptr r o => k (.pure (.ptr r (o + off)))
    | some (off, _), .iptr cs => k (.pure (.iptr (cs.drop off)))
    | some (off, _), .eptr r i j => k (.pure (.eptr r i (j + off)))
    | _, _ => False) : Gives P F K H w m nx k ((execOp ρ o).run P w) := by
  have hx := hev x
  split at h
  · rename_i off sz r o' hf he
    rw [he] at hx
    simp only [Rep] at hx
    obtain ⟨hd, b, h1, h2, e⟩ := hx
    simp only [execOp, ho, e]
    rw [q_value (field_run hf b o')]
    exact gives_pure hok hm (by simp only [Rep]; exact ⟨hd, b, h1, h2, rfl⟩) h
  · rename_i off sz cs hf he
    rw [he] at hx
    simp only [Rep] at hx
    obtain ⟨b, o', arr, e, h2, h3⟩ := hx
    simp only [execOp, ho, e]
    rw [q_value (field_run hf b o')]
    refine gives_pure hok hm ?_ h
    simp only [Rep]
    refine ⟨b, o' + off, arr, rfl, h2, ?_⟩
    have h4 := RepL.drop off h3
    have : (slab arr o' cs.length).drop off = slab arr (o' + off) (cs.drop off).length := by
      unfold slab
      rw [List.drop_take, List.drop_drop, List.length_drop]
    rw [this] at h4
    exact h4
  · rename_i off sz r i j hf he
    rw [he] at hx
    simp only [Rep] at hx
    obtain ⟨hd, b, h1, h2, e⟩ := hx
    simp only [execOp, ho, e]
    rw [q_value (field_run hf b _)]
    exact gives_pure hok hm (by simp only [Rep]; exact ⟨hd, b, h1, h2, by rw [Nat.add_assoc]⟩) h
  · exact absurd h id

theorem q_field (o : Oper) {s : TypeId} {x : Operand} {f : Nat} (ho : o.op = .field s x f) (h : match fieldT P s f, ev x with
    | some (off, _), .agg cs => (match ldA P (fillA.fldTy P s f) (cs.drop off) with
      | some v => k (.pure v)
      | none => False)
    | _, _ => False) : Gives P F K H w m nx k ((execOp ρ o).run P w) := by
  have hx := hev x
  split at h
  · rename_i off sz cs hf he
    rw [he] at hx
    simp only [Rep] at hx
    obtain ⟨arr, e, h2⟩ := hx
    obtain ⟨fs, fl, hu, hfl, ho1, hz, _⟩ := fieldT_spec hf
    have hty : fillA.fldTy P s f = fl.type := by simp [fillA.fldTy, hu, hfl]
    split at h
    · rename_i v hv
      rw [hty] at hv
      obtain ⟨z, h3, h4⟩ := part_run (P := P) (w := w) h2 hv
      simp only [execOp, ho, e]
      rw [q_value (x := z) (w' := w) ?_]
      · exact gives_pure hok hm h4 h
      · simp only [Instr.field, Sem.run_bind, r_under hu, Result.andThen_ok, hfl, asAgg, Sem.run_pure, ho1, h3]
    · exact absurd h id
  · exact absurd h id

theorem q_extract (o : Oper) {x : Operand} {i : Nat} (ho : o.op = .extract x i) (h : match ev x with
    | .tup vs => (match vs[i]? with
      | some v => k (.pure v)
      | none => False)
    | _ => False) : Gives P F K H w m nx k ((execOp ρ o).run P w) := by
  have hx := hev x
  split at h
  · rename_i vs he
    rw [he] at hx
    simp only [Rep] at hx
    obtain ⟨cs, e, h2⟩ := hx
    split at h
    · rename_i v hv
      obtain ⟨c, h3, h4⟩ := RepL.get i v h2 hv
      simp only [execOp, ho, e, Instr.extract]
      have h5 : cs[i]? = some c := by simpa using h3
      rw [q_value (x := c) (w' := w) (by rw [h5]; rfl)]
      exact gives_pure hok hm h4 h
    · exact absurd h id
  · exact absurd h id
end
end Go.Abs
end

