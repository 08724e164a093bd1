/- Part 1 of the road to this seat's statements: lemmas about a small interpreter over the model's code, and about the functions that it is used on. No condition of its own. -/
import Derived.Calls
import Derived.KernelRfl
import Derived.Laws.World
import Derived.Orders
import Derived.Scope
import Derived.Below
import Derived.Still
import Derived.Laws.Sem
import Derived.Laws.StructEq
import Derived.ChangeKeysEq
import Derived.Laws.Append
import Derived.Laws.MakeOwn
import Derived.Laws.Tables
import Derived.MapKept
import Derived.WideKeyRuns
import Derived.RangeFuncRecord
set_option linter.all false
section
namespace Go.Abs
abbrev cB:Nat:=1208925819614629174706176
abbrev cZ:Nat:=9223372036854775808
inductive HO where
 |c (k n:Nat)
 |m (ks vs:Nat) (l:List (Nat×Nat×Nat)) (clk:Nat)
 |f (k1 n1 k2 n2:Nat)
 |i (m since:Nat) (seen:List Nat) (last:Nat)
 |z
def R6(n i:Nat):Nat:=Nat.mod (Nat.div n (Nat.pow cB i)) cB
def F6:IntKind->Nat|.i8=>1|.i16=>2|.i32=>3|.i64=>4|.u8=>5|.u16=>6|.u32=>7|.u64=>8
def P8(k v:Nat):Nat:=Nat.add (Nat.mul 128 v) (Nat.mul 8 k)
def kN(r off:Nat):Nat:=Nat.add (Nat.mul 8 (Nat.add (Nat.mul r 1048576) off)) 4
def Ar(r off len b a:Nat):Nat:=Nat.add (Nat.mul 8 (Nat.add (Nat.mul 2 (Nat.add (Nat.mul 256 (Nat.add (Nat.mul 1048576 (Nat.add (Nat.mul r 1048576) off)) len)) b)) a)) 5
def iQ(r:Nat):Nat:=Nat.add (Nat.mul 8 r) 6
def vM(f r:Nat):Nat:=Nat.add (Nat.mul 8 (Nat.add (Nat.mul r 65536) f)) 7
def oO:Nat->Nat
 |0=>1
 |k+1=>k
def Cp(ks n:Nat):Prop:=∀i,i<oO ks->R6 n i % 128=32
end Go.Abs
end
section
namespace Go.Abs
inductive Ty where
 |int (k:IntKind)
 |bool
 |slice (e:Ty)
 |pair (a b:Ty)
 deriving DecidableEq
def Ty.den:Ty->Type
 |.int _=>Int
 |.bool=>Bool
 |.slice e=>List e.den
 |.pair a b=>a.den×b.den
def Ty.size:Ty->Nat
 |.int _=>1
 |.bool=>1
 |.slice _=>1
 |.pair a b=>a.size+b.size
def Ty.zero:(t:Ty)->t.den
 |.int _=>(0:Int)
 |.bool=>false
 |.slice _=>[]
 |.pair a b=>(a.zero,b.zero)
theorem Ty.size_pos(t:Ty):0<t.size:=by
 induction t<;>simp[Ty.size]<;>omega
structure j0 where
 cells:Nat->Option (Array Value)
 inv:Nat->Option (Obj->Prop)
 y:Option Nat
def j0.aZ(K:j0)(y:Option Nat):j0:= {K with y:=y}
structure j0.le(K K':j0):Prop where
 cells:∀b cs,K.cells b=some cs->K'.cells b=some cs
 inv:∀b p,K.inv b=some p->K'.inv b=some p
 y:∀l,K.y=some l->K'.y=some l
structure j0.leW(K K':j0):Prop where
 cells:∀b cs,K.cells b=some cs->K'.cells b=some cs
 inv:∀b p,K.inv b=some p->K'.inv b=some p
theorem j0.le.bA{K K':j0}(h:K.le K'):K.leW K':=⟨h.cells,h.inv⟩
theorem j0.le.refl(K:j0):K.le K:=⟨fun _ _ h=>h,fun _ _ h=>h,fun _ h=>h⟩
theorem j0.le.trans{A B C:j0}(h:A.le B)(k:B.le C):A.le C:=
 ⟨fun b cs x=>k.cells b cs (h.cells b cs x),fun b p x=>k.inv b p (h.inv b p x),fun l x=>k.y l (h.y l x)⟩
theorem j0.le.aZ{A B:j0}(h:A.le B)(y:Option Nat):(A.aZ y).le (B.aZ y):=⟨h.cells,h.inv,fun _ x=>x⟩
structure JD where
 P:j0->Value->Prop
 mono:∀K K' v,K.leW K'->P K v->P K' v
 cell:∀K v,P K v->(∃b,v=.map b)\/v=.pointer none
inductive a7 where
 |R3
 |bool (b:Bool)
 |int (k:IntKind) (n:Int)
 |W2
 |R9 (t:Ty)
 |P5 (t:Ty) (l:List t.den) (full:Bool)
 |B6 (r:Nat) (full:Bool)
 |sub (r:Nat) (lo len:Nat) (full:Bool)
 |ptr (r off:Nat)
 |P9 (r i off:Nat)
 |O2 (r:Nat)
 |z8 (r:Nat)
 |L8 (cells:List a7)
 |agg (cells:List a7)
 |V5 (t:Ty) (l:List t.den)
 |I9 (vs:List a7)
 |fn (f:Fn) (first cap:List a7)
 |U0
 |J2
 |z6 (p:JD)
 |Bu (sh n:Nat)
structure MK where
 agg:Bool
 kt:Ty
 kv:IntKind
 deriving DecidableEq
inductive c7 where
 |box (cells:List a7)
 |bx (pre:List a7) (t:Ty) (n:Nat) (l:List t.den) (post:List a7)
 |sl (t:Ty) (l:List t.den)
 |mp (mk:MK) (l:List (Nat×mk.kt.den×Int)) (clk:Nat)
 |it (m:Option Nat) (since:Nat) (seen:List Nat) (last:Nat)
 |F8 (o:HO)
 |any
def c7.isCells:c7->Bool
 |.F8 (.c _ _)=>true
 |.box _=>true
 |.bx _ _ _ _ _=>true
 |.sl _ _=>true
 |_=>false
def Ty.oP:(t:Ty)->t.den->List Value
 |.int k,n=>[Value.int k n]
 |.bool,b=>[Value.bool b]
 |.slice _,_=>[]
 |.pair a b,x=>a.oP x.1++b.oP x.2
def Ty.ints:Ty->Bool
 |.int _=>true
 |.pair a b=>a.ints && b.ints
 |_=>false
def MK.key(mk:MK)(x:mk.kt.den):Value:=match mk.agg with
 |true=>.agg (mk.kt.oP x).toArray
 |false=>(mk.kt.oP x).headD (.bool false)
def MK.cU(mk:MK)(e:Nat×mk.kt.den×Int):MapEntry:= {key:=mk.key e.2.1,val:=.int mk.kv e.2.2,born:=e.1}
inductive p8 where
 |own
 |aQ
 |dead
 deriving DecidableEq
structure Hd where
 base:Option Nat
 sz:Nat
 len:Nat
 cap:Nat
inductive j5(H:Nat->Option Hd):Nat->Value->Prop where
 |int (k:IntKind) (n:Nat):n<73786976294838206464->j5 H (P8 (F6 k) n) (.int k ((n:Int) - (cZ:Nat)))
 |Bv:j5 H 9 (.bool false)
 |Tm:j5 H 17 (.bool true)
 |FF:j5 H 25 (.slice none 0 0)
 |tX:j5 H 33 (.pointer none)
 |HC:j5 H 41 (.map none)
 |HD:j5 H 49 .nilFunc
 |ptr (r off:Nat) (hd:Hd) (b:Nat):r<1048576->off<1048576->H r=some hd->hd.base=some b->j5 H (kN r off) (.pointer (some ⟨b,off,none⟩))
 |sl (r off len yO full:Nat) (hd:Hd) (b a3Z cap:Nat):r<1048576->off<1048576->len<1048576->yO<256->full<2->H r=some hd->hd.base=some b->len<=cap->(full=1->cap=len)->(cap=0\/a3Z=off)->off+cap*yO<=hd.sz->
  j5 H (Ar r off len yO full) (.slice (some ⟨b,a3Z,none⟩) len cap)
 |map (r:Nat) (hd:Hd) (b:Nat):r<1048576->H r=some hd->hd.base=some b->j5 H (iQ r) (.map (some b))
 |HE (f:Nat):f<65536->j5 H (vM f 0) (.func (.func f) #[] #[])
 |fn (f r:Nat) (hd:Hd) (fi ca:Array Value):r<1048575->f<65536->H r=some hd->hd.base=none->hd.sz=fi.size+4096*ca.size->fi.size<4096->(∀ (i:Nat) (v:Value),fi[i]? =some v->j5 H (R6 hd.len i) v)->(∀ (i:Nat) (v:Value),ca[i]? =some v->j5 H (R6 hd.cap i) v)->
  j5 H (vM f (r+1)) (.func (.func f) fi ca)
def w9(H:Nat->Option Hd)(k n:Nat)(vs:List Value):Prop:=n<cB^k/\vs.length=k/\∀ (i:Nat) (v:Value),vs[i]? =some v->j5 H (R6 n i) v
def I1(H:Nat->Option Hd)(a n:Nat)(v:Value):Prop:=
 match a with
 |0=>j5 H n v
 |k+1=>∃cs,v=.agg cs/\w9 H k n cs.toList
def Cq(H:Nat->Option Hd)(ks vs:Nat)(x:Nat×Nat×Nat)(e:MapEntry):Prop:=e.born=x.1/\I1 H ks x.2.1 e.key/\I1 H vs x.2.2 e.val/\Cp ks x.2.1
def I7(H:Nat->Option Hd)(ks vs:Nat):List (Nat×Nat×Nat)->List MapEntry->Prop
 |[],b=>b=[]
 |x::l,b=>∃e a,b=e::a/\Cq H ks vs x e/\I7 H ks vs l a
theorem j5.eQ{H H':Nat->Option Hd}(h:∀r hd,H r=some hd->H' r=some hd){c:Nat}{v:Value}(t:j5 H c v):j5 H' c v:=by
 induction t with
 |int k n a=>exact .int k n a
 |Bv=>exact .Bv
 |Tm=>exact .Tm
 |FF=>exact .FF
 |tX=>exact .tX
 |HC=>exact .HC
 |HD=>exact .HD
 |ptr r off hd b d a e g=>exact .ptr r off hd b d a (h _ _ e) g
 |sl r off len l i hd b j cap d a e g m o u w x y p=>exact .sl r off len l i hd b j cap d a e g m (h _ _ o) u w x y p
 |map r hd b d a e=>exact .map r hd b d (h _ _ a) e
 |HE f a=>exact .HE f a
 |fn f r hd z A d a e g m o _ _ q s=>exact .fn f r hd z A d a (h _ _ e) g m o q s
theorem w9.eQ{H H':Nat->Option Hd}(h:∀r hd,H r=some hd->H' r=some hd){k n:Nat}{vs:List Value}(a:w9 H k n vs):w9 H' k n vs:=⟨a.1,a.2.1,fun i v b=>(a.2.2 i v b).eQ h⟩
theorem I1.eQ{H H':Nat->Option Hd}(h:∀r hd,H r=some hd->H' r=some hd){a n:Nat}{v:Value}(b:I1 H a n v):I1 H' a n v:=by
 cases a with
 |zero=>exact j5.eQ h b
 |succ k=>obtain⟨cs,e,c⟩:=b;exact⟨cs,e,c.eQ h⟩
theorem I7.eQ{H H':Nat->Option Hd}(h:∀r hd,H r=some hd->H' r=some hd){ks vs:Nat}:∀ {l:List (Nat×Nat×Nat)} {b:List MapEntry},I7 H ks vs l b->I7 H' ks vs l b
 |[],_,c=>c
 |_::_,_,⟨e,a,d,⟨f,g2,g,i⟩,j⟩=>⟨e,a,d,⟨f,g2.eQ h,g.eQ h,i⟩,j.eQ h⟩
def u0(cs:Array Value)(o n:Nat):List Value:=(cs.toList.drop o).take n
def jC{α:Type}(K:j0)(a:Nat)(R:α->List Value->Prop)(l:List α)(base:Option Addr):Prop:=
 l=[]\/∃b off arr,base=some ⟨b,off,none⟩/\K.cells b=some arr/\∀i (h:i<l.length),R l[i] (u0 arr (off+i*a) a)
def s9(K:j0):(t:Ty)->t.den->List Value->Prop
 |.int k,n,cs=>cs=[Value.int k n]
 |.bool,b,cs=>cs=[Value.bool b]
 |.slice e,l,cs=>∃base cap,cs=[Value.slice base l.length cap]/\l.length<=cap/\jC K e.size (s9 K e) l base
 |.pair a b,x,cs=>∃c d,cs=c++d/\s9 K a x.1 c/\s9 K b x.2 d
def kO(K:j0)(t:Ty)(l:List t.den)(a:Bool)(v:Value):Prop:=
 ∃base cap,v=Value.slice base l.length cap/\l.length<=cap/\(a=true->cap=l.length)/\jC K t.size (s9 K t) l base
def bX(K:j0)(t:Ty)(l:List t.den)(cs:Array Value)(off:Nat):Prop:=
 ∀i (h:i<l.length),s9 K t l[i] (u0 cs (off+i*t.size) t.size)
mutual
def c8(K:j0)(H:Nat->Option Hd):a7->Value->Prop
 |.R3,_=>True
 |.bool b,v=>v=.bool b
 |.int k n,v=>v=.int k n
 |.W2,v=>v=.slice none 0 0
 |.R9 _,v=>v=.slice none 0 0
 |.P5 t l a,v=>kO K t l a v
 |.B6 r a,v=>∃hd,H r=some hd/\v=.slice (hd.base.map fun b=>⟨b,0,none⟩) hd.len hd.cap/\(a=true->hd.cap=hd.len)
 |.sub r lo len a,v=>∃hd cap base,H r=some hd/\v=.slice base len cap/\lo+cap<=hd.cap/\len<=cap/\lo+len<=hd.len/\(a=true->cap=len)/\
  (cap=0\/∃b,hd.base=some b/\base=some ⟨b,lo*hd.sz,none⟩)
 |.ptr r off,v=>∃hd b,H r=some hd/\hd.base=some b/\v=.pointer (some ⟨b,off,none⟩)
 |.P9 r i off,v=>∃hd b,H r=some hd/\hd.base=some b/\v=.pointer (some ⟨b,i*hd.sz+off,none⟩)
 |.O2 r,v=>∃hd b,H r=some hd/\hd.base=some b/\hd.cap=hd.len/\v=.pointer (some ⟨b,0,none⟩)
 |.z8 r,v=>∃hd b,H r=some hd/\hd.base=some b/\v=.map (some b)
 |.L8 cells,v=>∃b off arr,v=.pointer (some ⟨b,off,none⟩)/\K.cells b=some arr/\c9 K H cells (u0 arr off cells.length)
 |.agg cells,v=>∃cs,v=.agg cs/\c9 K H cells cs.toList
 |.V5 t l,v=>∃cs,v=.agg cs/\cs.size=l.length*t.size/\bX K t l cs 0
 |.I9 vs,v=>∃cs,v=.tuple cs/\c9 K H vs cs.toList
 |.fn f first cap,v=>∃c d,v=.func f c d/\c9 K H first c.toList/\c9 K H cap d.toList
 |.U0,v=>v=.nilFunc
 |.J2,v=>∃l,K.y=some l/\v=.func (.yield l) #[] #[]
 |.z6 p,v=>p.P K v
 |.Bu e n,v=>I1 H e n v
def c9(K:j0)(H:Nat->Option Hd):List a7->List Value->Prop
 |[],cs=>cs=[]
 |a::d,cs=>∃c b,cs=c::b/\c8 K H a c/\c9 K H d b
end
theorem jC.mono{α:Type}{K K':j0}{a:Nat}{R c:α->List Value->Prop}{l:List α}{base:Option Addr}
  (d:K.le K')(e:∀x cs,R x cs->c x cs)(h:jC K a R l base):jC K' a c l base:=by
 rcases h with h|⟨b,off,arr,f,g,j⟩
 ·exact .inl h
 ·exact .inr ⟨b,off,arr,f,d.cells _ _ g,fun i hi=>e _ _ (j i hi)⟩
theorem s9.mono{K K':j0}(c:K.le K'):∀ (t:Ty) (x:t.den) (cs:List Value),s9 K t x cs->s9 K' t x cs
 |.int _,_,_,h=>h
 |.bool,_,_,h=>h
 |.slice e,l,cs,h=>by
  obtain⟨base,cap,d,f,g⟩:=h;exact⟨base,cap,d,f,g.mono c (s9.mono c e)⟩
 |.pair a b,x,cs,h=>by
  obtain⟨i,j,d,f,g⟩:=h;exact⟨i,j,d,s9.mono c a _ _ f,s9.mono c b _ _ g⟩
theorem kO.mono{K K':j0}(b:K.le K'){t:Ty}{l:List t.den}{a:Bool}{v:Value}(h:kO K t l a v):kO K' t l a v:=by
 obtain⟨base,cap,c,d,e,f⟩:=h;exact⟨base,cap,c,d,e,f.mono b (s9.mono b t)⟩
theorem bX.mono{K K':j0}(a:K.le K'){t:Ty}{l:List t.den}{cs:Array Value}{off:Nat}(h:bX K t l cs off):bX K' t l cs off:=
 fun i hi=>s9.mono a _ _ _ (h i hi)
def bY(H H':Nat->Option Hd):Prop:=∀r hd,H r=some hd->H' r=some hd
theorem bY.refl(H:Nat->Option Hd):bY H H:=fun _ _ h=>h
theorem bY.trans{A B C:Nat->Option Hd}(h:bY A B)(k:bY B C):bY A C:=fun r hd x=>k r hd (h r hd x)
mutual
theorem c8.mono{K K':j0}{H H':Nat->Option Hd}(g:K.le K')(e:bY H H'):∀ (a:a7) (v:Value),c8 K H a v->c8 K' H' a v
 |.R3,_,_=>by simp[c8]
 |.bool _,_,h=>by simpa [c8]using h
 |.int _ _,_,h=>by simpa [c8]using h
 |.W2,_,h=>by simpa [c8]using h
 |.R9 _,_,h=>by simpa [c8]using h
 |.P5 t l j,v,h=>by
  simp only[c8]at h ⊢;exact h.mono g
 |.B6 r j,v,h=>by
  simp only[c8]at h ⊢;obtain⟨hd,c,d,k⟩:=h;exact⟨hd,e _ _ c,d,k⟩
 |.sub r lo len j,v,h=>by
  simp only[c8]at h ⊢;obtain⟨hd,cap,base,c,d⟩:=h;exact⟨hd,cap,base,e _ _ c,d⟩
 |.ptr r off,v,h=>by
  simp only[c8]at h ⊢;obtain⟨hd,b,c,d⟩:=h;exact⟨hd,b,e _ _ c,d⟩
 |.P9 r i off,v,h=>by
  simp only[c8]at h ⊢;obtain⟨hd,b,c,d⟩:=h;exact⟨hd,b,e _ _ c,d⟩
 |.O2 r,v,h=>by
  simp only[c8]at h ⊢;obtain⟨hd,b,c,d⟩:=h;exact⟨hd,b,e _ _ c,d⟩
 |.z8 r,v,h=>by
  simp only[c8]at h ⊢;obtain⟨hd,b,c,d⟩:=h;exact⟨hd,b,e _ _ c,d⟩
 |.L8 cells,v,h=>by
  simp only[c8]at h ⊢;obtain⟨b,off,arr,c,d,k⟩:=h;exact⟨b,off,arr,c,g.cells _ _ d,c9.mono g e cells _ k⟩
 |.agg cells,v,h=>by
  simp only[c8]at h ⊢;obtain⟨cs,c,d⟩:=h;exact⟨cs,c,c9.mono g e cells _ d⟩
 |.V5 t l,v,h=>by
  simp only[c8]at h ⊢;obtain⟨cs,c,d,k⟩:=h;exact⟨cs,c,d,k.mono g⟩
 |.I9 vs,v,h=>by
  simp only[c8]at h ⊢;obtain⟨cs,c,d⟩:=h;exact⟨cs,c,c9.mono g e vs _ d⟩
 |.fn f first cap,v,h=>by
  simp only[c8]at h ⊢;obtain⟨m,o,c,d,k⟩:=h;exact⟨m,o,c,c9.mono g e first _ d,c9.mono g e cap _ k⟩
 |.U0,_,h=>by simpa [c8]using h
 |.J2,v,h=>by
  simp only[c8]at h ⊢;obtain⟨l,c,d⟩:=h;exact⟨l,g.y l c,d⟩
 |.z6 p,v,h=>by
  simp only[c8]at h ⊢;exact p.mono _ _ _ g.bA h
 |.Bu q n,v,h=>by
  simp only[c8]at h ⊢;exact h.eQ e
theorem c9.mono{K K':j0}{H H':Nat->Option Hd}(e:K.le K')(f:bY H H'):∀ (b:List a7) (cs:List Value),c9 K H b cs->c9 K' H' b cs
 |[],_,h=>by simpa [c9]using h
 |a::b,cs,h=>by
  simp only[c9]at h ⊢;obtain⟨c,d,g,i,j⟩:=h;exact⟨c,d,g,c8.mono e f a c i,c9.mono e f b d j⟩
end
theorem c9.nil{K:j0}{H:Nat->Option Hd}:c9 K H [] []:=by simp[c9]
theorem c9.cons{K:j0}{H:Nat->Option Hd}{a:a7}{b:List a7}{c:Value}{cs:List Value}(h:c8 K H a c)(d:c9 K H b cs):c9 K H (a::b) (c::cs):=by
 simp only[c9];exact⟨c,cs,rfl,h,d⟩
theorem c9.Tw{K:j0}{H:Nat->Option Hd}{a:a7}{b:List a7}{c:Value}{cs:List Value}:c9 K H (a::b) (c::cs)↔c8 K H a c/\c9 K H b cs:=by
 constructor
 ·intro h;simp only[c9]at h;obtain⟨c',e,d,f,g⟩:=h;simp only[List.cons.injEq]at d;obtain⟨rfl,rfl⟩:=d;exact⟨f,g⟩
 ·exact fun h=>.cons h.1 h.2
theorem c9.H8{K:j0}{H:Nat->Option Hd}{cs:List Value}:c9 K H [] cs↔cs=[]:=by simp[c9]
theorem c9.inv{K:j0}{H:Nat->Option Hd}{a:a7}{b:List a7}{cs:List Value}(h:c9 K H (a::b) cs):∃c BL,cs=c::BL/\c8 K H a c/\c9 K H b BL:=by
 simpa only[c9]using h
theorem c9.length{K:j0}{H:Nat->Option Hd}:∀ {b:List a7} {cs:List Value},c9 K H b cs->cs.length=b.length
 |[],cs,h=>by simp[c9.H8.1 h]
 |a::b,cs,h=>by
  obtain⟨c,d,rfl,_,e⟩:=h.inv;simp[c9.length e]
theorem c9.get{K:j0}{H:Nat->Option Hd}:∀ {b:List a7} {cs:List Value} (i:Nat) (a:a7),c9 K H b cs->b[i]? =some a->∃c,cs[i]? =some c/\c8 K H a c
 |[],_,i,a,_,h=>by simp at h
 |x::b,cs,i,a,h,hi=>by
  obtain⟨c,d,rfl,e,f⟩:=h.inv;cases i with
  |zero=>simp only[List.getElem?_cons_zero,Option.some.injEq]at hi ⊢;subst hi;exact⟨c,rfl,e⟩
  |succ i=>simp only[List.getElem?_cons_succ]at hi ⊢;exact c9.get i a f hi
theorem c9.append{K:j0}{H:Nat->Option Hd}:∀ {b d:List a7} {cs e:List Value},c9 K H b cs->c9 K H d e->c9 K H (b++d) (cs++e)
 |[],_,cs,_,h,f=>by simpa [c9.H8.1 h]using f
 |a::b,d,cs,e,h,f=>by
  obtain⟨c,g,rfl,i,j⟩:=h.inv;exact .cons i (c9.append j f)
theorem c9.drop{K:j0}{H:Nat->Option Hd}:∀ {Bw:List a7} {cs:List Value} (n:Nat),c9 K H Bw cs->c9 K H (Bw.drop n) (cs.drop n)
 |Bw,cs,0,h=>by simpa using h
 |[],cs,n+1,h=>by simp[c9.H8.1 h,c9.nil]
 |a::Bw,cs,n+1,h=>by
  obtain⟨c,b,rfl,_,d⟩:=h.inv;simpa using c9.drop n d
theorem c9.take{K:j0}{H:Nat->Option Hd}:∀ {Bw:List a7} {cs:List Value} (n:Nat),c9 K H Bw cs->c9 K H (Bw.take n) (cs.take n)
 |Bw,cs,0,h=>by simp[c9.nil]
 |[],cs,n+1,h=>by simp[c9.H8.1 h,c9.nil]
 |a::Bw,cs,n+1,h=>by
  obtain⟨c,b,rfl,d,e⟩:=h.inv;simpa using c9.cons d (c9.take n e)
theorem s9.length{K:j0}:∀ (t:Ty) (x:t.den) (cs:List Value),s9 K t x cs->cs.length=t.size
 |.int _,_,_,h=>by have h:_=_:=h;simp[h,Ty.size]
 |.bool,_,_,h=>by have h:_=_:=h;simp[h,Ty.size]
 |.slice e,l,cs,h=>by obtain⟨_,_,h,_⟩:=h;simp[h,Ty.size]
 |.pair a b,x,cs,h=>by
  obtain⟨f,g,rfl,c,d⟩:=h;simp[Ty.size,s9.length a _ _ c,s9.length b _ _ d]
def Ty.cells:(t:Ty)->t.den->List a7
 |.int k,n=>[.int k n]
 |.bool,b=>[.bool b]
 |.slice e,l=>[.P5 e l false]
 |.pair a b,x=>a.cells x.1++b.cells x.2
theorem Ty.Q0:∀ (t:Ty) (x:t.den),(t.cells x).length=t.size
 |.int _,_=>rfl
 |.bool,_=>rfl
 |.slice _,_=>rfl
 |.pair a b,x=>by simp[Ty.cells,Ty.size,Ty.Q0 a,Ty.Q0 b]
theorem R4{K:j0}{H:Nat->Option Hd}:∀ (t:Ty) (x:t.den) (cs:List Value),s9 K t x cs->c9 K H (t.cells x) cs
 |.int k,n,cs,h=>by
  have h:cs=[Value.int k n]:=h;subst h;exact .cons (by simp[c8]) .nil
 |.bool,b,cs,h=>by
  have h:cs=[Value.bool b]:=h;subst h;exact .cons (by simp[c8]) .nil
 |.slice e,l,cs,h=>by
  obtain⟨base,cap,rfl,c,d⟩:=h;exact .cons (by simp only[c8];exact⟨base,cap,rfl,c,fun h=>by simp at h,d⟩) .nil
 |.pair a b,x,cs,h=>by
  obtain⟨f,g,rfl,c,d⟩:=h;exact c9.append (R4 a _ _ c) (R4 b _ _ d)
def HF(k:IntKind):List a7->Option (Int×List a7)
 |.int k' n::r=>if k=k' then some (n,r)else none
 |_=>none
def Cr:List a7->Option (Bool×List a7)
 |.bool b::r=>some (b,r)
 |_=>none
def yP(e:Ty):List a7->Option (List e.den×List a7)
 |.P5 a l _::r=>if h:a=e then some (h▸l,r)else none
 |.R9 _::r=>some ([],r)
 |_=>none
def Cs{α β:Type}(x:Option (α×List a7))(f:List a7->Option (β×List a7)):Option ((α×β)×List a7):=
 match x with
 |some (x,b)=>match f b with
  |some (y,a)=>some ((x,y),a)
  |none=>none
 |none=>none
def Ty.take:(t:Ty)->List a7->Option (t.den×List a7)
 |.int k,c=>HF k c
 |.bool,c=>Cr c
 |.slice e,c=>yP e c
 |.pair a b,c=>Cs (a.take c) b.take
theorem Ct{K:j0}{H:Nat->Option Hd}:∀ (t:Ty) (f:List a7) (x:t.den) (r:List a7) (cs:List Value),t.take f=some (x,r)->c9 K H f cs->
  ∃m o,cs=m++o/\s9 K t x m/\c9 K H r o
 |.int k,f,x,r,cs,d,h=>by
  have d:HF k f=some (x,r):=d;unfold HF at d;split at d
  ·rename_i k' n p;split at d
   ·rename_i u;obtain⟨rfl,rfl⟩:=Prod.mk.inj (Option.some.inj d);obtain⟨c,g,rfl,i,j⟩:=h.inv;simp only[c8]at i;subst i;subst u;exact⟨[_],g,rfl,rfl,j⟩
   ·simp at d
  ·simp at d
 |.bool,f,x,r,cs,d,h=>by
  have d:Cr f=some (x,r):=d;unfold Cr at d;split at d
  ·obtain⟨rfl,rfl⟩:=Prod.mk.inj (Option.some.inj d);obtain⟨c,g,rfl,i,j⟩:=h.inv;simp only[c8]at i;subst i;exact⟨[_],g,rfl,rfl,j⟩
  ·simp at d
 |.slice e,f,x,r,cs,d,h=>by
  have d:yP e f=some (x,r):=d;unfold yP at d;split at d
  ·rename_i v l q p;split at d
   ·rename_i w;subst w;obtain⟨rfl,rfl⟩:=Prod.mk.inj (Option.some.inj d);obtain⟨c,g,rfl,i,j⟩:=h.inv;simp only[c8]at i;obtain⟨base,cap,rfl,y,E,z⟩:=i;exact⟨[_],g,rfl,⟨base,cap,rfl,y,z⟩,j⟩
   ·simp at d
  ·rename_i v p;obtain⟨rfl,rfl⟩:=Prod.mk.inj (Option.some.inj d);obtain⟨c,g,rfl,i,j⟩:=h.inv;simp only[c8]at i;subst i;exact⟨[_],g,rfl,⟨none,0,rfl,Nat.le_refl _,.inl rfl⟩,j⟩
  ·simp at d
 |.pair a b,f,x,r,cs,d,h=>by
  have d:Cs (a.take f) b.take=some (x,r):=d;unfold Cs at d;split at d
  ·rename_i F G i;split at d
   ·rename_i I J j;obtain⟨rfl,rfl⟩:=Prod.mk.inj (Option.some.inj d);obtain⟨m,o,rfl,A,g2⟩:=Ct a _ _ _ _ i h;obtain⟨s,B,rfl,C,D⟩:=Ct b _ _ _ _ j g2;exact⟨m++s,B,by simp,⟨m,s,rfl,A,C⟩,D⟩
   ·simp at d
  ·simp at d
def Ty.whole(t:Ty)(a:List a7):Option t.den:=
 match t.take a with
 |some (x,[])=>some x
 |_=>none
theorem kP{K:j0}{H:Nat->Option Hd}{t:Ty}{a:List a7}{x:t.den}{cs:List Value}(b:t.whole a=some x)(h:c9 K H a cs):s9 K t x cs:=by
 unfold Ty.whole at b;split at b
 ·rename_i y c;simp only[Option.some.injEq]at b;subst b;obtain⟨f,g,rfl,d,e⟩:=Ct t _ _ _ _ c h;rw[c9.H8.1 e];simpa using d
 ·simp at b
end Go.Abs
end
section
namespace Go.Abs
def vO(K:j0)(w:World):Prop:=
 (∀b cs,K.cells b=some cs->∃e a,w.heap[b]? =some (.cells cs e a))/\(∀b p,K.inv b=some p->∃o,w.heap[b]? =some o/\p o)
structure Kept(F:Nat->Prop)(w w':World):Prop where
 os:w'.os=w.os
 tape:w'.tape=w.tape
 output:w'.output=w.output
 size:w.heap.size<=w'.heap.size
 block:∀b,F b->w'.heap[b]? =w.heap[b]?
 drawn:w.drawn<=w'.drawn
theorem Kept.refl(F:Nat->Prop)(w:World):Kept F w w:=⟨rfl,rfl,rfl,Nat.le_refl _,fun _ _=>rfl,Nat.le_refl _⟩
theorem Kept.trans{F:Nat->Prop}{a b c:World}(h:Kept F a b)(k:Kept F b c):Kept F a c:=
 ⟨k.os.trans h.os,k.tape.trans h.tape,k.output.trans h.output,Nat.le_trans h.size k.size,fun i hi=>(k.block i hi).trans (h.block i hi),Nat.le_trans h.drawn k.drawn⟩
theorem Kept.mono{F G:Nat->Prop}{a b:World}(h:Kept F a b)(c:∀b,G b->F b):Kept G a b:=
 ⟨h.os,h.tape,h.output,h.size,fun i hi=>h.block i (c i hi),h.drawn⟩
theorem Kept.of_heap{F:Nat->Prop}{a b c:World}(h:Kept F a b)(d:c.os=b.os)(e:c.tape=b.tape)(f:c.output=b.output)(hh:c.heap=b.heap)(hd:b.drawn<=c.drawn):Kept F a c:=
 ⟨d.trans h.os,e.trans h.tape,f.trans h.output,hh▸h.size,fun i hi=>hh▸h.block i hi,Nat.le_trans h.drawn hd⟩
def B5(K:j0)(t:Ty)(l:List t.den)(cs:List Value):Prop:=
 cs.length=l.length*t.size/\∀i (h:i<l.length),s9 K t l[i] ((cs.drop (i*t.size)).take t.size)
end Go.Abs
namespace Go
def Obj.V':Obj->Bool
 |.cells _ _ _=>true
 |.map _ _=>true
 |.mapIter _ _ _ _=>true
 |_=>false
end Go
namespace Go.Abs
def o8(K:j0)(H:Nat->Option Hd)(w:World)(hd:Hd):c7->Prop
 |.box cells=>∃b cs e g,hd.base=some b/\w.heap[b]? =some (.cells cs e g)/\c9 K H cells cs.toList
 |.bx q t n l h=>hd.sz=t.size/\l.length=n/\∃b cs e g s u v,hd.base=some b/\w.heap[b]? =some (.cells cs e g)/\cs.toList=s++u++v/\c9 K H q s/\B5 K t l u/\c9 K H h v
 |.sl t l=>hd.sz=t.size/\hd.len=l.length/\(hd.len<=hd.cap/\hd.cap<=9223372036854775807)/\
  ((hd.base=none/\hd.cap=0)\/∃b cs e g,hd.base=some b/\w.heap[b]? =some (.cells cs e g)/\hd.cap*t.size<=cs.size/\bX K t l cs 0)
 |.mp mk l clk=>hd.sz=0/\hd.len=0/\hd.cap=0/\∃b,hd.base=some b/\w.heap[b]? =some (.map (l.map mk.cU).toArray clk)
 |.it m a seen d=>hd.sz=0/\hd.len=0/\hd.cap=0/\∃b j,hd.base=some b/\w.heap[b]? =some (.mapIter (some j) a seen.toArray d)/\∀r,m=some r->∃p,H r=some p/\p.base=some j
 |.F8 (.c k n)=>∃b cs e g,hd.base=some b/\w.heap[b]? =some (.cells cs e g)/\cs.size=hd.sz/\k<=cs.size/\w9 H k (n/cB) (cs.toList.take k)
 |.F8 (.m ks vs l clk)=>∃b x,hd.base=some b/\w.heap[b]? =some (.map x clk)/\I7 H ks vs l x.toList
 |.F8 (.f y A B C)=>hd.base=none/\hd.sz=y+4096*B/\y<4096/\hd.len=A/\hd.cap=C
 |.F8 (.i m a seen d)=>∃b j p,hd.base=some b/\w.heap[b]? =some (.mapIter (some j) a seen.reverse.toArray d)/\H m=some p/\p.base=some j
 |.F8 .z=>False
 |.any=>∀b,hd.base=some b->∃o,w.heap[b]? =some o/\o.V'=true
abbrev Mm:=Nat->Option (c7×p8)
structure j8(F:Nat->Prop)(K:j0)(H:Nat->Option Hd)(w:World)(M:Mm):Prop where
 cont:∀r c f hd,M r=some (c,f)->f≠ .dead->H r=some hd->o8 K H w hd c
 own:∀r c hd b,M r=some (c,.own)->H r=some hd->hd.base=some b->¬F b/\K.cells b=none/\K.inv b=none/\(c.isCells=true->∃cs e,w.heap[b]? =some (.cells cs e (0,0)))
 aQ:∀r c hd b,M r=some (c,.aQ)->H r=some hd->hd.base=some b->∃cs,K.cells b=some cs
 inj:∀r r' c c' hd W3 b,M r=some (c,.own)->M r'=some (c',.own)->H r=some hd->H r'=some W3->hd.base=some b->W3.base=some b->r=r'
structure J0(F:Nat->Prop)(K:j0)(w:World):Prop where
 y6:vO K w
 lt:∀b,F b->b<w.heap.size
 inv:∀b p,K.inv b=some p->¬F b
 apart:∀b p,K.inv b=some p->K.cells b=none
theorem u5{w:World}{b:Nat}{o:Obj}(h:w.heap[b]? =some o):b<w.heap.size:=by
 rcases Nat.lt_or_ge b w.heap.size with a|a
 ·exact a
 ·rw[Array.getElem?_eq_none a]at h;cases h
theorem vO.lt{K:j0}{w:World}(h:vO K w){b:Nat}{cs:Array Value}(a:K.cells b=some cs):b<w.heap.size:=by
 obtain⟨e,d,c⟩:=h.1 b cs a;exact u5 c
theorem vO.new{K:j0}{w:World}(h:vO K w){b:Nat}(d:w.heap.size<=b):K.cells b=none/\K.inv b=none:=by
 constructor
 ·cases a:K.cells b with
  |none=>rfl
  |some cs=>have:=h.lt a;omega
 ·cases a:K.inv b with
  |none=>rfl
  |some p=>obtain⟨o,c,_⟩:=h.2 b p a;have:=u5 c;omega
theorem o8.mono{K K':j0}{H H':Nat->Option Hd}{w w':World}{hd:Hd}{c:c7}(y:K.le K')(s:bY H H')
  (p:∀b,hd.base=some b->w'.heap[b]? =w.heap[b]?)(h:o8 K H w hd c):o8 K' H' w' hd c:=by
 cases c with
 |box cells=>
  obtain⟨b,cs,e,u,a,d,g⟩:=h;exact⟨b,cs,e,u,a,by rw[p b a];exact d,c9.mono y s _ _ g⟩
 |bx G t n l E=>
  obtain⟨x,g2,b,cs,e,u,I,J,L,a,d,g,j,q,B⟩:=h;exact⟨x,g2,b,cs,e,u,I,J,L,a,by rw[p b a];exact d,g,c9.mono y s _ _ j,⟨q.1,fun i hi=>s9.mono y _ _ _ (q.2 i hi)⟩,c9.mono y s _ _ B⟩
 |sl t l=>
  obtain⟨a,d,g,j⟩:=h;refine⟨a,d,g,?_⟩;rcases j with j|⟨b,cs,e,u,x,g2,M,N⟩
  ·exact .inl j
  ·exact .inr ⟨b,cs,e,u,x,by rw[p b x];exact g2,M,N.mono y⟩
 |mp mk l clk=>
  obtain⟨a,d,g,b,j,q⟩:=h;exact⟨a,d,g,b,j,by rw[p b j];exact q⟩
 |it m v seen A=>
  obtain⟨a,d,g,b,C,j,q,B⟩:=h;refine⟨a,d,g,b,C,j,by rw[p b j];exact q,fun r O=>?_⟩
  obtain⟨D,x,g2⟩:=B r O;exact⟨D,s _ _ x,g2⟩
 |any=>
  intro b F;obtain⟨o,P,hi⟩:=h b F;exact⟨o,(p b F).trans P,hi⟩
 |F8 o=>
  cases o with
  |c k n=>
   obtain⟨b,cs,e,u,a,d,g,j,q⟩:=h;exact⟨b,cs,e,u,a,by rw[p b a];exact d,g,j,q.eQ s⟩
  |m ks vs l clk=>
   obtain⟨b,R,a,d,g⟩:=h;exact⟨b,R,a,by rw[p b a];exact d,g.eQ s⟩
  |f S T U V=>exact h
  |i m v seen A=>
   obtain⟨b,C,D,a,d,g,j⟩:=h;exact⟨b,C,D,a,by rw[p b a];exact d,s _ _ g,j⟩
  |z=>exact h
theorem BM{K K':j0}{H H':Nat->Option Hd}{w:World}{hd:Hd}{o:HO}(h:o8 K H w hd (.F8 o)):o8 K' H' w hd .any:=by
 intro b d;cases o with
 |c k n=>
  obtain⟨j,cs,e,q,a,g2,_⟩:=h;rw[d]at a;cases a;exact⟨_,g2,rfl⟩
 |m ks vs l clk=>
  obtain⟨j,r,a,g2,_⟩:=h;rw[d]at a;cases a;exact⟨_,g2,rfl⟩
 |f s t u v=>rw[h.1]at d;cases d
 |i m g seen p=>
  obtain⟨j,x,y,a,g2,_⟩:=h;rw[d]at a;cases a;exact⟨_,g2,rfl⟩
 |z=>exact h.elim
theorem j8.world{F:Nat->Prop}{K:j0}{H:Nat->Option Hd}{w w':World}{M:Mm}(h:j8 F K H w M)
  (hw:∀r c f hd b,M r=some (c,f)->f≠ .dead->H r=some hd->hd.base=some b->w'.heap[b]? =w.heap[b]?):j8 F K H w' M where
 cont:=fun r c f hd h1 h2 h3=>(h.cont r c f hd h1 h2 h3).mono (j0.le.refl K) (bY.refl H) (fun b hb=>hw r c f hd b h1 h2 h3 hb)
 own:=fun r c hd b h1 h2 h3=>by
  obtain⟨g1,g2,g3,g4⟩:=h.own r c hd b h1 h2 h3;exact⟨g1,g2,g3,by rw[hw r c .own hd b h1 (by simp) h2 h3];exact g4⟩
 aQ:=h.aQ
 inj:=h.inj
theorem U4{F:Nat->Prop}{K:j0}{H:Nat->Option Hd}{w:World}{M:Mm}(h:j8 F K H w M){r:Nat}{c:c7}{f:p8}{hd:Hd}{b:Nat}
  (v:M r=some (c,f))(x:f≠ .dead)(y:H r=some hd)(d:hd.base=some b):b<w.heap.size:=by
 have:=h.cont r c f hd v x y;cases c with
 |box cells=>
  obtain⟨j,cs,e,s,a,g2,A⟩:=this;rw[d]at a;cases a;exact u5 g2
 |bx B t n l u=>
  obtain⟨_,_,j,cs,e,s,_,_,_,a,g2,A⟩:=this;rw[d]at a;cases a;exact u5 g2
 |sl t l=>
  obtain⟨_,_,_,g⟩:=this;rcases g with⟨g,_⟩|⟨j,cs,e,s,a,g2,_⟩
  ·rw[d]at g;cases g
  ·rw[d]at a;cases a;exact u5 g2
 |mp mk l clk=>
  obtain⟨_,_,_,j,a,g2⟩:=this;rw[d]at a;cases a;exact u5 g2
 |it m p seen q=>
  obtain⟨_,_,_,j,C,a,g2,_⟩:=this;rw[d]at a;cases a;exact u5 g2
 |any=>
  obtain⟨o,D,_⟩:=this b d;exact u5 D
 |F8 o=>
  cases o with
  |c k n=>
   obtain⟨j,cs,e,s,a,g2,_⟩:=this;rw[d]at a;cases a;exact u5 g2
  |m ks vs l clk=>
   obtain⟨j,E,a,g2,_⟩:=this;rw[d]at a;cases a;exact u5 g2
  |f G I J L=>rw[this.1]at d;cases d
  |i m p seen q=>
   obtain⟨j,C,N,a,g2,_⟩:=this;rw[d]at a;cases a;exact u5 g2
  |z=>exact this.elim
theorem j8.Ry{F:Nat->Prop}{K K':j0}{H:Nat->Option Hd}{w:World}{M:Mm}(h:j8 F K H w M)(hK:K.le K')
  (hn:∀r c hd b,M r=some (c,.own)->H r=some hd->hd.base=some b->K'.cells b=none/\K'.inv b=none):j8 F K' H w M where
 cont:=fun r c f hd h1 h2 h3=>(h.cont r c f hd h1 h2 h3).mono hK (bY.refl H) (fun _ _=>rfl)
 own:=fun r c hd b h1 h2 h3=>by
  obtain⟨g1,g2,g3,g4⟩:=h.own r c hd b h1 h2 h3;exact⟨g1,(hn r c hd b h1 h2 h3).1,(hn r c hd b h1 h2 h3).2,g4⟩
 aQ:=fun r c hd b h1 h2 h3=>by
  obtain⟨cs,g⟩:=h.aQ r c hd b h1 h2 h3;exact⟨cs,hK.cells _ _ g⟩
 inj:=h.inj
def S0{α:Type}(f:Nat->Option α)(r:Nat)(x:α):Nat->Option α:=fun a=>if a=r then some x else f a
theorem j6{α:Type}(f:Nat->Option α)(r:Nat)(x:α):S0 f r x r=some x:=by simp[S0]
theorem n6{α:Type}(f:Nat->Option α)(r r':Nat)(x:α)(h:r'≠r):S0 f r x r'=f r':=by simp[S0,h]
theorem L9{H:Nat->Option Hd}{r:Nat}{hd:Hd}(h:H r=none):bY H (S0 H r hd):=by
 intro b c a;by_cases e:b=r
 ·subst e;rw[h]at a;cases a
 ·rw[n6 _ _ _ _ e];exact a
theorem j8.new{F:Nat->Prop}{K:j0}{H:Nat->Option Hd}{w:World}{M:Mm}(h:j8 F K H w M)(r:Nat)(y:H r=none)(c:c7)(hd:Hd)
  (z:o8 K (S0 H r hd) w hd c)
  (p:∀b,hd.base=some b->¬F b/\K.cells b=none/\K.inv b=none/\(c.isCells=true->∃cs e,w.heap[b]? =some (.cells cs e (0,0)))/\
   ∀j c' d,M j=some (c',.own)->H j=some d->d.base≠some b):j8 F K (S0 H r hd) w (S0 M r (c,.own)):=by
 have A:bY H (S0 H r hd):=L9 y;refine⟨?_,?_,?_,?_⟩
 ·intro j c' f d a g i;by_cases e:j=r
  ·subst e;rw[j6]at a i;cases a;cases i;exact z
  ·rw[n6 _ _ _ _ e]at a i;exact(h.cont j c' f d a g i).mono (j0.le.refl K) A (fun _ _=>rfl)
 ·intro j c' d b a g i;by_cases e:j=r
  ·subst e;rw[j6]at a g;cases a;cases g;obtain⟨B,g2,C,D,_⟩:=p b i;exact⟨B,g2,C,D⟩
  ·rw[n6 _ _ _ _ e]at a g;exact h.own j c' d b a g i
 ·intro j c' d b a g i;by_cases e:j=r
  ·subst e;rw[j6]at a;cases a
  ·rw[n6 _ _ _ _ e]at a g;exact h.aQ j c' d b a g i
 ·intro q o v x l m b a g i k s t;by_cases u:q=r
  ·by_cases n:o=r
   ·rw[u,n]
   ·subst u;rw[j6]at a i;cases a;cases i;rw[n6 _ _ _ _ n]at g k;exact absurd t ((p b s).2.2.2.2 o x m g k)
  ·rw[n6 _ _ _ _ u]at a i;by_cases n:o=r
   ·subst n;rw[j6]at g k;cases g;cases k;exact absurd s ((p b t).2.2.2.2 q v l a i)
   ·rw[n6 _ _ _ _ n]at g k;exact h.inj q o v x l m b a g i k s t
theorem j8.flag{F:Nat->Prop}{K:j0}{H:Nat->Option Hd}{w:World}{M:Mm}(h:j8 F K H w M)(r:Nat)(c:c7)(g f:p8)(u:M r=some (c,g))(m:f≠ .own)
  (l:f=.aQ->g≠ .dead/\∀hd b,H r=some hd->hd.base=some b->∃cs,K.cells b=some cs):
  j8 F K H w (S0 M r (c,f)):=by
 refine⟨?_,?_,?_,?_⟩
 ·intro j c' v d a i k;by_cases e:j=r
  ·subst e;rw[j6]at a;cases a;cases f with
   |own=>exact absurd rfl m
   |dead=>exact absurd rfl i
   |aQ=>exact h.cont j c g d u (l rfl).1 k
  ·rw[n6 _ _ _ _ e]at a;exact h.cont j c' v d a i k
 ·intro j c' d b a i k;by_cases e:j=r
  ·subst e;rw[j6]at a;cases a;exact absurd rfl m
  ·rw[n6 _ _ _ _ e]at a;exact h.own j c' d b a i k
 ·intro j c' d b a i k;by_cases e:j=r
  ·subst e;rw[j6]at a;cases a;exact(l rfl).2 d b i k
  ·rw[n6 _ _ _ _ e]at a;exact h.aQ j c' d b a i k
 ·intro p q x y n o b a i k z A B;by_cases s:p=r
  ·subst s;rw[j6]at a;cases a;exact absurd rfl m
  ·rw[n6 _ _ _ _ s]at a;by_cases t:q=r
   ·subst t;rw[j6]at i;cases i;exact absurd rfl m
   ·rw[n6 _ _ _ _ t]at i;exact h.inj p q x y n o b a i k z A B
theorem j8.XW{F:Nat->Prop}{K:j0}{H:Nat->Option Hd}{w w':World}{M:Mm}(h:j8 F K H w M)(r:Nat)(c c':c7)(hd:Hd)(b:Nat)(s:M r=some (c,.own))(p:H r=some hd)
  (t:hd.base=some b)(B:∀j,j≠b->w'.heap[j]? =w.heap[j]?)(hh:c'.isCells=true->∃cs e,w'.heap[b]? =some (.cells cs e (0,0)))
  (E:o8 K H w' hd c'):j8 F K H w' (S0 M r (c',.own)):=by
 have n:∀i a f d j,M i=some (a,f)->f≠ .dead->i≠r->H i=some d->d.base=some j->j≠b:=by
  intro i a f d j k m l u v e;subst e;cases f with
  |dead=>exact m rfl
  |own=>exact l (h.inj i r a c d hd j k s u p v t)
  |aQ=>
   obtain⟨cs,g⟩:=h.aQ i a d j k u v;have:=(h.own r c hd j s p t).2.1;rw[this]at g;cases g
 refine⟨?_,?_,?_,?_⟩
 ·intro i a f d k m l;by_cases e:i=r
  ·subst e;rw[j6]at k;cases k;rw[p]at l;cases l;exact E
  ·rw[n6 _ _ _ _ e]at k;exact(h.cont i a f d k m l).mono (j0.le.refl K) (bY.refl H) (fun j x=>B j (n i a f d j k m e l x))
 ·intro i a d j k m l;by_cases e:i=r
  ·subst e;rw[p]at m;cases m;rw[t]at l;cases l;rw[j6]at k;cases k;obtain⟨q,g2,y,_⟩:=h.own i c hd b s p t;exact⟨q,g2,y,hh⟩
  ·rw[n6 _ _ _ _ e]at k;obtain⟨q,g2,y,G⟩:=h.own i a d j k m l;exact⟨q,g2,y,by rw[B j (n i a .own d j k (by simp) e m l)];exact G⟩
 ·intro i a d j k m l;by_cases e:i=r
  ·subst e;rw[j6]at k;cases k
  ·rw[n6 _ _ _ _ e]at k;exact h.aQ i a d j k m l
 ·intro C D I J z A j k m l u v L;have o:∀i a,S0 M r (c',p8.own) i=some (a,.own)->∃N,M i=some (N,.own):=by
   intro i a g;by_cases e:i=r
   ·subst e;exact⟨c,s⟩
   ·rw[n6 _ _ _ _ e]at g;exact⟨a,g⟩
  obtain⟨O,q⟩:=o C I k;obtain⟨P,g2⟩:=o D J m;exact h.inj C D O P z A j q g2 l u v L
theorem JE{cs:Array Value}{o n:Nat}(h:o+n<=cs.size):(u0 cs o n).length=n:=by
 simp[u0];omega
theorem O3{cs:Array Value}{o n j:Nat}(h:j<n):(u0 cs o n)[j]? =cs[o+j]? :=by
 simp[u0,h]
theorem yQ{cs:Array Value}{o n p m:Nat}(h:p+m<=n):((u0 cs o n).drop p).take m=u0 cs (o+p) m:=by
 apply List.ext_getElem?;intro i;by_cases hi:i<m
 ·rw[List.getElem?_take_of_lt hi,List.getElem?_drop,O3 (by omega),O3 hi,Nat.add_assoc]
 ·rw[List.getElem?_eq_none (by simp;omega),List.getElem?_eq_none (by simp[u0];omega)]
theorem PJ{cs:Array Value}{o n:Nat}(h:(u0 cs o n).length=n)(a:0<n):o+n<=cs.size:=by
 simp[u0]at h;omega
theorem cY{w:World}{b:Nat}{cs:Array Value}{e:TypeId}{a:Nat×Nat}(h:w.heap[b]? =some (.cells cs e a))(o:Nat):w.cell? ⟨b,o,none⟩=cs[o]? :=by
 simp[World.cell?,h]
theorem G5(b o i:Nat):(⟨b,o,none⟩:Addr).add i=⟨b,o+i,none⟩:=by
 unfold Addr.add;split
 ·rename_i h;subst h;rfl
 ·rfl
theorem run_loadCells(P:Program){w:World}{b:Nat}{cs:Array Value}{e:TypeId}{c:Nat×Nat}(h:w.heap[b]? =some (.cells cs e c))(o:Nat):
  ∀ (n i:Nat) (a:Array Value),o+i+n<=cs.size->(loadCellsFrom ⟨b,o,none⟩ i n a).run P w=.ok (a++(u0 cs (o+i) n).toArray) w
 |0,i,a,_=>by simp[loadCellsFrom,u0,pure]
 |n+1,i,a,j=>by
  have d:w.cell? ((⟨b,o,none⟩:Addr).add i)=some (cs[o+i]'(by omega)):=by
   rw[G5,cY h];simp
  have f:=run_loadCells P h o n (i+1) (a.push (cs[o+i]'(by omega))) (by omega)
  simp only[loadCellsFrom,bind,Sem.bind,load,Sem.run,d];rw[f];have g:u0 cs (o+i) (n+1)=cs[o+i]'(by omega)::u0 cs (o+(i+1)) n:=by
   unfold u0;rw[List.drop_eq_getElem_cons (by simp;omega),List.take_succ_cons]
   simp[Nat.add_assoc]
  rw[g];simp
theorem run_load(P:Program){w:World}{b:Nat}{cs:Array Value}{e:TypeId}{a:Nat×Nat}(h:w.heap[b]? =some (.cells cs e a))(o:Nat)(v:Value)(c:cs[o]? =some v):
  (load ⟨b,o,none⟩).run P w=.ok v w:=by
 simp[load,Sem.run,cY h,c]
structure HG(w w':World)(b:Nat)(cs:Array Value)(e:TypeId):Prop where
 os:w'.os=w.os
 tape:w'.tape=w.tape
 output:w'.output=w.output
 size:w'.heap.size=w.heap.size
 here:w'.heap[b]? =some (.cells cs e (0,0))
 other:∀b',b'≠b->w'.heap[b']? =w.heap[b']?
 drawn:w'.drawn=w.drawn
theorem HG.kept{w w':World}{b:Nat}{cs:Array Value}{e:TypeId}(h:HG w w' b cs e){F:Nat->Prop}(a:¬F b):Kept F w w':=
 ⟨h.os,h.tape,h.output,by rw[h.size];exact Nat.le_refl _,fun c d=>h.other c (fun e=>a (e▸d)),Nat.le_of_eq h.drawn.symm⟩
theorem HG.refl{w:World}{b:Nat}{cs:Array Value}{e:TypeId}(h:w.heap[b]? =some (.cells cs e (0,0))):HG w w b cs e:=
 ⟨rfl,rfl,rfl,rfl,h,fun _ _=>rfl,rfl⟩
theorem HG.trans{w w' a:World}{b:Nat}{cs c:Array Value}{e:TypeId}(h:HG w w' b cs e)(k:HG w' a b c e):HG w a b c e:=
 ⟨k.os.trans h.os,k.tape.trans h.tape,k.output.trans h.output,k.size.trans h.size,k.here,fun d f=>(k.other d f).trans (h.other d f),k.drawn.trans h.drawn⟩
theorem JF{w:World}{b:Nat}{cs:Array Value}{e:TypeId}(h:w.heap[b]? =some (.cells cs e (0,0)))(o:Nat)(v:Value):
  HG w (w.setCell ⟨b,o,none⟩ v) b (cs.setIfInBounds o v) e:=by
 refine⟨rfl,rfl,rfl,by simp,?_,?_,rfl⟩
 ·simp[World.setCell,Array.getElem?_modify,h]
 ·intro c a;simp only[World.setCell,Array.getElem?_modify];rw[if_neg (fun e=>a e.symm)]
def G1(cs:Array Value)(o:Nat):List Value->Array Value
 |[]=>cs
 |v::vs=>G1 (cs.setIfInBounds o v) (o+1) vs
theorem J7(o:Nat)(cs:Array Value)(vs:List Value):(G1 cs o vs).size=cs.size:=by
 induction vs generalizing o cs with
 |nil=>rfl
 |cons v vs a=>simp[G1,a]
theorem gG(cs:Array Value)(o:Nat)(vs:List Value)(i:Nat)(h:o+vs.length<=cs.size):
  (G1 cs o vs)[i]? =if o<=i/\i<o+vs.length then vs[i- o]? else cs[i]? :=by
 induction vs generalizing o cs with
 |nil=>simp[G1];omega
 |cons v vs c=>
  simp only[List.length_cons]at h;rw[G1,c _ _ (by simp;omega)]
  by_cases a:o+1<=i/\i<o+1+vs.length
  ·rw[if_pos a,if_pos (by simp;omega)]
   have:i- o=(i- (o+1))+1:=by omega
   rw[this,List.getElem?_cons_succ]
  ·rw[if_neg a];by_cases b:i=o
   ·subst b;rw[if_pos (by simp)]
    have d:i<cs.size:=by omega
    simp[d]
   ·rw[if_neg (by simp;omega),Array.getElem?_setIfInBounds_ne (fun e=>b e.symm)]
def one:Value->Bool
 |.agg _=>false
 |.tuple _=>false
 |_=>true
theorem G9(P:Program)(b o:Nat)(e:TypeId):∀ (vs:List Value) (w:World) (cs:Array Value) (i:Nat),w.heap[b]? =some (.cells cs e (0,0))->
  o+i+vs.length<=cs.size->(∀v∈vs,one v=true)->∃w',(storeCells ⟨b,o,none⟩ vs i).run P w=.ok () w'/\HG w w' b (G1 cs (o+i) vs) e
 |[],w,cs,i,h,_,_=>⟨w,by simp[storeCells,pure],by simpa [G1]using HG.refl h⟩
 |v::vs,w,cs,i,h,k,d=>by
  simp only[List.length_cons]at k;have f:w.cell? ((⟨b,o,none⟩:Addr).add i)=some (cs[o+i]'(by omega)):=by
   rw[G5,cY h];simp
  have g:w.frozen? ((⟨b,o,none⟩:Addr).add i)=false:=by
   rw[G5];simp[World.frozen?,h]
  have j:=JF h (o+i) v;obtain⟨w',l,m⟩:=G9 P b o e vs _ _ (i+1) j.here (by simp;omega) (fun v c=>d v (by simp[c]))
  refine⟨w',?_,?_⟩
  ·have c:=d v (by simp)
   have a:(⟨b,o,none⟩:Addr).add i=⟨b,o+i,none⟩:=G5 b o i;rw[a]at f g;cases v<;>first
    |(simp[one]at c;done)
    |(simp only[storeCells,bind,Sem.bind,store,Sem.run,a,f,g];exact l)
  ·have:=j.trans m;simpa [G1,Nat.add_assoc]using this
end Go.Abs
end
section
namespace Go.Abs
def gH(f:TypeId->Option Ty):List Field->Nat->Option Ty
 |[],_=>none
 |a::r,o=>match r with
  |[]=>if a.offset=o then f a.type else none
  |_::_=>if a.offset=o then(match f a.type with
   |some x=>match gH f r (o+x.size)with
    |some y=>some (.pair x y)
    |none=>none
   |none=>none)else none
def X3(P:Program):Nat->TypeId->Option Ty
 |0,_=>none
 |d+1,t=>
  match P.info? t,P.underlying t with
  |some i,some (.int k)=>if i.size=1 then some (.int k)else none
  |some i,some .bool=>if i.size=1 then some .bool else none
  |some i,some (.slice e)=>if i.size=1 then(match X3 P d e with|some a=>some (.slice a)|none=>none)else none
  |some i,some (.struct b)=>match gH (X3 P d) b.toList 0 with
   |some a=>if i.size=a.size then some a else none
   |none=>none
  |_,_=>none
abbrev X3.fields(P:Program)(d:Nat)(a:List Field)(o:Nat):Option Ty:=gH (X3 P d) a o
def MW(P:Program)(t:TypeId):Option Ty:=
 match P.underlying t with
 |some (.slice e)=>X3 P 8 e
 |_=>none
def j7(P:Program)(t:TypeId):Nat:=((P.info? t).map (·.size)).getD 0
def Q1(P:Program)(t:TypeId):Bool:=
 match P.underlying t with
 |some (.struct _)=>true
 |some (.array _ _)=>true
 |_=>false
def jX(P:Program)(t:TypeId)(i:Nat):Option (Nat×Nat):=
 match P.underlying t with
 |some (.struct a)=>match a[i]? with
  |some f=>if j7 P f.type=0 then none else some (f.offset,j7 P f.type)
  |none=>none
 |_=>none
def y9:List (Nat×a7)->Nat->a7
 |[],_=>.R3
 |(i,v)::r,t=>if i=t then v else y9 r t
abbrev Mem:=List (Nat×(c7×p8))
def n9:Mem->Nat->Option (c7×p8)
 |[],_=>none
 |(i,x)::r,t=>if i=t then some x else n9 r t
inductive I3 where
 |normal
 |exit (id:Nat)
 |ret
 deriving DecidableEq
structure j9 where
 n:Nat
 tmps:List (Nat×a7)
 nx:Nat
 M:Mem
 gh:List a7
 s7:Option I3
structure Q where
 val:a7
 new:List c7
 use:List (Nat×p8)
 reads:List Nat
def Q.pure(v:a7):Q:=⟨v,[],[],[]⟩
def Q.read(v:a7)(r:Nat):Q:=⟨v,[],[],[r]⟩
def bN(m:Mm)(u:Nat×p8):Mm:=
 match m u.1 with
 |some (c,_)=>S0 m u.1 (c,u.2)
 |none=>m
def y7:Mm->List (Nat×p8)->Mm
 |m,[]=>m
 |m,u::a=>y7 (bN m u) a
def E8:Mm->Nat->List c7->Mm
 |m,_,[]=>m
 |m,n,c::cs=>E8 (S0 m n (c,.own)) (n+1) cs
def Q.mm(q:Q)(n:Nat)(m:Mm):Mm:=E8 (y7 m q.use) n q.new
def Tx(M:Mem)(u:Nat×p8):Mem:=
 match n9 M u.1 with
 |some (c,_)=>(u.1,(c,u.2))::M
 |none=>M
def oQ:Mem->List (Nat×p8)->Mem
 |M,[]=>M
 |M,u::a=>oQ (Tx M u) a
def Tz:Mem->Nat->List c7->Mem
 |M,_,[]=>M
 |M,n,c::cs=>Tz ((n,(c,.own))::M) (n+1) cs
def Q.ml(q:Q)(n:Nat)(M:Mem):Mem:=Tz (oQ M q.use) n q.new
def tX:JD where
 P:=fun _ v=>v=.pointer none
 mono:=fun _ _ _ _ h=>h
 cell:=fun _ _ h=>.inr h
def qN:Value->a7
 |.pointer none=>.z6 tX
 |.bool b=>.bool b
 |.int k n=>.int k n
 |.slice none 0 0=>.W2
 |.nilFunc=>.U0
 |_=>.R3
def HH:Value->a7
 |.agg cs=>.agg (cs.toList.map qN)
 |v=>qN v
def As(a:List (Nat×a7)):Operand->a7
 |.tmp t=>y9 a t
 |.const v=>HH v
 |.global _=>.R3
 |.func f=>.fn (.func f) [] []
def br(b:Bool)(p q:Prop):Prop:=
 match b with
 |true=>p
 |false=>q
theorem tY(b:Bool)(p q:Prop):br b p q↔(b=true->p)/\(b=false->q):=by cases b<;>simp[br]
theorem L0{b:Bool}{p q:Prop}(h:b=true->p)(a:b=false->q):br b p q:=(tY b p q).2 ⟨h,a⟩
def dedup:List Nat->List Nat
 |[]=>[]
 |a::l=>if(dedup l).contains a then dedup l else a::dedup l
def X4(f:a7->Option (a7×List (Nat×p8))):List a7->Option (List a7×List (Nat×p8))
 |[]=>some ([],[])
 |v::vs=>match f v with
  |some (v',b)=>match X4 f vs with
   |some (a,c)=>some (v'::a,b++c)
   |none=>none
  |none=>none
def view(M:Mm):Nat->a7->Option (a7×List (Nat×p8))
 |0,_=>none
 |d+1,v=>
  match v with
  |.R3=>some (.R3,[])
  |.bool b=>some (.bool b,[])
  |.int k n=>some (.int k n,[])
  |.R9 t=>some (.P5 t [] true,[])
  |.P5 t l f=>some (.P5 t l f,[])
  |.V5 t l=>some (.V5 t l,[])
  |.U0=>some (.U0,[])
  |.z6 p=>some (.z6 p,[])
  |.z8 r=>some (.z8 r,[])
  |.B6 r f=>match M r with
   |some (.sl t l,g)=>if g=.dead then none else some (.P5 t l f,[(r,g)])
   |_=>none
  |.sub r lo len f=>match M r with
   |some (.sl t l,g)=>if g=.dead then none else some (.P5 t ((l.drop lo).take len) f,[(r,g)])
   |_=>none
  |.ptr r off=>match M r with
   |some (.box cells,g)=>if g=.dead then none else match X4 (view M d) (cells.drop off)with
    |some (cs,c)=>some (.L8 cs,(r,g)::c)
    |none=>none
   |_=>none
  |.L8 cells=>match X4 (view M d) cells with
   |some (cs,c)=>some (.L8 cs,c)
   |none=>none
  |.agg cells=>match X4 (view M d) cells with
   |some (cs,c)=>some (.agg cs,c)
   |none=>none
  |.I9 cells=>match X4 (view M d) cells with
   |some (cs,c)=>some (.I9 cs,c)
   |none=>none
  |.fn f a b=>match X4 (view M d) a with
   |some (e,h)=>match X4 (view M d) b with
    |some (i,j)=>some (.fn f e i,h++j)
    |none=>none
   |none=>none
  |_=>none
abbrev view.a30(M:Mm)(d:Nat)(vs:List a7):Option (List a7×List (Nat×p8)):=X4 (view M d) vs
def PK(M:Mm)(vs:List a7):Option (List a7×List (Nat×p8)):=view.a30 M 6 vs
def J9:List (Nat×p8)->List (Nat×p8)
 |[]=>[]
 |(r,.own)::a=>(r,.aQ)::J9 a
 |_::a=>J9 a
def N6:List (Nat×p8)->List Nat
 |[]=>[]
 |(r,_)::a=>r::N6 a
def a7.parts:a7->Option (List a7)
 |.R3=>none
 |.Bu _ _=>none
 |.W2=>none
 |.V5 _ _=>none
 |.I9 _=>none
 |.agg cells=>some cells
 |v=>some [v]
def typed(P:Program)(t:TypeId):a7->a7
 |.W2=>match MW P t with
  |some e=>.R9 e
  |none=>.W2
 |v=>v
def a7.one:a7->Bool
 |.R3=>false
 |.Bu _ _=>false
 |.agg _=>false
 |.V5 _ _=>false
 |.I9 _=>false
 |_=>true
def gI:List a7->Bool
 |[]=>true
 |v::vs=>v.one && gI vs
def oR:Ty->List a7
 |.int k=>[.int k 0]
 |.bool=>[.bool false]
 |.slice e=>[.R9 e]
 |.pair a b=>oR a++oR b
def zeroV:Ty->List Value
 |.int k=>[.int k 0]
 |.bool=>[.bool false]
 |.slice _=>[.slice none 0 0]
 |.pair a b=>zeroV a++zeroV b
def vP:List Value->List Value->Bool
 |[],[]=>true
 |.int k n::a,.int k' c::b=>k=k' && n=c && vP a b
 |.bool x::a,.bool y::b=>x==y && vP a b
 |.slice none 0 0::a,.slice none 0 0::b=>vP a b
 |_,_=>false
def aE(P:Program)(t:TypeId)(ty:Ty):Bool:=
 match P.info? t with
 |some i=>match i.zero with
  |some v=>vP v.cells.toList (zeroV ty)
  |none=>false
 |none=>false
def FC(P:Program)(t:TypeId)(cells:List a7):Option a7:=
 match P.underlying t with
 |none=>none
 |some (.struct _)=>if(P.info? t).isSome && j7 P t<=cells.length then some (.agg (cells.take (j7 P t)))else none
 |some (.array _ _)=>if(P.info? t).isSome && j7 P t<=cells.length then some (.agg (cells.take (j7 P t)))else none
 |some _=>match cells with
  |v::_=>some v
  |[]=>none
def gJ(op:BinOp)(k:IntKind)(x y:Int):Int:=
 match op with
 |.and=>k.wrap (BitVec.ofInt k.bits x &&& BitVec.ofInt k.bits y).toNat
 |.or=>k.wrap (BitVec.ofInt k.bits x|||BitVec.ofInt k.bits y).toNat
 |.xor=>k.wrap (BitVec.ofInt k.bits x^^^BitVec.ofInt k.bits y).toNat
 |.andNot=>k.wrap (BitVec.ofInt k.bits x &&& ~~~ BitVec.ofInt k.bits y).toNat
 |_=>0
def XX(k:IntKind)(x y:Int):Int:=k.wrap (x*2^ (min y.toNat k.bits))
def XY(k:IntKind)(x y:Int):Int:=x.fdiv (2^ (min y.toNat k.bits))
def dO:List a7->List a7->Option Bool
 |[],[]=>some true
 |[.int k a],[.int k' b]=>if k=k' then some (a==b)else none
 |.int k a::r,.int k' b::s=>if k=k' then(match dO r s with
  |some e=>some (a==b && e)
  |none=>none)else none
 |_,_=>none
def aR(P:Program)(t:TypeId)(n:Nat):Bool:=
 match P.underlying t with
 |some (.struct fs)=>fs.size=n && !P.stoodInHeld t && !P.eqGuardType P.depth t && go fs.toList 0
 |_=>false
where
 go:List Field->Nat->Bool
  |[],_=>true
  |f::r,i=>f.offset=i && f.name≠ "_" && (match P.underlying f.type with|some (.int _)=>true|_=>false) && go r (i+1)
def HI(P:Program)(t:TypeId)(n:Nat):Bool:=
 match P.underlying t with
 |some (.array a e)=>a=n && !P.eqGuardType P.depth t && j7 P e=1 && (match P.underlying e with|some (.int _)=>true|_=>false)
 |_=>false
def vQ:(t:Ty)->List t.den->Option (List Int)
 |.int _,l=>some l
 |_,_=>none
def bZ(P:Program)(t:TypeId):Nat:=
 match P.underlying t with
 |some (.array n _)=>n
 |_=>0
def U1(k:IntKind)(n:Int):Prop:=k.wrap n=n
def W4(P:Program)(op:BinOp)(t:TypeId)(x y:a7)(k:a7->Prop):Prop:=
 match x,y with
 |.int c a,.int kb b=>
  match op with
  |.shl=>0<=b/\k (.int c (XX c a b))
  |.shr=>0<=b/\k (.int c (XY c a b))
  |_=>if c=kb then(match op with
   |.add=>U1 c (a+b)/\k (.int c (a+b))
   |.sub=>U1 c (a- b)/\k (.int c (a- b))
   |.mul=>U1 c (a*b)/\k (.int c (a*b))
   |.quo=>(0<=a/\0<b/\U1 c (a/b))/\k (.int c (a/b))
   |.rem=>(0<=a/\0<b)/\k (.int c (a % b))
   |.and=>k (.int c (gJ .and c a b))
   |.or=>k (.int c (gJ .or c a b))
   |.xor=>k (.int c (gJ .xor c a b))
   |.andNot=>k (.int c (gJ .andNot c a b))
   |.eql=>k (.bool (a==b))
   |.neq=>k (.bool (a !=b))
   |.lss=>k (.bool (decide (a<b)))
   |.leq=>k (.bool (decide (a<=b)))
   |.gtr=>k (.bool (decide (a>b)))
   |.geq=>k (.bool (decide (a>=b)))
   |_=>False)else False
 |.bool a,.bool b=>match P.underlying t with
  |some .bool=>(match op with
   |.eql=>k (.bool (a==b))
   |.neq=>k (.bool (!(a==b)))
   |_=>False)
  |_=>False
 |.agg xs,.agg ys=>if aR P t xs.length then(match dO xs ys with
  |some e=>(match op with
   |.eql=>k (.bool e)
   |.neq=>k (.bool (!e))
   |_=>False)
  |none=>False)else False
 |.V5 f g,.V5 ty h=>if HI P t (bZ P t)/\f=ty then(match vQ f g,vQ ty h with
  |some l,some d=>l.length=bZ P t/\d.length=bZ P t/\(match op with
   |.eql=>k (.bool (l==d))
   |.neq=>k (.bool (!(l==d)))
   |_=>False)
  |_,_=>False)else False
 |_,_=>False
def FG(M:Mm)(x:a7)(k:Q->Prop):Prop:=
 match x with
 |.W2=>k (.pure (.int .i64 0))
 |.R9 _=>k (.pure (.int .i64 0))
 |.P5 _ l _=>k (.pure (.int .i64 (l.length:Int)))
 |.B6 r _=>match M r with
  |some (.sl _ l,f)=>if f=.dead then False else k (.read (.int .i64 (l.length:Int)) r)
  |_=>False
 |.sub _ _ len _=>k (.pure (.int .i64 (len:Int)))
 |_=>False
def N4(nx:Nat)(t:Ty)(l:List t.den)(b:Bool)(a:List Nat)(use:List (Nat×p8)):Q:=
 ⟨.B6 nx b,[.sl t l],use,a⟩
def jY(M:Mm)(t:Ty):a7->Option (List t.den×List Nat)
 |.W2=>some ([],[])
 |.R9 a=>if a=t then some ([],[])else none
 |.P5 a l _=>if h:a=t then some (h▸l,[])else none
 |.B6 r _=>match M r with
  |some (.sl a l,f)=>if h:a=t then(if f=.dead then none else some (h▸l,[r]))else none
  |_=>none
 |.sub r lo len _=>match M r with
  |some (.sl a l,f)=>if h:a=t then(if f=.dead then none else some (h▸(l.drop lo).take len,[r]))else none
  |_=>none
 |_=>none
def iR:Nat:=1099511627776
def W5(P:Program)(nx:Nat)(M:Mm)(b:TypeId)(c:TypeId)(x y:a7)(k:Q->Prop):Prop:=
 match P.underlying b,P.underlying c with
 |some (.slice e),some (.slice _)=>if b=c then(match X3 P 8 e with
  |some t=>if(((P.info? e).map (·.bytes)).getD 0)<=64/\aE P e t then(match jY M t y with
   |some (ys,d)=>(match x with
    |.W2=>ys.length<=iR/\k (N4 nx t ys false d [])
    |.R9 a=>if a=t then ys.length<=iR/\k (N4 nx t ys false d [])else False
    |.P5 a l true=>if h:a=t then l.length+ys.length<=iR/\0<ys.length/\k (N4 nx t ((h▸l)++ys) false d [])else False
    |.B6 r _=>(match M r with
     |some (.sl a l,.own)=>if h:a=t then l.length+ys.length<=iR/\k (N4 nx t ((h▸l)++ys) false (r::d) [(r,.dead)])else False
     |_=>False)
    |.sub r lo len true=>(match M r with
     |some (.sl a l,f)=>if h:a=t then(if f=.dead then False else len+ys.length<=iR/\0<ys.length/\k (N4 nx t ((h▸((l.drop lo).take len))++ys) false (r::d) []))else False
     |_=>False)
    |_=>False)
   |none=>False)else False
  |none=>False)else False
 |_,_=>False
def eI(P:Program)(M:Mm)(t:TypeId)(x:a7)(lo hi mx:Option a7)(k:Q->Prop):Prop:=
 match lo,hi,mx with
 |none,none,none=>(match P.underlying t,x with
  |some (.array n e),.O2 r=>(match M r with
   |some (.sl ty l,f)=>if f=.dead\/j7 P e≠ty.size then False else l.length=n/\k (.read (.B6 r true) r)
   |_=>False)
  |_,_=>False)
 |some (.int .i64 a),none,none=>(match P.underlying t,x with
  |some (.slice e),.P5 ty l _=>if j7 P e=ty.size then(0<=a/\a<=(l.length:Int))/\k (.pure (.P5 ty (l.drop a.toNat) false))else False
  |some (.slice e),.B6 r _=>(match M r with
   |some (.sl ty l,f)=>if j7 P e=ty.size/\f≠ .dead then(0<=a/\a<=(l.length:Int))/\k (.read (.sub r a.toNat (l.length- a.toNat) false) r)else False
   |_=>False)
  |_,_=>False)
 |none,some (.int .i64 b),none=>(match P.underlying t,x with
  |some (.slice e),.P5 ty l _=>if j7 P e=ty.size then(0<=b/\b<=(l.length:Int))/\k (.pure (.P5 ty (l.take b.toNat) false))else False
  |some (.slice e),.B6 r _=>(match M r with
   |some (.sl ty l,f)=>if j7 P e=ty.size/\f≠ .dead then(0<=b/\b<=(l.length:Int))/\k (.read (.sub r 0 b.toNat false) r)else False
   |_=>False)
  |_,_=>False)
 |none,some (.int .i64 b),some (.int .i64 c)=>(match P.underlying t,x with
  |some (.slice e),.P5 ty l _=>if j7 P e=ty.size then(0<=b/\b<=(l.length:Int)/\c=b)/\k (.pure (.P5 ty (l.take b.toNat) true))else False
  |some (.slice e),.B6 r _=>(match M r with
   |some (.sl ty l,f)=>if j7 P e=ty.size/\f≠ .dead then(0<=b/\b<=(l.length:Int)/\c=b)/\k (.read (.sub r 0 b.toNat true) r)else False
   |_=>False)
  |_,_=>False)
 |some (.int .i64 a),some (.int .i64 b),none=>(match P.underlying t,x with
  |some (.slice e),.P5 ty l _=>if j7 P e=ty.size then(0<=a/\a<=b/\b<=(l.length:Int))/\k (.pure (.P5 ty ((l.drop a.toNat).take (b.toNat- a.toNat)) false))else False
  |some (.slice e),.B6 r _=>(match M r with
   |some (.sl ty l,f)=>if j7 P e=ty.size/\f≠ .dead then(0<=a/\a<=b/\b<=(l.length:Int))/\k (.read (.sub r a.toNat (b.toNat- a.toNat) false) r)else False
   |_=>False)
  |_,_=>False)
 |_,_,_=>False
def J3(P:Program)(M:Mm)(t:TypeId)(x i:a7)(k:Q->Prop):Prop:=
 match i with
 |.int _ a=>(match P.underlying t with
  |some (.slice e)=>(match x with
   |.P5 ty l _=>if j7 P e=ty.size then ∃h:0<=a/\a.toNat<l.length,k (.pure (.L8 (ty.cells (l[a.toNat]'h.2))))else False
   |.B6 r _=>(match M r with
    |some (.sl ty l,f)=>if j7 P e=ty.size/\f≠ .dead then(0<=a/\a.toNat<l.length)/\k (.read (.P9 r a.toNat 0) r)else False
    |_=>False)
   |.sub r lo len _=>(match M r with
    |some (.sl ty _,f)=>if j7 P e=ty.size/\f≠ .dead then(0<=a/\a.toNat<len)/\k (.read (.P9 r (lo+a.toNat) 0) r)else False
    |_=>False)
   |_=>False)
  |some (.array n e)=>(match x with
   |.O2 r=>(match M r with
    |some (.sl ty _,f)=>if j7 P e=ty.size/\f≠ .dead then(0<=a/\a.toNat<n)/\k (.read (.P9 r a.toNat 0) r)else False
    |_=>False)
   |.ptr r off=>(match M r with
    |some (.bx p ty b _ _,f)=>if(j7 P e=ty.size/\f≠ .dead)/\off=p.length/\b=n then(0<=a/\a.toNat<n)/\k (.read (.P9 r a.toNat off) r)else False
    |_=>False)
   |_=>False)
  |_=>False)
 |_=>False
def TJ:List a7->Bool
 |[]=>false
 |.B6 _ _::_=>true
 |.sub _ _ _ _::_=>true
 |_::l=>TJ l
def gK(M:Mm)(r:Nat)(v:a7)(k:Q->Prop):Prop:=
 match v with
 |.agg cs=>if TJ cs then(match view M 6 (.agg cs)with
  |some (v',a)=>k ⟨v',[],J9 a,r::N6 a⟩
  |none=>False)else k (.read (.agg cs) r)
 |v=>k (.read v r)
def a1s(P:Program)(T:TypeId)(p:List a7)(t:Ty)(n:Nat)(l:List t.den)(q:List a7)(off:Nat):Option a7:=
 if off<p.length then FC P T (p.drop off)
 else if off=p.length then(match P.underlying T with
  |some (.array _ _)=>if n*t.size=j7 P T then some (.V5 t l)else none
  |_=>none)
 else if p.length+n*t.size<=off then FC P T (q.drop (off- (p.length+n*t.size)))else none
def gL(P:Program)(M:Mm)(t:TypeId)(x:a7)(k:Q->Prop):Prop:=
 match x with
 |.ptr r off=>(match M r with
  |some (.box cells,f)=>if f=.dead then False else(match FC P t (cells.drop off)with
   |some v=>gK M r v k
   |none=>False)
  |some (.bx p ty n l q,f)=>if f=.dead then False else(match a1s P t p ty n l q off with
   |some v=>gK M r v k
   |none=>False)
  |_=>False)
 |.L8 cells=>(match FC P t cells with
  |some v=>k (.pure v)
  |none=>False)
 |.P9 r i j=>(match M r with
  |some (.sl ty l,f)=>if f=.dead then False else ∃h:i<l.length,(match FC P t ((ty.cells l[i]).drop j)with
   |some v=>k (.read v r)
   |none=>False)
  |some (.bx p ty n l q,f)=>if f=.dead\/(j<p.length\/p.length+ty.size<j)then False else ∃h:i<l.length,(match FC P t ((ty.cells l[i]).drop (j- p.length))with
   |some v=>k (.read v r)
   |none=>False)
  |_=>False)
 |.O2 r=>(match M r,P.underlying t with
  |some (.sl ty l,f),some (.array _ _)=>if f=.dead then False else l.length*ty.size=j7 P t/\k (.read (.V5 ty l) r)
  |_,_=>False)
 |_=>False
def yR(t:Ty):List (List a7)->Option (List t.den)
 |[]=>some []
 |Bw::r=>match t.whole Bw,yR t r with
  |some x,some xs=>some (x::xs)
  |_,_=>none
def aF(P:Program)(M:Mm)(ev:Operand->a7)(e:TypeId):Nat->List (Nat×Operand)->Option (List (List a7)×List (Nat×p8))
 |_,[]=>some ([],[])
 |i,(j,o)::r=>if i=j then(match view M 6 (typed P e (ev o))with
  |some (v,b)=>(match v.parts,aF P M ev e (i+1) r with
   |some a,some (rest,c)=>some (a::rest,b++c)
   |_,_=>none)
  |none=>none)else none
def eR(P:Program)(ev:Operand->a7)(t:TypeId):List a7->List (Nat×Operand)->Option (List a7)
 |cells,[]=>some cells
 |cells,(i,o)::r=>match jX P t i with
  |some (off,size)=>(match(typed P (Gl P t i) (ev o)).parts with
   |some Bw=>if Bw.length=size/\off+size<=cells.length then eR P ev t (cells.take off++Bw++cells.drop (off+size)) r else none
   |none=>none)
  |none=>none
where
 Gl (P:Program) (t:TypeId) (i:Nat):TypeId:=
  match P.underlying t with
  |some (.struct fs)=>match fs[i]? with
   |some f=>f.type
   |none=>0
  |_=>0
def BN(P:Program):List Field->Bool
 |[]=>true
 |f::a=>(P.info? f.type).isSome && BN P a
def tZ(P:Program)(ev:Operand->a7)(t:TypeId)(ps:List (Nat×Operand))(k:a7->Prop):Prop:=
 match P.info? t,P.underlying t with
 |some i,some (.struct a)=>(match i.zero with
  |some v=>if BN P a.toList then(match eR P ev t (v.cells.toList.map qN) ps with
   |some cells=>k (.agg cells)
   |none=>False)else False
  |none=>False)
 |_,_=>False
def cA(f:Int->Int->Int)(k:IntKind):Int->List a7->Option Int
 |a,[]=>some a
 |a,.int k' b::r=>if k=k' then cA f k (f a b) r else none
 |_,_=>none
def Z3(c:Int->Int)(o:Obj):Prop:=
 ∃d b,o=.map d b/\∀e∈d.toList,∃a,e.key=.agg #[.int .i64 a]/\e.val=.int .i64 (c a)
def Cu(spec:Int->Int):JD where
 P:=fun K v=>∃b,v=.map (some b)/\K.inv b=some (Z3 spec)
 mono:=fun _ _ _ h ⟨b,h1,h2⟩=>⟨b,h1,h.inv _ _ h2⟩
 cell:=fun _ _ ⟨b,h1,_⟩=>.inl ⟨some b,h1⟩
def Ua(P:Program):List Field->Bool
 |[f]=>decide (f.offset=0) && decide (f.name≠ "_") && (match P.underlying f.type with
  |some (.int _)=>true
  |_=>false)
 |_=>false
def oS(P:Program)(t:TypeId):Bool:=
 match P.underlying t with
 |some (.map kt a)=>aR P kt 1 && (match P.underlying kt with
  |some (.struct b)=>Ua P b.toList
  |_=>false) && (match P.info? a with
  |some i=>(match i.zero with
   |some (.int .i64 0)=>true
   |_=>false)
  |none=>false)
 |_=>false
def X'(P:Program)(t:TypeId)(x i:a7)(d:Bool)(k:a7->Prop):Prop:=
 match x,i with
 |.z6 p,.agg [.int .i64 a]=>if oS P t && d then ∃b,p=Cu b/\∀c:Bool,k (.I9 [.int .i64 (cond c (b a) 0),.bool c])else False
 |_,_=>False
def Rz(a b:Int):Bool:=a==b
def a8g(a b:Bool):Bool:=a==b
def Ty.beq:(t:Ty)->t.den->t.den->Bool
 |.int _,a,b=>Rz a b
 |.bool,a,b=>a8g a b
 |.slice _,_,_=>false
 |.pair s t,a,b=>s.beq a.1 b.1 && t.beq a.2 b.2
def Ub(P:Program)(k:TypeId)(ty:Ty):Bool:=
 match P.underlying k with
 |some (.struct _)=>aR P k ty.size
 |some (.int _)=>true
 |_=>false
def gM(P:Program)(t:TypeId):Option MK:=
 match P.underlying t with
 |some (.map k v)=>(match X3 P 8 k,P.underlying v,P.info? v with
  |some ty,some (.int a),some i=>(match i.zero with
   |some (.int b z)=>if ty.ints && decide (b=a) && decide (z=0) && Ub P k ty then some ⟨Q1 P k,ty,a⟩else none
   |_=>none)
  |_,_,_=>none)
 |_=>none
def MK.PL(mk:MK)(v:a7):Option mk.kt.den:=
 match mk.agg with
 |true=>(match v with
  |.agg cs=>mk.kt.whole cs
  |_=>none)
 |false=>mk.kt.whole [v]
def MK.Q2(mk:MK)(x:mk.kt.den):a7:=
 match mk.agg with
 |true=>.agg (mk.kt.cells x)
 |false=>(mk.kt.cells x).headD .R3
abbrev l6(t:Ty):Type:=List (Nat×t.den×Int)
def J4(t:Ty)(l:l6 t)(x:t.den):Bool:=l.any fun e=>t.beq x e.2.1
def y8(t:Ty):l6 t->t.den->Int
 |[],_=>0
 |e::r,x=>if t.beq x e.2.1 then e.2.2 else y8 t r x
def cC(t:Ty)(x:t.den)(v:Int):l6 t->l6 t
 |[]=>[]
 |e::r=>if t.beq x e.2.1 then(e.1,x,v)::r else e::cC t x v r
def M0(t:Ty)(l:l6 t)(clk:Nat)(x:t.den)(v:Int):l6 t:=if J4 t l x then cC t x v l else l++ [(clk,x,v)]
def P3(t:Ty)(l:l6 t)(clk:Nat)(x:t.den):Nat:=if J4 t l x then clk else clk+1
def At(mk:MK)(l:l6 mk.kt)(x:mk.kt.den)(a:Bool):a7:=
 match a with
 |true=>.I9 [.int mk.kv (y8 mk.kt l x),.bool (J4 mk.kt l x)]
 |false=>.int mk.kv (y8 mk.kt l x)
def M8(t:Ty):l6 t->Nat->t.den->Nat
 |[],clk,_=>clk
 |e::r,clk,x=>if t.beq x e.2.1 then e.1 else M8 t r clk x
def Cv(t:Ty)(l:l6 t)(s:Nat):Bool:=l.any fun e=>Nat.beq e.1 s
def eJ(t:Ty):l6 t->Nat->Int->l6 t
 |[],_,_=>[]
 |e::r,s,n=>if Nat.beq e.1 s then(e.1,e.2.1,n)::r else e::eJ t r s n
def Bx(t:Ty)(x:t.den):l6 t->l6 t
 |[]=>[]
 |e::r=>if t.beq x e.2.1 then r else e::Bx t x r
def mleft(t:Ty)(l:l6 t)(seen:List Nat):l6 t:=l.filter fun e=> !seen.contains e.1
def HJ(P:Program)(t:TypeId):Bool:=
 match P.info? t with
 |some i=>(match i.zero with
  |some (.map none)=>decide (i.size=1)
  |some (.pointer none)=>decide (i.size=1)
  |some .nilFunc=>decide (i.size=1)
  |_=>false)
 |none=>false
inductive sX where
 |leaf (v:a7) (cs:List c7)
 |br (b:Bool) (x y:sX)
def sX.run:sX->(a7->List c7->Prop)->Prop
 |.leaf v cs,k=>k v cs
 |.br b x y,k=>Abs.br b (x.run k) (y.run k)
structure V6 where
 pre:List a7->List c7->Prop
 res:List a7->List c7->sX
 hand:List Nat
def V6.run(c:V6)(a:List a7)(cs:List c7)(k:a7->List c7->Prop):Prop:=
 c.pre a cs/\(c.res a cs).run k
theorem sX.det(t:sX):∃v cs,∀k:a7->List c7->Prop,t.run k↔k v cs:=by
 induction t with
 |leaf v cs=>exact⟨v,cs,fun k=>Iff.rfl⟩
 |br b x y a c=>
  cases b with
  |true=>exact a
  |false=>exact c
abbrev Env:=FuncId->Option V6
mutual
def a7.flat:a7->Bool
 |.bool _=>true
 |.int _ _=>true
 |.B6 _ _=>true
 |.z8 _=>true
 |.agg cs=>Gm cs
 |.I9 cs=>Gm cs
 |_=>false
def Gm:List a7->Bool
 |[]=>true
 |v::vs=>v.flat && Gm vs
end
def Ty.flat:Ty->Bool
 |.int _=>true
 |.bool=>true
 |.slice _=>false
 |.pair a b=>a.flat && b.flat
def U2:List c7->Bool
 |[]=>true
 |.sl t _::r=>t.flat && U2 r
 |.box cs::r=>Gm cs && U2 r
 |.mp _ _ _::r=>U2 r
 |.it _ _ _ _::_=>false
 |.bx _ _ _ _ _::_=>false
 |.F8 _::_=>false
 |.any::_=>false
mutual
def a7.X5(ρ:Nat->Nat):a7->a7
 |.B6 r f=>.B6 (ρ r) f
 |.sub r lo len f=>.sub (ρ r) lo len f
 |.ptr r o=>.ptr (ρ r) o
 |.P9 r i o=>.P9 (ρ r) i o
 |.O2 r=>.O2 (ρ r)
 |.z8 r=>.z8 (ρ r)
 |.L8 cs=>.L8 (jD ρ cs)
 |.agg cs=>.agg (jD ρ cs)
 |.I9 cs=>.I9 (jD ρ cs)
 |.fn f a b=>.fn f (jD ρ a) (jD ρ b)
 |.Bu _ _=>.R3
 |v=>v
def jD(ρ:Nat->Nat):List a7->List a7
 |[]=>[]
 |v::vs=>v.X5 ρ::jD ρ vs
end
def c7.X5(ρ:Nat->Nat):c7->c7
 |.box cs=>.box (jD ρ cs)
 |.bx p t n l q=>.bx (jD ρ p) t n l (jD ρ q)
 |.sl t l=>.sl t l
 |.mp mk l clk=>.mp mk l clk
 |.it m a seen b=>.it (m.map ρ) a seen b
 |.F8 _=>.any
 |.any=>.any
def cW(ρ:Nat->Nat):List c7->List c7
 |[]=>[]
 |c::cs=>c.X5 ρ::cW ρ cs
abbrev a7.shift(n:Nat)(v:a7):a7:=v.X5 (· +n)
abbrev c7.shift(n:Nat)(c:c7):c7:=c.X5 (· +n)
abbrev yS(n:Nat)(cs:List c7):List c7:=cW (· +n) cs
mutual
def a7.PM:a7->Bool
 |.z8 _=>false
 |.B6 _ _=>false
 |.sub _ _ _ _=>false
 |.ptr _ _=>false
 |.P9 _ _ _=>false
 |.O2 _=>false
 |.L8 cs=>HK cs
 |.agg cs=>HK cs
 |.I9 cs=>HK cs
 |.fn _ a b=>HK a && HK b
 |.Bu _ _=>false
 |_=>true
def HK:List a7->Bool
 |[]=>true
 |v::vs=>v.PM && HK vs
end
def K8(P:Program):List TypeId->List a7->List a7
 |t::ts,v::vs=>typed P t v::K8 P ts vs
 |_,vs=>vs
def refs:Nat->a7->List Nat
 |0,_=>[]
 |d+1,v=>match v with
  |.B6 r _=>[r]
  |.sub r _ _ _=>[r]
  |.ptr r _=>[r]
  |.P9 r _ _=>[r]
  |.O2 r=>[r]
  |.z8 r=>[r]
  |.L8 cs=>(cs.map (refs d)).flatten
  |.agg cs=>(cs.map (refs d)).flatten
  |.I9 cs=>(cs.map (refs d)).flatten
  |.fn _ a b=>(a.map (refs d)).flatten++(b.map (refs d)).flatten
  |_=>[]
def uniq:List Nat->List Nat->List Nat
 |[],b=>b
 |a::l,b=>if b.contains a then uniq l b else uniq l (b++ [a])
def PN:List Nat->Bool
 |[n]=>Nat.beq n 9000
 |_=>false
def sY(Γ:Env)(nx:Nat)(M:Mm)(f:FuncId)(args:List a7)(k:Q->Prop):Prop:=
 match PK M args,Γ f with
 |some (vs,a),some c=>if HK vs=true/\(c.hand=[]\/PN c.hand=true)then c.run vs [] (fun v new=>k ⟨v.shift nx,yS nx new,if v.flat && U2 new then []else J9 a,N6 a⟩)else False
 |_,_=>False
def Uc(P:Program)(f:Field):Option (Nat×IntKind×Nat):=
 match P.underlying f.type with
 |some (.array n e)=>(match P.underlying e with
  |some (.int k)=>some (f.offset,k,n)
  |_=>none)
 |_=>none
def bxT(P:Program)(t:TypeId):Option (Nat×IntKind×Nat):=
 match P.underlying t with
 |some (.struct a)=>(match a.toList.filterMap (Uc P)with
  |[x]=>some x
  |_=>none)
 |_=>none
def JG(k:IntKind):List a7->Option (List Int)
 |[]=>some []
 |v::vs=>match v,JG k vs with
  |.int k' a,some l=>if k'=k then some (a::l)else none
  |_,_=>none
def vS(P:Program)(a:List Field):Nat->List a7->List a7
 |_,[]=>[]
 |o,v::vs=>(match a.find? (fun f=>Nat.beq f.offset o)with
  |some f=>typed P f.type v
  |none=>v)::vS P a (o+1) vs
def XZ(P:Program)(t:TypeId):List Field:=match P.underlying t with
 |some (.struct a)=>a.toList
 |_=>[]
def Ud(P:Program)(e:TypeId)(cells:List a7):c7:=
 match bxT P e with
 |some (p,k,n)=>(match JG k ((cells.drop p).take n)with
  |some l=>if l.length=n then .bx (cells.take p) (.int k) n l (vS P (XZ P e) (p+n) (cells.drop (p+n)))else .box cells
  |none=>.box cells)
 |none=>.box cells
def O4(Γ:Env)(P:Program)(o:Oper)(ev:Operand->a7)(nx:Nat)(M:Mm)(k:Q->Prop):Prop:=
 match o.op with
 |.move x=>Gn x
 |.assign x=>Gn x
 |.pick c a b=>(match ev c with
  |.bool t=>br t (k (.pure (ev a))) (k (.pure (ev b)))
  |_=>False)
 |.alloc e=>(match P.underlying e with
  |some (.array n a)=>(match X3 P 8 a with
   |some t=>if dA P e t n then k ⟨.O2 nx,[.sl t (List.replicate n t.zero)],[],[]⟩else False
   |none=>False)
  |_=>(match X3 P 8 e with
   |some t=>if aE P e t then k ⟨.ptr nx 0,[.box (oR t)],[],[]⟩else False
   |none=>if HJ P e then k ⟨.ptr nx 0,[.box [.R3]],[],[]⟩else False))
 |.box e x=>(match(typed P e (ev x)).parts with
  |some cells=>k ⟨.ptr nx 0,[Ud P e cells],[],[]⟩
  |none=>False)
 |.build t ps=>(match P.underlying t with
  |some (.array n e)=>(match X3 P 8 e with
   |some ty=>if dA P t ty n/\ps.toList.length=0 then k (.pure (.V5 ty (List.replicate n ty.zero)))else False
   |none=>False)
  |_=>(match X3 P 8 t with
  |some ty=>if aE P t ty && Q1 P t then(match eR P ev t (oR ty) ps.toList with
   |some cells=>k (.pure (.agg cells))
   |none=>False)else False
  |none=>tZ P ev t ps.toList (fun v=>k (.pure v))))
 |.buildSlice t n ps=>(match P.underlying t with
  |some (.slice e)=>(match X3 P 8 e with
   |some ty=>if aE P e ty/\ps.size=n/\n*ty.size<=16777216 then(match aF P M ev e 0 ps.toList with
    |some (cells,rs)=>(match yR ty cells with
     |some l=>k (N4 nx ty l true (N6 rs) (J9 rs))
     |none=>False)
    |none=>False)else False
   |none=>False)
  |_=>False)
 |.load t a=>gL P M t (ev a) k
 |.nilCheck x=>(match ev x with
  |.ptr r i=>k (.pure (.ptr r i))
  |.L8 cs=>k (.pure (.L8 cs))
  |.O2 r=>k (.pure (.O2 r))
  |.fn (.func f) a b=>k (.pure (.fn (.func f) a b))
  |_=>False)
 |.binOp op t x y _=>W4 P op t (ev x) (ev y) (fun v=>k (.pure v))
 |.unOp op _ x=>(match op,ev x with
  |.not,.bool b=>k (.pure (.bool (!b)))
  |.neg,.int kd n=>U1 kd (-n)/\k (.pure (.int kd (-n)))
  |_,_=>False)
 |.convert src dst x=>(match P.underlying src,P.underlying dst,ev x with
  |some _,some (.int kd),.int _ n=>U1 kd n/\k (.pure (.int kd n))
  |_,_,_=>False)
 |.makeMap t r=>if oS P t && r.isNone then ∃spec,k (.pure (.z6 (Cu spec)))else(match r,gM P t with
  |none,some mk=>k ⟨.z8 nx,[.mp mk [] 0],[],[]⟩
  |_,_=>False)
 |.lookup t x i ck=>(match ev x with
  |.z8 r=>(match M r with
   |some (.mp mk l _,f)=>if gM P t=some mk/\f≠ .dead then(match mk.PL (ev i)with
    |some key=>k (.read (At mk l key ck) r)
    |none=>False)else False
   |_=>False)
  |_=>False)
 |.makeFunc fn first cap=>k (.pure (.fn fn (first.toList.map ev) (cap.toList.map ev)))
 |.makeSlice t l c=>(match P.underlying t,ev l,ev c with
  |some (.slice e),.int .i64 a,.int .i64 b=>(match X3 P 8 e with
   |some ty=>if aE P e ty/\(((P.info? e).map (·.bytes)).getD 0)<=64 then(0<=a/\a=b/\a<=(iR:Int))/\k (N4 nx ty (List.replicate a.toNat ty.zero) true [] [])else False
   |none=>False)
  |_,_,_=>False)
 |.slice t x lo hi mx=>eI P M t (ev x) (lo.map ev) (hi.map ev) (mx.map ev) k
 |.fieldAddr s x f=>(match jX P s f,ev x with
  |some (off,_),.ptr r o=>k (.pure (.ptr r (o+off)))
  |some (off,_),.L8 cs=>k (.pure (.L8 (cs.drop off)))
  |some (off,_),.P9 r i j=>k (.pure (.P9 r i (j+off)))
  |_,_=>False)
 |.field s x f=>(match jX P s f,ev x with
  |some (off,_),.agg cs=>(match FC P (eR.Gl P s f) (cs.drop off)with
   |some v=>k (.pure v)
   |none=>False)
  |_,_=>False)
 |.indexAddr t x i=>J3 P M t (ev x) (ev i) k
 |.index t x i=>(match P.underlying t,ev x,ev i with
  |some (.array n e),.V5 ty l,.int _ a=>if j7 P e=ty.size then ∃h:0<=a/\a.toNat<l.length,a.toNat<n/\l.length=n/\(match FC P e (ty.cells (l[a.toNat]'h.2))with
   |some v=>k (.pure v)
   |none=>False)else False
  |_,_,_=>False)
 |.extract x i=>(match ev x with
  |.I9 vs=>(match vs[i]? with
   |some v=>k (.pure v)
   |none=>False)
  |_=>False)
 |.call c=>(match c.callee with
  |.builtin .len=>(match c.args.toList,c.argTypes.toList with
   |[x],[t]=>(match P.underlying t with
    |some (.slice _)=>FG M (ev x) k
    |_=>False)
   |_,_=>False)
  |.builtin .append=>(match c.args.toList,c.argTypes.toList with
   |[x,y],[t,u]=>W5 P nx M t u (ev x) (ev y) k
   |_,_=>False)
  |.builtin .max=>(match c.args.toList.map ev with
   |.int kd a::r=>(match cA (fun x y=>if y>x then y else x) kd a r with
    |some b=>k (.pure (.int kd b))
    |none=>False)
   |_=>False)
  |.builtin .min=>(match c.args.toList.map ev with
   |.int kd a::r=>(match cA (fun x y=>if y<x then y else x) kd a r with
    |some b=>k (.pure (.int kd b))
    |none=>False)
   |_=>False)
  |.value g=>(match ev g with
   |.fn (.func f) first cap=>sY Γ nx M f (first++K8 P c.argTypes.toList (c.args.toList.map ev)++cap) k
   |_=>False)
  |_=>False)
 |_=>False
where
 Gn (x:Operand):Prop:=match ev x with
  |.W2=>(match MW P o.type with
   |some t=>k ⟨.B6 nx false,[.sl t []],[],[]⟩
   |none=>k (.pure .W2))
  |v=>k (.pure v)
 dA (P:Program) (e:TypeId) (t:Ty) (n:Nat):Bool:=
  match P.info? e with
  |some i=>match i.zero with
   |some v=>Nat.ble n 16777216 && vP v.cells.toList ((List.replicate n (zeroV t)).flatten)
   |none=>false
  |none=>false
structure W where
 set:List (Nat×(c7×p8))
 reads:List Nat
 val:a7
def iS:Mm->List (Nat×(c7×p8))->Mm
 |m,[]=>m
 |m,(r,x)::a=>iS (S0 m r x) a
def RA:Mem->List (Nat×(c7×p8))->Mem
 |m,[]=>m
 |m,u::a=>RA (u::m) a
def vT{α:Type}(a:α)(f:α->Prop):Prop:=∀x,x=a->f x
theorem fV{α:Type}(a:α)(f:α->Prop):vT a f↔f a:=⟨fun h=>h a rfl,fun h x e=>e▸h⟩
def Ya(P:Program)(ev:Operand->a7)(c:Call)(k:W->Prop)(b:Builtin):Prop:=
 match b with
 |.delete=>(match c.args.toList,c.argTypes.toList with
  |[x,y],[t,_]=>(match ev x,ev y with
   |.z6 p,.agg [.int .i64 _]=>if oS P t then(∃a,p=Cu a)/\k ⟨[],[],.R3⟩else False
   |_,_=>False)
  |_,_=>False)
 |_=>False
def MX(p:List a7)(ty:Ty)(n:Nat)(l:List ty.den)(q:List a7)(off:Nat)(xs:List a7)(k:c7->Prop):Prop:=
 if off+xs.length<=p.length then k (.bx (p.take off++xs++p.drop (off+xs.length)) ty n l q)
 else if p.length+n*ty.size<=off/\off- (p.length+n*ty.size)+xs.length<=q.length then k (.bx p ty n l (q.take (off- (p.length+n*ty.size))++xs++q.drop (off- (p.length+n*ty.size)+xs.length)))else False
def iT(P:Program)(o:Oper)(ev:Operand->a7)(M:Mm)(k:W->Prop):Prop:=
 match o.op with
 |.store t a x=>(match ev a with
  |.O2 r=>(match M r,ev x with
   |some (.sl w l,.own),.V5 ty f=>if h:ty=w then f.length=l.length/\f.length*ty.size=j7 P t/\0<l.length/\k ⟨[(r,(.sl w (h▸f),.own))],[r],.R3⟩else False
   |_,_=>False)
  |.ptr r off=>(match M r,(typed P t (ev x)).parts with
   |some (.box cells,.own),some xs=>if xs.length=j7 P t/\0<xs.length/\off+xs.length<=cells.length/\gI xs=true then
       k ⟨[(r,(.box (cells.take off++xs++cells.drop (off+xs.length)),.own))],[r],.R3⟩else False
   |some (.bx p ty n l q,.own),some xs=>if xs.length=j7 P t/\0<xs.length/\gI xs=true then MX p ty n l q off xs (fun c=>k ⟨[(r,(c,.own))],[r],.R3⟩)else False
   |_,_=>False)
  |.P9 r i j=>(match M r,(typed P t (ev x)).parts with
   |some (.sl ty l,.own),some xs=>if xs.length=j7 P t/\0<xs.length/\j+xs.length<=ty.size/\gI xs=true then ∃h:i<l.length,
    (match ty.whole ((ty.cells l[i]).take j++xs++(ty.cells l[i]).drop (j+xs.length))with
    |some A=>k ⟨[(r,(.sl ty (l.set i A),.own))],[r],.R3⟩
    |none=>False)else False
   |some (.bx p ty n l q,.own),some xs=>if xs.length=j7 P t/\0<xs.length/\(p.length<=j/\j- p.length+xs.length<=ty.size)/\gI xs=true then ∃h:i<l.length,
    (match ty.whole ((ty.cells l[i]).take (j- p.length)++xs++(ty.cells l[i]).drop (j- p.length+xs.length))with
    |some A=>k ⟨[(r,(.bx p ty n (l.set i A) q,.own))],[r],.R3⟩
    |none=>False)else False
   |_,_=>False)
  |_=>False)
 |.call c=>(match c.callee with
  |.builtin .clear=>(match c.args.toList,c.argTypes.toList with
   |[x],[t]=>(match P.underlying t,ev x with
    |some (.slice e),.B6 r _=>(match M r with
     |some (.sl ty l,.own)=>if aE P e ty then k ⟨[(r,(.sl ty (List.replicate l.length ty.zero),.own))],[r],.R3⟩else False
     |_=>False)
    |_,_=>False)
   |_,_=>False)
  |.builtin .copy=>(match c.args.toList,c.argTypes.toList with
   |[x,y],[t,u]=>(match P.underlying t,P.underlying u,ev x with
    |some (.slice e),some (.slice _),.B6 r _=>(match M r with
     |some (.sl ty l,.own)=>(match jY M ty (ev y)with
      |some (ys,B)=>if j7 P e=ty.size/\B.contains r=false then k ⟨[(r,(.sl ty (ys.take l.length++l.drop ys.length),.own))],r::B,.R3⟩else False
      |none=>False)
     |_=>False)
    |_,_,_=>False)
   |_,_=>False)
  |.builtin b=>Ya P ev c k b
  |_=>False)
 |.mapUpdate t m x v=>(match ev m,ev x,ev v with
  |.z6 p,.agg [.int .i64 a],.int .i64 n=>if oS P t then(∃g,p=Cu g/\n=g a)/\k ⟨[],[],.R3⟩else False
  |.z8 r,x,.int z n=>(match M r with
   |some (.mp mk l clk,.own)=>if gM P t=some mk/\z=mk.kv then(match mk.PL x with
    |some d=>vT (M0 mk.kt l clk d n) fun f=>vT (P3 mk.kt l clk d) fun c'=>k ⟨[(r,(.mp mk f c',.own))],[r],.R3⟩
    |none=>False)else False
   |_=>False)
  |_,_,_=>False)
 |.insert t m x v=>(match ev m,ev x,ev v with
  |.z8 r,x,.int z n=>(match M r with
   |some (.mp mk l clk,.own)=>if gM P t=some mk/\z=mk.kv then(match mk.PL x with
    |some d=>vT (M0 mk.kt l clk d n) fun f=>vT (P3 mk.kt l clk d) fun c'=>k ⟨[(r,(.mp mk f c',.own))],[r],.R3⟩
    |none=>False)else False
   |_=>False)
  |_,_,_=>False)
 |.mapEntry t m x=>(match ev m with
  |.z8 r=>(match M r with
   |some (.mp mk l clk,.own)=>if gM P t=some mk then(match mk.PL (ev x)with
    |some d=>vT (M0 mk.kt l clk d (y8 mk.kt l d)) fun f=>vT (P3 mk.kt l clk d) fun c'=>vT (M8 mk.kt l clk d) fun s=>k ⟨[(r,(.mp mk f c',.own))],[r],.I9 [.int mk.kv (y8 mk.kt l d),.int .i64 (s:Int)]⟩
    |none=>False)else False
   |_=>False)
  |_=>False)
 |.entryStore _ m b v=>(match ev m,ev b,ev v with
  |.z8 r,.int .i64 s,.int z n=>(match M r with
   |some (.mp mk l clk,.own)=>if z=mk.kv then(0<=s/\Cv mk.kt l s.toNat=true)/\vT (eJ mk.kt l s.toNat n) fun f=>k ⟨[(r,(.mp mk f clk,.own))],[r],.R3⟩else False
   |_=>False)
  |_,_,_=>False)
 |_=>False
def isE:Op->Bool
 |.store .. =>true
 |.mapUpdate .. =>true
 |.insert .. =>true
 |.mapEntry .. =>true
 |.entryStore .. =>true
 |.call c=>(match c.callee with
  |.builtin .clear=>true
  |.builtin .delete=>true
  |.builtin .copy=>true
  |_=>false)
 |_=>false
structure XQ where
 val:a7
 set:List (Nat×c7)
 use:List (Nat×p8)
 new:List c7
def oT:List (Nat×c7)->List (Nat×(c7×p8))
 |[]=>[]
 |u::a=>(u.1,(u.2,.own))::oT a
def XQ.mm(q:XQ)(n:Nat)(m:Mm):Mm:=E8 (iS (y7 m q.use) (oT q.set)) n q.new
def XQ.ml(q:XQ)(n:Nat)(M:Mem):Mem:=Tz (RA (oQ M q.use) (oT q.set)) n q.new
def HL(M:Mm)(j:Nat):a7->Option (a7×Nat×c7)
 |.B6 r f=>match M r with
  |some (.sl t l,.own)=>some (.B6 j f,r,.sl t l)
  |_=>none
 |.z8 r=>match M r with
  |some (.mp mk l clk,.own)=>some (.z8 j,r,.mp mk l clk)
  |_=>none
 |_=>none
def JH(M:Mm)(b:Bool)(v:a7):Option (a7×List (Nat×p8)):=match b,v with
 |true,.R9 t=>some (.R9 t,[])
 |_,v=>view M 6 v
def cD(M:Mm)(a:List Nat):Nat->Nat->List a7->Option (List a7×List Nat×List c7×List (Nat×p8))
 |_,_,[]=>some ([],[],[],[])
 |i,j,v::vs=>if a.contains i then(match HL M j v with
   |some (v',r,c)=>(match cD M a (i+1) (j+1) vs with
    |some (b,d,cs,e)=>some (v'::b,r::d,c::cs,e)
    |none=>none)
   |none=>none)
  else(match JH M (a.contains (i+1000)) v with
   |some (v',f)=>if v'.PM then(match cD M a (i+1) j vs with
    |some (b,d,cs,e)=>some (v'::b,d,cs,f++e)
    |none=>none)else none
   |none=>none)
def yT:List Nat->Bool
 |[]=>true
 |a::l=> !l.contains a && yT l
def Ue(a b:List Nat):Bool:=a.all fun x=> !b.contains x
def Q3(a:List Nat)(nx:Nat)(i:Nat):Nat:=if i<a.length then a.getD i 0 else nx+(i- a.length)
def FH:List Nat->List c7->List (Nat×c7)
 |r::a,c::cs=>(r,c)::FH a cs
 |_,_=>[]
def Cw(Γ:Env)(nx:Nat)(M:Mm)(f:FuncId)(args:List a7)(k:XQ->Prop):Prop:=
 match Γ f with
 |some c=>(match cD M c.hand 0 0 args with
  |some (vs,a,cs,b)=>if yT a && Ue a (N6 b)then
   c.run vs cs (fun v new=>k ⟨v.X5 (Q3 a nx),FH a (cW (Q3 a nx) new),if v.flat && U2 new then []else J9 b,cW (Q3 a nx) (new.drop a.length)⟩)else False
  |none=>False)
 |none=>False
def idx:List Nat->Nat->Nat->Option Nat
 |[],_,_=>none
 |a::l,r,i=>if a=r then some i else idx l r (i+1)
mutual
def a7.dW(l:List Nat):a7->a7
 |.B6 r _=>match idx l r 0 with
  |some i=>.B6 i false
  |none=>.R3
 |.sub r lo len f=>match idx l r 0 with
  |some i=>.sub i lo len f
  |none=>.R3
 |.ptr r o=>match idx l r 0 with
  |some i=>.ptr i o
  |none=>.R3
 |.P9 r a o=>match idx l r 0 with
  |some i=>.P9 i a o
  |none=>.R3
 |.O2 r=>match idx l r 0 with
  |some i=>.O2 i
  |none=>.R3
 |.z8 r=>match idx l r 0 with
  |some i=>.z8 i
  |none=>.R3
 |.P5 t x _=>.P5 t x false
 |.L8 cs=>.L8 (N5 l cs)
 |.agg cs=>.agg (N5 l cs)
 |.I9 cs=>.I9 (N5 l cs)
 |.fn f a b=>.fn f (N5 l a) (N5 l b)
 |.Bu _ _=>.R3
 |v=>v
def N5(l:List Nat):List a7->List a7
 |[]=>[]
 |v::vs=>v.dW l::N5 l vs
end
def c7.dW(l:List Nat):c7->c7
 |.box cells=>.box (N5 l cells)
 |.bx p t n x q=>.bx (N5 l p) t n x (N5 l q)
 |.sl t x=>.sl t x
 |.mp mk x clk=>.mp mk x clk
 |.it m a seen b=>.it (match m with
  |some r=>idx l r 0
  |none=>none) a seen b
 |.F8 _=>.any
 |.any=>.any
def bO:c7->List Nat
 |.box cells=>(cells.map (refs 8)).flatten
 |.bx p _ _ _ q=>((p++q).map (refs 8)).flatten
 |.it (some m) _ _ _=>[m]
 |_=>[]
def BO(M:Mm)(r:Nat):List Nat:=match M r with
 |some (c,.own)=>bO c
 |_=>[]
def gN(M:Mm):Nat->List Nat->List Nat
 |0,l=>l
 |d+1,l=>gN M d (uniq (l.map (BO M)).flatten l)
def gO(M:Mm)(vs:List a7):List Nat:=gN M 6 (uniq ((vs.map (refs 8)).flatten) [])
def dX(M:Mm)(L:List Nat):List Nat->Option (List c7)
 |[]=>some []
 |r::a=>match M r with
  |some (c,.own)=>(match dX M L a with
   |some cs=>some (c.dW L::cs)
   |none=>none)
  |_=>none
def yU(Γ:Env)(nx:Nat)(M:Mm)(f:FuncId)(args:List a7)(k:XQ->Prop):Prop:=
 match Γ f with
 |some c=>(match dX M (gO M args) (gO M args)with
  |some cs=>c.run (N5 (gO M args) args) cs (fun v new=>k ⟨v.X5 (Q3 (gO M args) nx),FH (gO M args) (cW (Q3 (gO M args) nx) new),[],cW (Q3 (gO M args) nx) (new.drop (gO M args).length)⟩)
  |none=>False)
 |none=>False
def a1t(Γ:Env)(f:FuncId):Bool:=match Γ f with
 |some c=>PN c.hand
 |none=>false
def Uf:a7->Bool
 |.z8 _=>true
 |_=>false
def a1u:a7->Bool
 |.W2=>true
 |_=>false
def Cx(M:Mm):a7->Option Prop
 |.P5 _ l _=>some (l=[])
 |.B6 r _=>(match M r with
  |some (.sl _ l,f)=>if f=.dead then none else some (l=[])
  |_=>none)
 |.sub _ _ len _=>some (len=0)
 |_=>none
def a31:a7->Bool
 |.B6 _ _=>true
 |_=>false
def a32:a7->Bool
 |.sub _ _ _ _=>true
 |_=>false
def MY(P:Program)(M:Mm)(c:Call)(ev:Operand->a7)(k:XQ->Prop):Prop:=
 match c.args.toList,c.argTypes.toList with
 |[x],[t]=>(match P.underlying t,ev x with
  |some (.slice e),.sub r lo len _=>(match M r with
   |some (.sl ty l,.own)=>if aE P e ty then lo+len<=l.length/\k ⟨.I9 [],[(r,.sl ty (l.take lo++List.replicate len ty.zero++l.drop (lo+len)))],[],[]⟩else False
   |_=>False)
  |_,_=>False)
 |_,_=>False
def a1v(P:Program)(nx:Nat)(M:Mm)(t:TypeId)(x b:a7)(k:XQ->Prop):Prop:=
 match P.underlying t,x,b with
 |some (.slice e),.B6 r _,.int .i64 b=>(match M r with
  |some (.sl ty l,.own)=>if j7 P e=ty.size then(0<=b/\b<=(l.length:Int))/\k ⟨.B6 nx false,[],[(r,.dead)],[.sl ty (l.take b.toNat)]⟩else False
  |_=>False)
 |_,_,_=>False
def isX(Γ:Env)(P:Program)(X:Nat)(op:Op)(ev:Operand->a7):Bool:=
 match X with
 |0=>false
 |X+1=>(match op with
  |.makeMap t r=>(match X with
   |0=>r.isNone && (gM P t).isSome
   |_=>false)
  |.lookup _ x _ _=>Uf (ev x)
  |.slice _ x lo hi mx=>(match X with
   |2=>lo.isNone && hi.isSome && mx.isNone && a31 (ev x)
   |_=>false)
  |.range _ _=>true
  |.next _ _=>true
  |.entry _=>true
  |.binOp b _ _ y _=>(match b with
   |.eql=>a1u (ev y)
   |_=>false)
  |.call c=>(match c.callee with
   |.builtin b=>(match b with
    |.delete=>(match c.args.toList with
     |x::_=>Uf (ev x)
     |[]=>false)
    |.clear=>(match c.args.toList with
     |x::_=>a32 (ev x)
     |[]=>false)
    |_=>false)
   |.value g=>(match ev g with
    |.fn (.func f) _ _=>(match Γ f with
     |some a=> !a.hand.isEmpty
     |none=>false)
    |_=>false)
   |_=>false)
  |_=>false)
def Ug(Γ:Env)(P:Program)(o:Oper)(ev:Operand->a7)(nx:Nat)(M:Mm)(k:XQ->Prop):Prop:=
 match o.op with
 |.makeMap t r=>(match r,gM P t with
  |none,some mk=>k ⟨.z8 nx,[],[],[.mp mk [] 0]⟩
  |_,_=>False)
 |.lookup t x i n=>(match ev x with
  |.z8 r=>(match M r with
   |some (.mp mk l _,f)=>if gM P t=some mk/\f≠ .dead then(match mk.PL (ev i)with
    |some j=>k ⟨At mk l j n,[],[],[]⟩
    |none=>False)else False
   |_=>False)
  |_=>False)
 |.slice t x lo hi mx=>(match lo,hi,mx with
  |none,some h,none=>a1v P nx M t (ev x) (ev h) k
  |_,_,_=>False)
 |.range t x=>(match ev x with
  |.z8 r=>(match M r with
   |some (.mp mk _ clk,f)=>if gM P t=some mk/\f≠ .dead then k ⟨.ptr nx 0,[],[],[.it (some r) clk [] clk]⟩else False
   |_=>False)
  |_=>False)
 |.next i JI=>(match ev i,JI with
  |.ptr m 0,false=>(match M m with
   |some (.it (some r) a seen d,.own)=>(match M r with
    |some (.mp mk l clk,f)=>if f=.dead\/mk.kt.ints=false then False else((∀e∈l,e.1<a)/\a<=d)/\
     (mleft mk.kt l seen=[]->k ⟨.I9 [.bool false],[],[],[]⟩)/\
     ∀e,e∈mleft mk.kt l seen->k ⟨.I9 [.bool true,mk.Q2 e.2.1,.int mk.kv e.2.2],[(m,.it (some r) a (seen++ [e.1]) clk)],[],[]⟩
    |_=>False)
   |_=>False)
  |_,_=>False)
 |.entry i=>(match ev i with
  |.ptr m 0=>(match M m with
   |some (.it (some r) _ seen d,.own)=>(match M r with
    |some (.mp mk l clk,f)=>if f=.dead\/mk.kt.ints=false then False else(clk=d/\(l.map (·.1)).Nodup)/\∃e,(e∈l/\seen.getLast?=some e.1)/\k ⟨.I9 [mk.Q2 e.2.1,.int mk.kv e.2.2],[],[],[]⟩
    |_=>False)
   |_=>False)
  |_=>False)
 |.call c=>(match c.callee with
  |.builtin .delete=>(match c.args.toList,c.argTypes.toList with
   |[x,i],[t,_]=>(match ev x with
    |.z8 r=>(match M r with
     |some (.mp mk l clk,.own)=>if gM P t=some mk then(match mk.PL (ev i)with
      |some j=>k ⟨.I9 [],[(r,.mp mk (Bx mk.kt j l) clk)],[],[]⟩
      |none=>False)else False
     |_=>False)
    |_=>False)
   |_,_=>False)
  |.builtin .clear=>MY P M c ev k
  |.value g=>(match ev g with
   |.fn (.func f) first cap=>(match a1t Γ f with
    |true=>yU Γ nx M f (first++K8 P c.argTypes.toList (c.args.toList.map ev)++cap) k
    |false=>Cw Γ nx M f (first++K8 P c.argTypes.toList (c.args.toList.map ev)++cap) k)
   |_=>False)
  |_=>False)
 |.binOp b t x y _=>(match b,P.underlying t,ev y,Cx M (ev x)with
  |.eql,some (.slice _),.W2,some p=>∀b:Bool,(b=true->p)->k ⟨.bool b,[],[],[]⟩
  |_,_,_,_=>False)
 |_=>False
inductive M7 where
 |skip
 |quiet (nx:Nat) (q:Q)
 |write (w:W)
 |kQ (nx:Nat) (v:a7) (new:List HO) (set:List (Nat×HO)) (rd:List Nat)
def bB:Mm->List (Nat×HO)->Mm
 |m,[]=>m
 |m,(r,.z)::a=>bB (bN m (r,.dead)) a
 |m,(r,o)::a=>bB (S0 m r (.F8 o,.own)) a
def cE(a:Option Tmp)(v:a7)(b:List (Nat×a7)):List (Nat×a7):=
 match a with
 |some d=>(d,v)::b
 |none=>b
def cF(n:Nat):Option Tmp->Bool
 |some d=>d<n
 |none=>true
abbrev Hand:=List a7->j9->(Bool->j9->Prop)->Prop
def kR(P:Program)(op:Op)(ev:Operand->a7):Option (List a7):=
 match op with
 |.call c=>(match c.callee with
  |.value g=>(match ev g with
   |.J2=>some (K8 P c.argTypes.toList (c.args.toList.map ev))
   |_=>none)
  |_=>none)
 |_=>none
def JJ(Γ:Env)(Y:Option Hand)(X:Nat)(P:Program)(o:Oper)(st:j9)(k:j9->M7->Prop):Prop:=
 if cF st.n o.dst then
  (if isX Γ P X o.op (As st.tmps)then Ug Γ P o (As st.tmps) st.nx (n9 st.M) (fun q=>k {st with tmps:=cE o.dst q.val st.tmps,nx:=st.nx+q.new.length,M:=q.ml st.nx st.M} .skip)
  else if isE o.op then iT P o (As st.tmps) (n9 st.M) (fun w=>k {st with tmps:=cE o.dst w.val st.tmps,M:=RA st.M w.set} (.write w))
  else(match kR P o.op (As st.tmps)with
   |some args=>(match Y with
    |some h=>h args st (fun b a=>k {a with tmps:=cE o.dst (.bool b) a.tmps} .skip)
    |none=>False)
   |none=>O4 Γ P o (As st.tmps) st.nx (n9 st.M) (fun q=>k {st with tmps:=cE o.dst q.val st.tmps,nx:=st.nx+q.new.length,M:=q.ml st.nx st.M} (.quiet st.nx q))))
 else False
def G6(n:Nat):List Oper->Bool
 |[]=>true
 |o::a=>cF n o.dst && G6 n a
def aG(Γ:Env)(Y:Option Hand)(X:Nat)(P:Program)(all:Array Oper):List Oper->j9->List M7->(j9->List M7->Prop)->Prop
 |[],st,e,k=>k st e
 |o::rest,st,e,k=>
  match o.guard with
  |none=>JJ Γ Y X P o st (fun c d=>aG Γ Y X P all rest c (d::e) k)
  |some (j,a)=>match(all[j]?).bind (·.dst)with
   |some d=>match y9 st.tmps d with
    |.bool b=>
     if cF st.n o.dst then
         br (b==a)
          (JJ Γ Y X P o {st with tmps:=(d,.bool a)::st.tmps} (fun c d=>aG Γ Y X P all rest c (d::e) k))
          (aG Γ Y X P all rest {st with tmps:=cE o.dst (.I9 []) ((d,.bool (!a))::st.tmps)} (.skip::e) k)
     else False
    |.I9 []=>if cF st.n o.dst then aG Γ Y X P all rest {st with tmps:=cE o.dst (.I9 []) st.tmps} (.skip::e) k else False
    |_=>False
   |none=>False
def MZ{α:Type}(n:Nat)(f:Nat->α):α:=match n with
 |0=>f 0
 |k+1=>f (k+1)
theorem yV{α:Type}(n:Nat)(f:Nat->α):MZ n f=f n:=by cases n<;>rfl
def HM(a:List Nat):List Nat->Nat->Nat
 |[],m=>m
 |j::d,m=>MZ (Nat.lor m (Nat.lor (2^j) (a.getD j 0))) fun b=>HM a d b
def yW:List Oper->List Nat->List Nat
 |[],a=>a
 |o::r,a=>MZ (HM a ((o.after.toList.filter (Region.binds .any)).map (·.on)) 0) fun m=>yW r (a++ [m])
def FI(ops:List Oper):List Nat:=yW ops []
def mI:List Oper->Nat->Bool
 |[],_=>true
 |o::r,i=>(o.after.toList.all fun e=> !Region.binds .any e||decide (e.on<i)) && mI r (i+1)
def M7.rd:M7->List Nat
 |.skip=>[]
 |.quiet _ q=>q.reads
 |.write w=>w.reads
 |.kQ _ _ _ _ rd=>rd
def uA:Nat->Nat->List Nat
 |_,0=>[]
 |n,k+1=>n::uA (n+1) k
def M7.wr:M7->List Nat
 |.skip=>[]
 |.quiet n q=>q.use.map (·.1)++uA n q.new.length
 |.write w=>w.set.map (·.1)
 |.kQ n _ new set _=>set.map (·.1)++uA n new.length
def By(a b:List Nat):Bool:=a.all fun x=> !b.contains x
def oJ(a b:M7):Bool:=By a.wr b.rd && By a.wr b.wr && By a.rd b.wr
def eK(R:Oper->M7->Oper->M7->Bool)(i:Nat)(c:Oper)(d:M7):List Oper->List M7->List Nat->Bool
 |o2::e,f::g,a::b=>(a.testBit i||R c d o2 f) && eK R i c d e g b
 |_,_,_=>true
def Z4(R:Oper->M7->Oper->M7->Bool):Nat->List Oper->List M7->List Nat->Bool
 |i,o::b,d::c,_::a=>eK R i o d b c a && Z4 R (i+1) b c a
 |_,_,_,_=>true
def S2(ops:Array Oper):Bool:=
 mI ops.toList 0 && Z4 (fun a _ b _=>a.apart ops b) 0 ops.toList (ops.toList.map fun _=>.skip) (FI ops.toList)
def bC(ops:Array Oper)(a:List M7):Bool:=
 if a.all (fun d=>d.wr.isEmpty)then true else Z4 (fun _ b _ c=>oJ b c) 0 ops.toList a (FI ops.toList)
def RB(o:Oper):Bool:=match o.op with
 |.call c=>(match c.callee with
  |.value (.tmp _)=>true
  |_=>false)
 |_=>false
def oU:List Oper->Nat->Option Nat
 |[],_=>none
 |o::a,i=>if RB o then some i else oU a (i+1)
def vU(c:Nat):List Oper->Bool
 |[]=>true
 |o::a=>(match o.guard with
  |some (j,_)=>decide (j<c)
  |none=>true) && vU c a
def qO:Nat->List Nat->Bool
 |_,[]=>true
 |i,m::a=>Nat.beq (Nat.land m (2^i- 1)) (2^i- 1) && qO (i+1) a
def Au(ops:Array Oper):Option Nat:=match oU ops.toList 0 with
 |some c=>if vU c (ops.toList.take c) && qO c ((FI ops.toList).drop c)then some c else none
 |none=>none
def Q4(ops:Array Oper)(c:Nat):Array Oper:=(ops.toList.take c).toArray
def Uh(ops:Array Oper):Bool:=match Au ops with
 |some c=>S2 (Q4 ops c)
 |none=>true
def Code.j3:Code->Bool
 |.region _ ops c=> !c||(S2 ops && Uh ops)
 |.seq a b=>Code.j3 a && Code.j3 b
 |.cond _ a b=>Code.j3 a && Code.j3 b
 |.block _ a=>Code.j3 a
 |.loop a=>Code.j3 a
 |.scope a=>Code.j3 a
 |.rangeFunc _ _ a b=>Code.j3 a && Code.j3 b
 |_=>true
def gP:List (Nat×a7)->Nat->Mem->List (Nat×a7)×Nat×Mem
 |[],n,M=>([],n,M)
 |(t,.R9 ty)::r,n,M=>
  let x:=gP r (n+1) ((n,(.sl ty [],.own))::M)
  ((t,.B6 n false)::x.1,x.2)
 |u::r,n,M=>
  let x:=gP r n M
  (u::x.1,x.2)
def PO(a:List (Nat×a7))(ks:List Nat):List (Nat×a7):=ks.map fun t=>(t,y9 a t)
def N7:List a7->Nat->Mem->List a7×Nat×Mem
 |[],n,M=>([],n,M)
 |.R9 ty::r,n,M=>
  let x:=N7 r (n+1) ((n,(.sl ty [],.own))::M)
  (.B6 n false::x.1,x.2)
 |v::r,n,M=>
  let x:=N7 r n M
  (v::x.1,x.2)
def aS:List Nat->Nat->Mem->Nat×Mem
 |[],n,M=>(n,M)
 |r::a,n,M=>match n9 M r with
  |some (.box cells,.own)=>
   if r<n then
    let x:=N7 cells n M
    aS a x.2.1 ((r,(.box x.1,.own))::x.2.2)
   else aS a n M
  |some (.bx p t c l q,.own)=>
   if r<n then
    let x:=N7 q n M
    aS a x.2.1 ((r,(.bx p t c l x.1,.own))::x.2.2)
   else aS a n M
  |_=>aS a n M
def Ui:c7->List Nat
 |.box cells=>(cells.map (refs 3)).flatten
 |.bx p _ _ _ q=>((p++q).map (refs 3)).flatten
 |.it (some m) _ _ _=>[m]
 |_=>[]
def reach(M:Mem):Nat->List Nat->List Nat
 |0,l=>l
 |d+1,l=>reach M d (uniq ((l.map fun r=>match n9 M r with
  |some (c,_)=>Ui c
  |none=>[]).flatten) l)
def mJ(l:List Nat)(M:Mem):List Nat->Nat->Mem
 |[],_=>[]
 |r::a,i=>match n9 M r with
  |some (c,f)=>(i,(c.dW l,f))::mJ l M a (i+1)
  |none=>mJ l M a (i+1)
def canon(ks:List Nat)(st:j9):j9:=
 let x:=gP (PO st.tmps ks) st.nx st.M
 let a:=uniq ((x.1.map fun u=>refs 3 u.2).flatten++(st.gh.map (refs 3)).flatten) []
 let y:=aS a x.2.1 x.2.2
 let l:=reach y.2 2 a
 {n:=st.n,tmps:=x.1.map fun u=>(u.1,u.2.dW l),nx:=l.length,M:=mJ l y.2 l 0,gh:=N5 l st.gh,s7:=st.s7}
def a7.uB:a7->Bool
 |.B6 _ _=>true
 |.sub _ _ _ _=>true
 |_=>false
def JK(t:Nat)(st:j9):j9:=
 if(y9 st.tmps t).uB then(match view (n9 st.M) 6 (y9 st.tmps t)with
  |some (v,a)=> {st with tmps:=(t,v)::st.tmps,M:=oQ st.M (J9 a)}
  |none=>st)else st
def sJ:List Nat->j9->j9
 |[],st=>st
 |k::ks,st=>if 2000000<=k then JK (k- 2000000) (sJ ks st)else sJ ks st
def K9:Code->Nat
 |.region id _ _=>id
 |.seq a _=>K9 a
 |.block _ a=>K9 a
 |.loop a=>K9 a
 |.scope a=>K9 a
 |_=>0
def iter{σ:Type}(B:(σ->Prop)->σ->Prop):Nat->σ->Prop
 |0,_=>False
 |n+1,s=>B (iter B n) s
def Loop{σ:Type}(B:(σ->Prop)->σ->Prop)(s:σ):Prop:=∃n,iter B n s
inductive VS where
 |int (k:IntKind)
 |bool
 |P5 (t:Ty) (f:Bool)
 |V5 (t:Ty)
 |B6 (r:Nat) (f:Bool)
 |sub (r:Nat) (f:Bool)
 |ptr (r o:Nat)
 |P9 (r o:Nat)
 |O2 (r:Nat)
 |z8 (r:Nat)
 |L8 (l:VS)
 |agg (l:VS)
 |I9 (l:VS)
 |fn (f:FuncId) (a b:VS)
 |W2
 |R9 (t:Ty)
 |U0
 |J2
 |z6
 |R3
 |nl
 |cs (a l:VS)
def VS.den:VS->Type->Type
 |.int _,R=>Int×R
 |.bool,R=>Bool×R
 |.P5 t _,R=>List t.den×R
 |.V5 t,R=>List t.den×R
 |.sub _ _,R=>Nat×Nat×R
 |.P9 _ _,R=>Nat×R
 |.z6,R=>JD×R
 |.L8 l,R=>l.den R
 |.agg l,R=>l.den R
 |.I9 l,R=>l.den R
 |.fn _ a b,R=>a.den (b.den R)
 |.cs a l,R=>a.den (l.den R)
 |_,R=>R
mutual
def a7.shape:a7->VS
 |.R3=>.R3
 |.bool _=>.bool
 |.int k _=>.int k
 |.W2=>.W2
 |.R9 t=>.R9 t
 |.P5 t _ f=>.P5 t f
 |.B6 r f=>.B6 r f
 |.sub r _ _ f=>.sub r f
 |.ptr r o=>.ptr r o
 |.P9 r _ o=>.P9 r o
 |.O2 r=>.O2 r
 |.z8 r=>.z8 r
 |.L8 l=>.L8 (gQ l)
 |.agg l=>.agg (gQ l)
 |.V5 t _=>.V5 t
 |.I9 l=>.I9 (gQ l)
 |.fn (.func f) a b=>.fn f (gQ a) (gQ b)
 |.fn _ _ _=>.R3
 |.U0=>.U0
 |.J2=>.J2
 |.z6 _=>.z6
 |.Bu _ _=>.R3
def gQ:List a7->VS
 |[]=>.nl
 |v::vs=>.cs v.shape (gQ vs)
end
def VS.enc:(s:VS)->(R:Type)->s.den R->List a7×R
 |.int k,_,x=>([.int k x.1],x.2)
 |.bool,_,x=>([.bool x.1],x.2)
 |.P5 t f,_,x=>([.P5 t x.1 f],x.2)
 |.V5 t,_,x=>([.V5 t x.1],x.2)
 |.B6 r f,_,x=>([.B6 r f],x)
 |.sub r f,_,x=>([.sub r x.1 x.2.1 f],x.2.2)
 |.ptr r o,_,x=>([.ptr r o],x)
 |.P9 r o,_,x=>([.P9 r x.1 o],x.2)
 |.O2 r,_,x=>([.O2 r],x)
 |.z8 r,_,x=>([.z8 r],x)
 |.L8 l,R,x=>([.L8 (l.enc R x).1],(l.enc R x).2)
 |.agg l,R,x=>([.agg (l.enc R x).1],(l.enc R x).2)
 |.I9 l,R,x=>([.I9 (l.enc R x).1],(l.enc R x).2)
 |.fn f a b,R,x=>([.fn (.func f) (a.enc (b.den R) x).1 (b.enc R (a.enc (b.den R) x).2).1],(b.enc R (a.enc (b.den R) x).2).2)
 |.W2,_,x=>([.W2],x)
 |.R9 t,_,x=>([.R9 t],x)
 |.U0,_,x=>([.U0],x)
 |.J2,_,x=>([.J2],x)
 |.z6,_,x=>([.z6 x.1],x.2)
 |.R3,_,x=>([.R3],x)
 |.nl,_,x=>([],x)
 |.cs a l,R,x=>((a.enc (l.den R) x).1++(l.enc R (a.enc (l.den R) x).2).1,(l.enc R (a.enc (l.den R) x).2).2)
def Cy{t a:Ty}(h:a=t)(l:List a.den):List t.den:=h▸l
def VS.Uj{R:Type}(k:IntKind)(v:List a7)(r:R):Option (Int×R):=match v with
 |[.int k' n]=>if k'=k then some (n,r)else none
 |_=>none
def VS.Na{R:Type}(v:List a7)(r:R):Option (Bool×R):=match v with
 |[.bool b]=>some (b,r)
 |_=>none
def VS.Nb{R:Type}(t:Ty)(v:List a7)(r:R):Option (List t.den×R):=match v with
 |[.V5 a l]=>if h:a=t then some (Cy h l,r)else none
 |_=>none
def VS.Uk{R:Type}(i:Nat)(f:Bool)(v:List a7)(r:R):Option (R):=match v with
 |[.B6 a b]=>if a=i/\b=f then some r else none
 |_=>none
def VS.Ul{R:Type}(i:Nat)(f:Bool)(v:List a7)(r:R):Option (Nat×Nat×R):=match v with
 |[.sub a lo len b]=>if a=i/\b=f then some (lo,len,r)else none
 |_=>none
def VS.Um{R:Type}(i o:Nat)(v:List a7)(r:R):Option (R):=match v with
 |[.ptr a o']=>if a=i/\o'=o then some r else none
 |_=>none
def VS.Nc{R:Type}(i o:Nat)(v:List a7)(r:R):Option (Nat×R):=match v with
 |[.P9 a n o']=>if a=i/\o'=o then some (n,r)else none
 |_=>none
def VS.Nd{R:Type}(i:Nat)(v:List a7)(r:R):Option (R):=match v with
 |[.O2 a]=>if a=i then some r else none
 |_=>none
def VS.Nf{R:Type}(i:Nat)(v:List a7)(r:R):Option (R):=match v with
 |[.z8 a]=>if a=i then some r else none
 |_=>none
def VS.Ng{R:Type}(v:List a7)(r:R):Option (R):=match v with
 |[.W2]=>some r
 |_=>none
def VS.Nh{R:Type}(t:Ty)(v:List a7)(r:R):Option (R):=match v with
 |[.R9 a]=>if a=t then some r else none
 |_=>none
def VS.HN{R:Type}(v:List a7)(r:R):Option (R):=match v with
 |[.U0]=>some r
 |_=>none
def VS.Cz{R:Type}(v:List a7)(r:R):Option (R):=match v with
 |[.J2]=>some r
 |_=>none
def VS.Un{R:Type}(v:List a7)(r:R):Option (JD×R):=match v with
 |[.z6 p]=>some (p,r)
 |_=>none
def VS.Uo{R:Type}(v:List a7)(r:R):Option (R):=match v with
 |[.R3]=>some r
 |_=>none
def VS.a1w{R:Type}(v:List a7)(r:R):Option (R):=match v with
 |[]=>some r
 |_=>none
def VS.Up{R:Type}(t:Ty)(f:Bool)(v:List a7)(r:R):Option (List t.den×R):=match v with
 |[.P5 a l b]=>if h:a=t then(if b=f then some (Cy h l,r)else none)else none
 |_=>none
def VS.HP:List a7->Option (List a7)
 |[.L8 l]=>some l
 |_=>none
def VS.PQ:List a7->Option (List a7)
 |[.agg l]=>some l
 |_=>none
def VS.PS:List a7->Option (List a7)
 |[.I9 l]=>some l
 |_=>none
def VS.Yb(f:FuncId):List a7->Option (List a7×List a7)
 |[.fn (.func c) a b]=>if c=f then some (a,b)else none
 |_=>none
def VS.Bz{A B:Type}(x:Option A)(f:A->Option B):Option B:=match x with
 |some a=>f a
 |none=>none
def VS.HQ:List a7->Option (a7×List a7)
 |x::xs=>some (x,xs)
 |_=>none
def VS.dec:(s:VS)->List a7->(R:Type)->R->Option (s.den R)
 |.int k,v,_,r=>VS.Uj k v r
 |.bool,v,_,r=>VS.Na v r
 |.V5 t,v,_,r=>VS.Nb t v r
 |.B6 i f,v,_,r=>VS.Uk i f v r
 |.sub i f,v,_,r=>VS.Ul i f v r
 |.ptr i o,v,_,r=>VS.Um i o v r
 |.P9 i o,v,_,r=>VS.Nc i o v r
 |.O2 i,v,_,r=>VS.Nd i v r
 |.z8 i,v,_,r=>VS.Nf i v r
 |.W2,v,_,r=>VS.Ng v r
 |.R9 t,v,_,r=>VS.Nh t v r
 |.U0,v,_,r=>VS.HN v r
 |.J2,v,_,r=>VS.Cz v r
 |.z6,v,_,r=>VS.Un v r
 |.R3,v,_,r=>VS.Uo v r
 |.nl,v,_,r=>VS.a1w v r
 |.P5 t f,v,_,r=>VS.Up t f v r
 |.L8 l,v,R,r=>VS.Bz (VS.HP v) fun c=>l.dec c R r
 |.agg l,v,R,r=>VS.Bz (VS.PQ v) fun c=>l.dec c R r
 |.I9 l,v,R,r=>VS.Bz (VS.PS v) fun c=>l.dec c R r
 |.fn f a b,v,R,r=>VS.Bz (VS.Yb f v) fun c=>VS.Bz (b.dec c.2 R r) fun y=>a.dec c.1 (b.den R) y
 |.cs a l,v,R,r=>VS.Bz (VS.HQ v) fun c=>VS.Bz (l.dec c.2 R r) fun y=>a.dec [c.1] (l.den R) y
inductive CS where
 |box (l:VS)
 |bx (p:VS) (t:Ty) (n:Nat) (q:VS)
 |sl (t:Ty)
 |mp (mk:MK)
 |it (m:Option Nat)
def CS.den:CS->Type->Type
 |.box l,R=>l.den R
 |.bx p t _ q,R=>p.den (q.den (List t.den×R))
 |.sl t,R=>List t.den×R
 |.mp mk,R=>l6 mk.kt×Nat×R
 |.it _,R=>Nat×List Nat×Nat×R
def c7.shape:c7->CS
 |.box l=>.box (gQ l)
 |.bx p t n _ q=>.bx (gQ p) t n (gQ q)
 |.sl t _=>.sl t
 |.mp mk _ _=>.mp mk
 |.it m _ _ _=>.it m
 |.F8 _=>.it none
 |.any=>.it none
def CS.enc:(c:CS)->(R:Type)->c.den R->c7×R
 |.box l,R,x=>(.box (l.enc R x).1,(l.enc R x).2)
 |.bx p t n q,R,x=>(.bx (p.enc (q.den (List t.den×R)) x).1 t n (q.enc (List t.den×R) (p.enc (q.den (List t.den×R)) x).2).2.1 (q.enc (List t.den×R) (p.enc (q.den (List t.den×R)) x).2).1,(q.enc (List t.den×R) (p.enc (q.den (List t.den×R)) x).2).2.2)
 |.sl t,_,x=>(.sl t x.1,x.2)
 |.mp mk,_,x=>(.mp mk x.1 x.2.1,x.2.2)
 |.it m,_,x=>(.it m x.1 x.2.1 x.2.2.1,x.2.2.2)
def Y'{mk a:MK}(h:a=mk)(l:l6 a.kt):l6 mk.kt:=h▸l
def CS.dec:(c:CS)->c7->(R:Type)->R->Option (c.den R)
 |.box l,c,R,r=>(match c with
  |.box f=>l.dec f R r
  |_=>none)
 |.bx p t n q,c,R,r=>(match c with
  |.bx g d i l j=>if h:d=t then(if i=n then VS.Bz (q.dec j (List t.den×R) (Cy h l,r)) fun y=>p.dec g (q.den (List t.den×R)) y else none)else none
  |_=>none)
 |.sl t,c,_,r=>(match c with
  |.sl d l=>if h:d=t then some (Cy h l,r)else none
  |_=>none)
 |.mp mk,c,_,r=>(match c with
  |.mp e l clk=>if h:e=mk then some (Y' h l,clk,r)else none
  |_=>none)
 |.it m,c,_,r=>(match c with
  |.it k a b c=>if k=m then some (a,b,c,r)else none
  |_=>none)
def iU:List Nat->List a7->List (Nat×a7)
 |t::ts,v::vs=>(t,v)::iU ts vs
 |_,_=>[]
def eX:List (Nat×(CS×p8))->Type->Type
 |[],R=>R
 |u::a,R=>u.2.1.den (eX a R)
def Ni:(l:List (Nat×(CS×p8)))->(R:Type)->eX l R->Mem×R
 |[],_,x=>([],x)
 |u::a,R,x=>((u.1,((u.2.1.enc (eX a R) x).1,u.2.2))::(Ni a R (u.2.1.enc (eX a R) x).2).1,(Ni a R (u.2.1.enc (eX a R) x).2).2)
def Yc:(l:List (Nat×(CS×p8)))->Mem->(R:Type)->R->Option (eX l R)
 |[],m,_,r=>(match m with
  |[]=>some r
  |_=>none)
 |u::a,m,R,r=>(match m with
  |x::xs=>if x.1=u.1/\x.2.2=u.2.2 then(match Yc a xs R r with
   |some y=>u.2.1.dec x.2.1 (eX a R) y
   |none=>none)else none
  |_=>none)
structure Shape where
 n:Nat
 ts:List Nat
 vs:VS
 nx:Nat
 M:List (Nat×(CS×p8))
 gh:VS
 s7:Option I3
def Shape.den(S:Shape):Type:=S.vs.den (S.gh.den (eX S.M Unit))
def shapeOf(st:j9):Shape:=⟨st.n,st.tmps.map (·.1),gQ (st.tmps.map (·.2)),st.nx,st.M.map fun u=>(u.1,(u.2.1.shape,u.2.2)),gQ st.gh,st.s7⟩
def Shape.enc(S:Shape)(x:S.den):j9:=
 {n:=S.n,tmps:=iU S.ts (S.vs.enc (S.gh.den (eX S.M Unit)) x).1,nx:=S.nx,M:=(Ni S.M Unit (S.gh.enc (eX S.M Unit) (S.vs.enc (S.gh.den (eX S.M Unit)) x).2).2).1,gh:=(S.gh.enc (eX S.M Unit) (S.vs.enc (S.gh.den (eX S.M Unit)) x).2).1,s7:=S.s7}
def Shape.dec(S:Shape)(st:j9):Option S.den:=
 if st.n=S.n/\st.nx=S.nx/\st.tmps.map (·.1)=S.ts/\st.s7=S.s7 then(match Yc S.M st.M Unit ()with
  |some y=>(match S.gh.dec st.gh (eX S.M Unit) y with
   |some z=>S.vs.dec (st.tmps.map (·.2)) (S.gh.den (eX S.M Unit)) z
   |none=>none)
  |none=>none)else none
def Z'(S:Shape)(ks:List Nat)(a:j9->(I3->j9->Prop)->Prop)(s0:j9)(k:I3->j9->Prop):Prop:=
 match S.dec s0 with
 |some x=>Loop (fun K x=>a (S.enc x) (fun e b=>match e with
  |.normal=>(match S.dec (canon ks (sJ ks b))with
   |some y=>K y
   |none=>False)
  |e=>k e b)) x
 |none=>False
def CA:List a7->Nat->List (Nat×a7)
 |[],_=>[]
 |v::vs,i=>(i,v)::CA vs (i+1)
mutual
def a7.yX:a7->Bool
 |.J2=>false
 |.L8 cs=>eY cs
 |.agg cs=>eY cs
 |.I9 cs=>eY cs
 |.fn _ a b=>eY a && eY b
 |_=>true
def eY:List a7->Bool
 |[]=>true
 |v::vs=>v.yX && eY vs
end
def c7.yX:c7->Bool
 |.box cs=>eY cs
 |.bx p _ _ _ q=>eY p && eY q
 |_=>true
def FJ:List c7->Bool
 |[]=>true
 |c::cs=>c.yX && FJ cs
def CB:Mem->Bool
 |[]=>true
 |u::a=>u.2.1.yX && CB a
def PT:List Oper->Bool
 |[]=>false
 |o::a=>(match o.op with
  |.lookup .. =>true
  |_=>false)||PT a
def HS:Op->Bool
 |.move _=>true
 |.assign _=>true
 |.load _ _=>true
 |.fieldAddr _ _ _=>true
 |.extract _ _=>true
 |_=>false
def Nj:a7->Bool
 |.ptr _ _=>true
 |.L8 _=>true
 |.O2 _=>true
 |_=>false
def gR(Γ:Env)(P:Program):List Oper->j9->(j9->Prop)->Prop
 |[],st,k=>k st
 |o::rest,st,k=>if cF st.n o.dst && o.guard.isNone then(match o.op with
  |.lookup t x i a=>X' P t (As st.tmps x) (As st.tmps i) a (fun v=>gR Γ P rest {st with tmps:=cE o.dst v st.tmps} k)
  |.nilCheck x=>if Nj (As st.tmps x)then gR Γ P rest {st with tmps:=cE o.dst (As st.tmps x) st.tmps} k else False
  |op=>if HS op then O4 Γ P o (As st.tmps) st.nx (n9 st.M) (fun q=>if q.new.isEmpty && q.use.isEmpty then gR Γ P rest {st with tmps:=cE o.dst q.val st.tmps} k else False)else False)else False
inductive Av where
 |top
 |it (h:Hand)
 |rd
def Av.hand:Av->Option Hand
 |.it h=>some h
 |_=>none
def Av.flat:Av->Bool
 |.rd=>false
 |_=>true
def setArgs:List Nat->List a7->List (Nat×a7)->List (Nat×a7)
 |p::ps,v::vs,a=>setArgs ps vs ((p,v)::a)
 |_,_,a=>a
def I3.Uq:I3->Bool
 |.normal=>true
 |_=>false
def I3.left:I3->Option I3
 |.normal=>none
 |e=>some e
def Gp(n:Nat):List Nat->Bool
 |[]=>true
 |a::l=>decide (a<n) && Gp n l
def CC(f:Nat)(N6 ps:List Nat)(b c:j9->(I3->j9->Prop)->Prop):Hand:=fun args a kk=>
 if a.s7=none/\args.length=ps.length/\Gp f ps=true/\eY args=true/\CB a.M=true then
  b {n:=f,tmps:=setArgs ps args (iU N6 (a.gh.take N6.length)),nx:=a.nx,M:=a.M,gh:=(dedup (a.tmps.map (·.1))).map (y9 a.tmps)++a.gh,s7:=none}
   (fun e g=>match e with
    |.normal=>c g (fun e d=>if CB d.M=true then kk e.Uq {n:=a.n,tmps:=iU (dedup (a.tmps.map (·.1))) (d.gh.take (dedup (a.tmps.map (·.1))).length),nx:=d.nx,M:=d.M,gh:=d.gh.drop (dedup (a.tmps.map (·.1))).length,s7:=e.left} else False)
    |_=>False)
 else False
abbrev Iter:=Hand->FuncId->List a7->j9->(j9->Prop)->Prop
def CD(d:Iter)(g:Operand)(ps:List Nat)(a c:j9->(I3->j9->Prop)->Prop)(s0:j9)(k:I3->j9->Prop):Prop:=
 match As s0.tmps g with
 |.fn (.func e) [] cap=>if eY cap=true/\CB s0.M=true then
  d (CC s0.n (s0.tmps.map (·.1)) ps a c) e (.J2::cap) s0 (fun b=>
   if CB b.M=true then
     k (b.s7.getD .normal) {n:=s0.n,tmps:=iU (s0.tmps.map (·.1)) (b.gh.take (s0.tmps.map (·.1)).length),nx:=b.nx,M:=b.M,gh:=b.gh.drop (s0.tmps.map (·.1)).length,s7:=s0.s7}
   else False)else False
 |_=>False
def a0a:List Nat->Nat
 |[]=>1
 |k::_=>cond (Nat.beq k 777) 3 2
def vV(a:Bool)(Y:Option Hand)(ops:Array Oper):Option (Hand×Nat):=match a,Y with
 |true,some h=>(match Au ops with
  |some c=>some (h,c)
  |none=>none)
 |_,_=>none
def Gq(Γ:Env)(P:Program)(d:Nat->List Nat)(l:Iter):Code->Av->j9->(I3->j9->Prop)->Prop
 |.skip,_,st,k=>k .normal st
 |.region _ ops j,Y,st,k=>if G6 st.n ops.toList then if j && (Y.flat && (Nat.beq (a0a (d 999999)) 2 && PT ops.toList))then(if Region.lexB .any ops then gR Γ P ops.toList st (fun f=>k .normal f)else False)else(match vV j Y.hand ops with
  |some (h,c)=>aG Γ none 0 P (Q4 ops c) (Q4 ops c).toList st [] (fun f q=>if bC (Q4 ops c) q.reverse then aG Γ (some h) 0 P ops (ops.toList.drop c) f [] (fun p _=>k .normal p)else False)
  |none=>aG Γ (if j then none else Y.hand) (if j then 0 else a0a (d 999999)) P ops ops.toList st [] (fun f q=>if j then(if bC ops q.reverse then k .normal f else False)else k .normal f))else False
 |.seq a b,Y,st,k=>Gq Γ P d l a Y st (fun e f=>match e with
  |.normal=>Gq Γ P d l b Y f k
  |e=>k e f)
 |.cond c a b,Y,st,k=>match As st.tmps c with
  |.bool x=>br x (Gq Γ P d l a Y st k) (Gq Γ P d l b Y st k)
  |_=>False
 |.block id c,Y,st,k=>Gq Γ P d l c Y st (fun e f=>match e with
  |.exit i=>if i=id then k .normal f else k (.exit i) f
  |e=>k e f)
 |.loop c,Y,st,k=>Z' (shapeOf (canon (d (K9 c)) (sJ (d (K9 c)) st))) (d (K9 c)) (fun s k'=>Gq Γ P d l c Y s k') (canon (d (K9 c)) (sJ (d (K9 c)) st)) k
 |.exit id,_,st,k=>k (.exit id) st
 |.ret,_,st,k=>k .ret st
 |.scope c,Y,st,k=>Gq Γ P d l c Y st k
 |.label _,_,st,k=>k .normal st
 |.rangeFunc g ps m o,_,st,k=>CD l g ps.toList (fun s k'=>Gq Γ P d l m .rd s k') (fun s k'=>Gq Γ P d l o .rd s k') (canon (d (1000+K9 o)) st) k
 |_,_,_,_=>False
def Gr:Iter:=fun _ _ _ _ _=>False
def PU(Γ:Env)(P:Program)(kt:FuncId->Nat->List Nat)(d:Iter):Iter:=fun h b args s0 k=>
 match P.funcs[b]? with
 |some a=>(match a.body with
  |some c=>if Code.j3 c=true/\a.results.size=0/\(a.name== "runtime.NumGoroutine")=false then Gq Γ P (kt b) d c (.it h) {n:=max args.length a.ntmps,tmps:=CA args 0,nx:=s0.nx,M:=s0.M,gh:=(s0.tmps.map (·.1)).map (y9 s0.tmps)++s0.gh,s7:=none}
   (fun e s=>match e with
    |.normal=>k s
    |.ret=>k s
    |.exit _=>False)else False
  |none=>False)
 |none=>False
def Ur(a:List Nat):a7->Bool
 |.B6 r _=>a.contains r
 |.sub r _ _ _=>a.contains r
 |.z8 r=>a.contains r
 |_=>false
mutual
def a7.aH:a7->Bool
 |.bool _=>true
 |.int _ _=>true
 |.W2=>true
 |.R9 _=>true
 |.P5 _ _ _=>true
 |.V5 _ _=>true
 |.U0=>true
 |.L8 cs=>eZ cs
 |.agg cs=>eZ cs
 |.I9 cs=>eZ cs
 |.fn _ a b=>eZ a && eZ b
 |_=>false
def eZ:List a7->Bool
 |[]=>true
 |a::b=>a.aH && eZ b
end
def Nk(b:Bool)(m:Mm)(a:List Nat)(v:a7)(n:Nat):Option (a7×List c7×List (Nat×p8)):=
 if Ur a v then some (v.dW a,[],[])else
 match b,v with
 |false,.B6 r _=>(match m r with
  |some (.sl t l,.own)=>some (.B6 n false,[.sl t l],[(r,.dead)])
  |_=>none)
 |false,.z8 r=>(match m r with
  |some (.mp mk l clk,.own)=>some (.z8 n,[.mp mk l clk],[(r,.dead)])
  |_=>none)
 |false,.R9 t=>some (.B6 n false,[.sl t []],[])
 |_,.P5 t l true=>some (.P5 t l true,[],[])
 |_,.agg cs=>if eZ cs then some (.agg cs,[],[])else(match view m 6 (.agg cs)with
  |some (v',c)=>some (v'.dW a,[],J9 c)
  |none=>none)
 |_,v=>(match view m 6 v with
  |some (v',c)=>some (v'.dW a,[],J9 c)
  |none=>none)
def yY(a:Bool)(d:List Nat):Mm->List a7->Nat->Option (List a7×List c7)
 |_,[],_=>some ([],[])
 |m,v::vs,n=>match Nk a m d v n with
  |some (v',c,u)=>match yY a d (y7 m u) vs (n+c.length)with
   |some (b,cs)=>some (v'::b,c++cs)
   |none=>none
  |none=>none
def Yd(P:Program)(m:Mm)(b:List (Nat×a7)):ResultVar->Option a7
 |.tmp t=>some (y9 b t)
 |.cell a t=>match y9 b a with
  |.ptr r off=>match m r with
   |some (.box cells,f)=>if f=.dead then none else FC P t (cells.drop off)
   |_=>none
  |.O2 r=>(match m r,P.underlying t with
   |some (.sl ty l,f),some (.array _ _)=>if f=.dead then none else some (.V5 ty l)
   |_,_=>none)
  |_=>none
def jE(P:Program)(m:Mm)(b:List (Nat×a7)):List ResultVar->Prop->Prop
 |[],q=>q
 |r::c,q=>match r with
  |.tmp _=>jE P m b c q
  |.cell a t=>match y9 b a with
   |.O2 r=>(match m r with
    |some (.sl ty l,_)=>l.length*ty.size=j7 P t/\jE P m b c q
    |_=>jE P m b c q)
   |_=>jE P m b c q
def uC(P:Program)(m:Mm)(a:List (Nat×a7)):List ResultVar->Option (List a7)
 |[]=>some []
 |r::b=>match Yd P m a r,uC P m a b with
  |some v,some vs=>some (v::vs)
  |_,_=>none
def sZ:a7->Option Nat
 |.B6 r _=>some r
 |.z8 r=>some r
 |_=>none
def sameKind:c7->c7->Bool
 |.sl t _,.sl b _=>decide (t=b)
 |.mp mk _ _,.mp a _ _=>decide (mk=a)
 |_,_=>false
def bD(m:Mm):List a7->List c7->Option (List Nat×List c7)
 |[],[]=>some ([],[])
 |v::vs,c::cs=>match sZ v with
  |some r=>(match m r with
   |some (c',.own)=>if sameKind c c' then(match bD m vs cs with
    |some (b,a)=>some (r::b,c'::a)
    |none=>none)else none
   |_=>none)
  |none=>none
 |_,_=>none
def qP:List Nat->List (Nat×p8)
 |[]=>[]
 |r::a=>(r,.dead)::qP a
def Ye(b:Bool)(P:Program)(c:Func)(d:List c7)(st:j9)(k:a7->List c7->Prop):Prop:=
 match bD (n9 st.M) st.gh d with
 |some (e,a)=>if yT e then(match uC P (n9 st.M) st.tmps c.results.toList with
  |some vs=>jE P (n9 st.M) st.tmps c.results.toList (match yY b e (y7 (n9 st.M) (qP e)) (K8 P c.resultTypes.toList vs) a.length with
   |some ([v],cs)=>if v.yX && FJ cs then k v (a++cs)else False
   |some (vs,cs)=>if eY vs && FJ cs then k (.I9 vs) (a++cs)else False
   |none=>False)
  |none=>False)else False
 |none=>False
def BA:List c7->Nat->Mem
 |[],_=>[]
 |c::cs,i=>(i,(c,.own))::BA cs (i+1)
def X6:List a7->List a7
 |[]=>[]
 |v::vs=>match v with
  |.B6 r f=>.B6 r f::X6 vs
  |.z8 r=>.z8 r::X6 vs
  |_=>X6 vs
def kS:List a7->Nat->List c7->Bool
 |[],_,[]=>true
 |v::vs,i,c::cs=>(match v,c with
  |.B6 r _,.sl _ _=>decide (r=i)
  |.z8 r,.mp _ _ _=>decide (r=i)
  |_,_=>false) && kS vs (i+1) cs
 |_,_,_=>false
def awpF(Γ:Env)(P:Program)(kt:FuncId->Nat->List Nat)(f:FuncId)(b:Bool)(d:Func)(a:List a7)(cs:List c7)(k:a7->List c7->Prop):Prop:=
 match d.body with
 |some c=>if eY a && FJ cs && kS (X6 a) 0 cs then Gq Γ P (kt f) (PU Γ P kt Gr) c .top {n:=max a.length d.ntmps,tmps:=CA a 0,nx:=cs.length,M:=BA cs 0,gh:=X6 a,s7:=none} (fun e st=>match e with
  |.normal=>Ye b P d cs st k
  |.ret=>Ye b P d cs st k
  |.exit _=>False)else False
 |none=>False
attribute [irreducible] awpF
def Us:List c7->Nat->Option (List a7)
 |[],_=>some []
 |c::cs,i=>match c,Us cs (i+1)with
  |.sl _ _,some a=>some (.B6 i false::a)
  |.mp _ _ _,some a=>some (.z8 i::a)
  |.box _,some a=>some (.ptr i 0::a)
  |.bx _ _ _ _ _,some a=>some (.ptr i 0::a)
  |_,_=>none
def S3:a7->Option Nat
 |.B6 r _=>some r
 |.z8 r=>some r
 |.ptr r _=>some r
 |_=>none
def yZ:List a7->Option (List Nat)
 |[]=>some []
 |v::vs=>match S3 v,yZ vs with
  |some r,some a=>some (r::a)
  |_,_=>none
def graphR(M:Mm)(vs:List a7)(a:List Nat):List Nat:=gN M 6 (uniq ((vs.map (refs 8)).flatten) a)
attribute [irreducible] graphR
def Ut(P:Program)(a:Func)(st:j9)(k:a7->List c7->Prop):Prop:=
 match yZ st.gh with
 |some b=>if yT b then(match uC P (n9 st.M) st.tmps a.results.toList with
  |some vs=>jE P (n9 st.M) st.tmps a.results.toList
   (match dX (n9 st.M) (graphR (n9 st.M) (K8 P a.resultTypes.toList vs) b) (graphR (n9 st.M) (K8 P a.resultTypes.toList vs) b)with
   |some cs=>if FJ cs then(match N5 (graphR (n9 st.M) (K8 P a.resultTypes.toList vs) b) (K8 P a.resultTypes.toList vs)with
    |[v]=>if v.yX then k v cs else False
    |us=>if eY us then k (.I9 us) cs else False)else False
   |none=>False)
  |none=>False)else False
 |none=>False
def awpG(Γ:Env)(P:Program)(kt:FuncId->Nat->List Nat)(f:FuncId)(b:Func)(a:List a7)(cs:List c7)(k:a7->List c7->Prop):Prop:=
 match b.body,Us cs 0 with
 |some c,some d=>if eY a && FJ cs then Gq Γ P (kt f) (PU Γ P kt Gr) c .top {n:=max a.length b.ntmps,tmps:=CA a 0,nx:=cs.length,M:=BA cs 0,gh:=d,s7:=none} (fun e st=>match e with
  |.normal=>Ut P b st k
  |.ret=>Ut P b st k
  |.exit _=>False)else False
 |_,_=>False
attribute [irreducible] awpG
end Go.Abs
end
section
namespace Go.Abs
def sM:List CS->Type->Type
 |[],R=>R
 |c::cs,R=>c.den (sM cs R)
def Uu:(l:List CS)->(R:Type)->sM l R->List c7×R
 |[],_,x=>([],x)
 |c::cs,R,x=>((c.enc (sM cs R) x).1::(Uu cs R (c.enc (sM cs R) x).2).1,(Uu cs R (c.enc (sM cs R) x).2).2)
def Nl:(l:List CS)->List c7->(R:Type)->R->Option (sM l R)
 |[],v,_,r=>(match v with
  |[]=>some r
  |_=>none)
 |c::cs,v,R,r=>(match v with
  |x::xs=>(match Nl cs xs R r with
   |some y=>c.dec x (sM cs R) y
   |none=>none)
  |_=>none)
structure Var where
 S:VS
 C:List CS
 pre:S.den (sM C Unit)->Prop
 res:S.den (sM C Unit)->sX
abbrev Var.D(v:Var):Type:=v.S.den (sM v.C Unit)
def Var.p(v:Var)(x:v.D):Prop:=v.pre x
def Var.dec(v:Var)(a:List a7)(cs:List c7):Option v.D:=match Nl v.C cs Unit ()with
 |some y=>v.S.dec a (sM v.C Unit) y
 |none=>none
def Var.args(v:Var)(x:v.D):List a7:=(v.S.enc (sM v.C Unit) x).1
def Var.B2(v:Var)(x:v.D):List c7:=(Uu v.C Unit (v.S.enc (sM v.C Unit) x).2).1
def HT:List Var->List a7->List c7->Prop
 |[],_,_=>False
 |v::vs,a,cs=>match v.dec a cs with
  |some x=>v.p x
  |none=>HT vs a cs
def HU:List Var->List a7->List c7->sX
 |[],_,_=>.leaf .R3 []
 |v::vs,a,cs=>match v.dec a cs with
  |some x=>v.res x
  |none=>HU vs a cs
def CE:Nat->Nat->List Nat
 |_,0=>[]
 |i,n+1=>i::CE (i+1) n
def VS.hand:VS->Nat->List Nat
 |.cs a l,i=>(match a with
  |.B6 _ _=>[i]
  |.z8 _=>[i]
  |.R9 _=>[i+1000]
  |_=>[])++l.hand (i+1)
 |_,_=>[]
def a1x:List Var->List Nat
 |[]=>[]
 |v::_=>v.S.hand 0
def N9(vs:List Var):V6 where
 pre:=fun Bw cs=>HT vs (N5 (CE 0 cs.length) Bw) cs
 res:=fun Bw cs=>HU vs (N5 (CE 0 cs.length) Bw) cs
 hand:=a1x vs
def iV(vs:List Var):V6:=⟨(N9 vs).pre,(N9 vs).res,[9000]⟩
def m4:List (FuncId×V6)->Env
 |[],_=>none
 |(g,c)::l,f=>if g=f then some c else m4 l f
end Go.Abs
end
section
namespace Go.Abs.T1
def lk{α:Type}(d:α):List (Nat×α)->Nat->α
 |[],_=>d
 |(i,x)::r,k=>if i=k then x else lk d r k
def keeps:List (Nat×List (Nat×List Nat)):=[
 (3,[(9,[2,3,4,10,12,15,18]),(14,[2,3,4,10,12,15,19])]),
 (4,[(7,[1,3,4]),(16,[1,5,6])]),
 (6,[(4,[1,2,4,7,8,9,10]),(8,[1,2,4,7,8,9,11]),(12,[1,2,4,7,8,9,11,12,13])]),
 (10,[(3,[0,1,5,6])]),
 (13,[(3,[1,3,4])]),
 (19,[(5,[2,14,15,16])]),
 (20,[(3,[0,1,7,8])]),
 (22,[(6,[0,2,8,9,10,11,27,28,32,33]),(1010,[0,2,8,9,10,11,27,28,31,32,33])]),
 (71,[(7,[1,3,25,26,27])]),
 (73,[(3,[1,3,18,19]),(9,[1,3,5,45,46,47]),(12,[1,3,5,45,46,47,51,52,53])]),
 (76,[(5,[0,3,4,5,6,7,11,12,16,17]),(1010,[0,3,4,5,6,7,11,12,15,16,17]),(17,[4,5,54,55]),(21,[4,5,8])]),
 (79,[(3,[1,5,12,13,14])]),
 (81,[(1007,[3,4,5,6,7,8,23,24])]),
 (86,[(3,[0,3,9,10,11]),(11,[6,25,26,27])]),
 (109,[(2,[0,1,4,5,6])]),
 (124,[(3,[0,3,9,10,11]),(11,[6,25,26,27])]),
 (127,[(1,[0,2,3])]),
 (128,[(1,[0,1,8,9]),(4,[0,1,3,8,9,13,14])]),
 (130,[(999999,[777]),(3,[0,3,18]),(9,[3,5,28,29,30]),(17,[3,5,66,67]),(23,[3,5,13,14,66,67])]),
 (131,[(3,[1,4,5,12,13,14])]),
 (144,[(2,[0,1,7,8])]),
 (146,[(2,[0,1,7,8])]),
 (148,[(2,[0,1,7,8])]),
 (156,[(1,[0,5,6,7])])]
def kt(f k:Nat):List Nat:=lk [] (lk [] keeps f) k
end Go.Abs.T1
end
section
namespace Go.Abs.T1
abbrev m9:=Int×Int×Int
abbrev oV:Nat:=1152921504606846976
def indexOf{α:Type}(p:α->Bool):List α->Int
 |[]=> -1
 |x::l=>if p x then 0 else(if indexOf p l<0 then-1 else indexOf p l+1)
def I8(lo hi y:Int):Bool:=decide (y<lo\/hi<y)
def D7(lo hi:Int)(l:List Int):Bool:=l.any (I8 lo hi)
def bF(lo hi a b:Int):Bool:=decide (a<=lo/\lo<=hi/\hi<=b)
def gS(l:List m9):Bool:=decide (l.length=0\/12<l.length)
def dP(lots:Int)(s:m9):Bool:=decide (s.1<0\/lots<=s.1)|| !bF s.2.1 s.2.2 (-1000) 1000
def S4(lo hi lots:Int)(a:List (List m9)):Int:=
 if bF lo hi 0 50=false then 3 else if lots<1\/6<lots\/4<a.length then 6 else if a.any gS then 6 else if 12<a.flatten.length then 6 else if a.flatten.any (dP lots)then 3 else 0
def w8(a:List Int)(b:Int):Int:=if a=[]then 0 else a.getD (b.toNat % a.length) 0
def B1(lots:Int)(a:List Int):List Int:=(List.range lots.toNat).map fun(i:Nat)=>w8 a (i:Int) % 1001
def N1(lo hi lots:Int)(a td:List Int)(k:Nat):Int:=if k=0 then 0 else td.getD (td.length- 1) 0+lo+w8 a ((td.length:Int)+lots) % (hi- lo+1)
def mK(lo hi lots:Int)(a:List Int)(st:List m9×List Int)(s:m9):List m9×List Int:=
 (st.1++ [(s.1,min s.2.1 ((B1 lots a).getD s.1.toNat 0- N1 lo hi lots a st.2 st.1.length),max s.2.2 ((B1 lots a).getD s.1.toNat 0- N1 lo hi lots a st.2 st.1.length))],st.2++ [N1 lo hi lots a st.2 st.1.length])
def a33(lo hi lots:Int)(a:List Int)(l:List m9)(td:List Int):List m9×List Int:=l.foldl (mK lo hi lots a) ([],td)
def JL(lo hi lots:Int)(a:List Int)(st:List (List m9)×List Int)(l:List m9):List (List m9)×List Int:=(st.1++ [(a33 lo hi lots a l st.2).1],(a33 lo hi lots a l st.2).2)
def Gs(lo hi lots:Int)(a:List Int)(b:List (List m9)):List (List m9)×List Int:=b.foldl (JL lo hi lots a) ([],[])
def L4(lo hi lots:Int)(a:List Int)(b:List (List m9)):List (List m9):=(Gs lo hi lots a b).1
def a34(lo hi lots:Int)(a:List Int)(b:List (List m9)):List Int:=(Gs lo hi lots a b).2
def O5(lo hi a b:Int):Bool:= !D7 a b [lo,hi] && decide (lo<=hi)
def O6(lots:Int)(s:m9):Bool:=D7 0 (lots- 1) [s.1]|| !O5 s.2.1 s.2.2 (-1000) 1000
def H9(lo hi lots:Int)(ss:List (List m9)):Int:=
 if O5 lo hi 0 50=false then 3 else if D7 1 6 [lots]=true\/4<ss.length then 6 else if fA ss 0 then 6 else if ss.flatten.any (O6 lots)then 3 else 0
where
 fA:List (List m9)->Int->Bool
  |[],_=>false
  |l::r,n=>decide (l.length=0\/12<n+l.length)||fA r (n+l.length)
abbrev aI:=Int×Int
def P4(l:aI):Bool:=D7 0 100 [l.1]||D7 0 1000 [l.2]
def G4(l:List aI):Int:=if D7 1 8 [(l.length:Int)]then 6 else if l.any P4 then 3 else 0
def j4(b a:List Int):List aI:=(List.range b.length).map fun(i:Nat)=>(b.getD i 0,if a=[]then 0 else a.getD (i % a.length) 0 % 1001)
def eT(a b c d:Int):Bool:=decide (a*d<c*b)
abbrev m8:=(Int×Int)×Int
def jZ(a b c:m8):Bool:=decide ((b.1.2- a.1.2)*(c.1.1- a.1.1)<(c.1.2- a.1.2)*(b.1.1- a.1.1))
def kT(num a:Int):Int:=num/ (Int.gcd num a:Int)
def kU(num a:Int):Int:=a/ (Int.gcd num a:Int)
end Go.Abs.T1
end
section
namespace Go.Abs.T1
abbrev tI:Ty:=.int .i64
abbrev tS:Ty:=.pair tI (.pair tI tI)
abbrev tL:Ty:=.pair tI tI
abbrev tC:Ty:=.pair (.pair tI tI) tI
abbrev tP:Ty:=.pair tI tI
abbrev mB:MK:=⟨true,.pair tI tI,.i64⟩
abbrev sI:VS:=.int .i64
abbrev sL:VS:=.P5 tI false
abbrev sU:VS:=.P5 (.int .u16) false
abbrev sSL:VS:=.P5 tS false
abbrev sSS:VS:=.P5 (.slice tS) false
abbrev sLL:VS:=.P5 tL false
abbrev sR:VS:=.agg (.cs sI (.cs sI .nl))
abbrev sS:VS:=.agg (.cs sI (.cs sI (.cs sI .nl)))
abbrev sK:VS:=.agg (.cs sI (.cs sI .nl))
abbrev Yf:VS:=.agg (.cs sI (.cs sI (.cs sI (.cs sSS .nl))))
abbrev LP{σ:Type}(s:σ)(B:(σ->Prop)->σ->Prop):Prop:=Loop B s
abbrev fI(n:Int):Prop:=U1 .i64 n
abbrev rI(n:Int):a7:=.int .i64 n
abbrev rB(b:Bool):a7:=.bool b
abbrev one(v:a7):sX:=.leaf v []
abbrev own(t:Ty)(l:List t.den):sX:=.leaf (.B6 0 false) [.sl t l]
abbrev PV(lo hi:Int)(l:List Int):Prop:=∀x∈l,lo<=x/\x<=hi
def v12:Var:=⟨.cs sR (.cs sI (.cs sI .nl)),[],fun _=>True,fun x=>one (rB (bF x.1 x.2.1 x.2.2.1 x.2.2.2.1))⟩
def v13:Var:=⟨.cs Yf .nl,[],fun x=>x.2.2.2.1.length<=4/\∀l∈x.2.2.2.1,l.length<=12,fun x=>own tS x.2.2.2.1.flatten⟩
def v4:Var:=⟨.cs Yf .nl,[],fun _=>True,fun x=>one (rI (S4 x.1 x.2.1 x.2.2.1 x.2.2.2.1))⟩
def v17:Var:=⟨.cs sU (.cs sI .nl),[],fun x=>PV 0 65535 x.1/\0<=x.2.1/\x.2.1<=1000/\x.1.length<=30,fun x=>one (rI (w8 x.1 x.2.1))⟩
def v18:Var:=⟨.cs sI (.cs sI .nl),[],fun _=>True,fun x=>one (.agg [rI x.1,rI x.2.1])⟩
def v6:Var:=⟨.cs Yf (.cs sU .nl),[],fun x=>S4 x.1 x.2.1 x.2.2.1 x.2.2.2.1=0/\PV 0 65535 x.2.2.2.2.1/\x.2.2.2.2.1.length<=30,
 fun x=>.leaf (.I9 [.agg [rI x.1,rI x.2.1,rI x.2.2.1,.P5 (.slice tS) (L4 x.1 x.2.1 x.2.2.1 x.2.2.2.2.1 x.2.2.2.1) false],.B6 0 false,.B6 1 false]) [.sl tI (B1 x.2.2.1 x.2.2.2.2.1),.sl tI (a34 x.1 x.2.1 x.2.2.1 x.2.2.2.2.1 x.2.2.2.1)]⟩
abbrev sCw(f:Nat):VS:=.fn f .nl (.cs (.L8 (.cs sI .nl)) (.cs (.L8 (.cs sI .nl)) .nl))
def JM:Var:=⟨.cs sI (.cs (.L8 (.cs sI .nl)) (.cs (.L8 (.cs sI .nl)) .nl)),[],fun _=>True,fun x=>one (rB (I8 x.2.1 x.2.2.1 x.1))⟩
def Nm:Var:=JM
def a36(f:Nat):Var:=⟨.cs sL (.cs (sCw f) .nl),[],fun x=>x.1.length<=oV,fun x=>one (rI (indexOf (I8 x.2.1 x.2.2.1) x.1))⟩
def a37(f:Nat):Var:=⟨.cs sL (.cs (sCw f) .nl),[],fun x=>x.1.length<=oV,fun x=>one (rB (D7 x.2.1 x.2.2.1 x.1))⟩
def CF:Var:=a36 126
def CG:Var:=a37 126
def CH:Var:=a36 143
def CI:Var:=a37 143
def PW:Var:=⟨.cs sI (.cs sI (.cs sL .nl)),[],fun x=>x.2.2.1.length<=oV,fun x=>one (rB (Bool.not (D7 x.1 x.2.1 x.2.2.1)))⟩
def vW:Var:=PW
def FK:Var:=⟨.cs sR (.cs sI (.cs sI .nl)),[],fun _=>True,fun x=>one (rB (O5 x.1 x.2.1 x.2.2.1 x.2.2.2.1))⟩
def v11:Var:=⟨.cs sR (.cs sR .nl),[],fun x=>(-1000000<=x.1/\x.1<=1000000)/\(-1000000<=x.2.1/\x.2.1<=1000000)/\(-1000000<=x.2.2.1/\x.2.2.1<=1000000)/\(-1000000<=x.2.2.2.1/\x.2.2.2.1<=1000000),fun x=>one (rB (eT x.1 x.2.1 x.2.2.1 x.2.2.2.1))⟩
def v10:Var:=⟨.cs sL (.cs sU .nl),[],fun x=>x.1.length<=100/\PV 0 65535 x.2.1/\x.2.1.length<=30,fun x=>own tL (j4 x.1 x.2.1)⟩
def Nn:Var:=⟨.cs sK .nl,[],fun _=>True,fun x=>one (rB (P4 (x.1,x.2.1)))⟩
def No:Var:=⟨.cs sLL (.cs (.fn 149 .nl .nl) .nl),[],fun x=>x.1.length<=1000,fun x=>one (rI (indexOf P4 x.1))⟩
def Np:Var:=⟨.cs sLL (.cs (.fn 149 .nl .nl) .nl),[],fun x=>x.1.length<=1000,fun x=>one (rB (x.1.any P4))⟩
def Nq:Var:=⟨.cs sLL .nl,[],fun x=>x.1.length<=1000,fun x=>one (rI (G4 x.1))⟩
abbrev sCo:VS:=.agg (.cs sI (.cs sI (.cs sI .nl)))
abbrev smL(a b:Int):Prop:=(0<=a/\a<=100)/\(0<=b/\b<=1001)
def Nr:Var:=⟨.cs sCo (.cs sCo (.cs sCo .nl)),[],fun x=>smL x.1 x.2.1/\smL x.2.2.2.1 x.2.2.2.2.1/\smL x.2.2.2.2.2.2.1 x.2.2.2.2.2.2.2.1,fun x=>one (rB (jZ ((x.1,x.2.1),x.2.2.1) ((x.2.2.2.1,x.2.2.2.2.1),x.2.2.2.2.2.1) ((x.2.2.2.2.2.2.1,x.2.2.2.2.2.2.2.1),x.2.2.2.2.2.2.2.2.1)))⟩
def Ns:Var:=⟨.cs sI (.cs sI .nl),[],fun x=>0<=x.1/\x.1<=10000000/\1<=x.2.1/\x.2.1<=10000000,fun x=>one (.agg [rI (kT x.1 x.2.1),rI (kU x.1 x.2.1)])⟩
end Go.Abs.T1
end
section
namespace Go.Abs.T1
abbrev MS:Type:=l6 (.pair (.int .i64) (.int .i64))×Nat
def kV(st:MS)(i k v:Int):MS:=(M0 (.pair (.int .i64) (.int .i64)) st.1 st.2 (i,k) v,P3 (.pair (.int .i64) (.int .i64)) st.1 st.2 (i,k))
def a39(st:MS)(i:Nat):MS:=kV (kV st 0 ((i:Int)+1) 1000) ((i:Int)+1) 0 0
def a4a(lots:Nat):MS:=(List.range lots).foldl a39 ([],0)
def firstM(lo hi a:Int)(k:Nat)(m:MS):MS:=if k=0 then kV (kV m 0 a 0) a 0 0 else kV (kV m (a- 1) a hi) a (a- 1) (-lo)
def R5(lo hi:Int)(st:MS×Int×Nat)(s:m9):MS×Int×Nat:=(kV (kV (firstM lo hi st.2.1 st.2.2 st.1) st.2.1 (s.1+1) s.2.2) (s.1+1) st.2.1 (-s.2.1),st.2.1+1,st.2.2+1)
def vX(lo hi:Int)(st:MS×Int)(l:List m9):MS×Int:=((l.foldl (R5 lo hi) (st.1,st.2,0)).1,(l.foldl (R5 lo hi) (st.1,st.2,0)).2.1)
def CJ(lo hi lots:Int)(a:List (List m9)):MS:=(a.foldl (vX lo hi) (a4a lots.toNat,lots+1)).1
def G7(lo hi lots:Int)(a:List (List m9)):l6 (.pair (.int .i64) (.int .i64)):=(CJ lo hi lots a).1
def CK(lo hi lots:Int)(a:List (List m9)):Nat:=(CJ lo hi lots a).2
abbrev cTg:List CS:=[.box (.cs sI (.cs sI (.cs sI (.cs sSS (.cs (.B6 1 false) (.cs (.z8 2) .nl)))))),.sl tS,.mp mB]
abbrev tgA(lo hi lots:Int)(a:List (List m9))(ts:List m9)(l:l6 tP)(clk:Nat):List c7:=[.box [rI lo,rI hi,rI lots,.P5 (.slice tS) a false,.B6 1 false,.z8 2],.sl tS ts,.mp mB l clk]
def BB:Var:=⟨.cs (.ptr 0 0) .nl,cTg,fun x=>0<=x.2.2.1/\x.2.2.1<=6/\x.2.2.2.2.1.length<=12,fun x=>.leaf (rI (1+x.2.2.1+(x.2.2.2.2.1.length:Int))) (tgA x.1 x.2.1 x.2.2.1 x.2.2.2.1 x.2.2.2.2.1 x.2.2.2.2.2.1 x.2.2.2.2.2.2.1)⟩
def XI:Var:=⟨.cs (.ptr 0 0) .nl,cTg,fun _=>True,fun x=>.leaf (.fn (.func 128) [] [.ptr 3 0]) (tgA x.1 x.2.1 x.2.2.1 x.2.2.2.1 x.2.2.2.2.1 x.2.2.2.2.2.1 x.2.2.2.2.2.2.1++ [.box [.ptr 0 0]])⟩
def v77:Var:=⟨.cs sI (.cs sI .nl),[],fun _=>True,fun x=>one (rB (decide (x.1<x.2.1)))⟩
def CL(l:List Int):Int:=l.foldl (fun a b=>if b<a then b else a) (l.headD 0)
def v79:Var:=⟨.cs sL (.cs (.fn 77 .nl .nl) .nl),[],fun x=>1<=x.1.length/\x.1.length<=1000,fun x=>one (rI (CL x.1))⟩
def Tn:Var:=⟨.cs sL .nl,[],fun x=>x.1.length<=1000,fun x=>own tI x.1⟩
def Uv(t:Ty)(a:List a7)(cs:List c7):Prop:=match a,cs with
 |[.R9 b,.int .i64 n],[]=>if b=t then 0<=n/\n<=100000 else False
 |_,_=>False
def HV(t:Ty):V6:=⟨Uv t,fun _ _=>.leaf (.B6 0 false) [.sl t []],[1000]⟩
def FL:Var:=⟨.cs (.P5 (.slice tS) false) .nl,[],fun x=>x.1.length<=4/\∀y∈x.1,y.length<=12,fun x=>own tS x.1.flatten⟩
def Nt:Var:=⟨.cs sS (.cs (.L8 (.cs sI (.cs sI (.cs sI (.cs sSS .nl))))) .nl),[],fun x=>1<=x.2.2.2.2.2.1/\x.2.2.2.2.2.1<=6,fun x=>one (rB (O6 x.2.2.2.2.2.1 (x.1,x.2.1,x.2.2.1)))⟩
abbrev a0h:VS:=.fn 122 .nl (.cs (.L8 (.cs sI (.cs sI (.cs sI (.cs sSS .nl))))) .nl)
def Nu:Var:=⟨.cs sSL (.cs a0h .nl),[],fun x=>x.1.length<=1000/\1<=x.2.2.2.1/\x.2.2.2.1<=6,fun x=>one (rI (indexOf (O6 x.2.2.2.1) x.1))⟩
def Nv:Var:=⟨.cs sSL (.cs a0h .nl),[],fun x=>x.1.length<=1000/\1<=x.2.2.2.1/\x.2.2.2.1<=6,fun x=>one (rB (x.1.any (O6 x.2.2.2.1)))⟩
def v71:Var:=⟨.cs Yf .nl,[],fun x=>x.2.2.2.1.length<=4/\∀y∈x.2.2.2.1,y.length<=12,fun x=>one (rI (H9 x.1 x.2.1 x.2.2.1 x.2.2.2.1))⟩
def v73:Var:=⟨.cs Yf .nl,[],fun x=>H9 x.1 x.2.1 x.2.2.1 x.2.2.2.1=0/\x.2.2.2.1.length<=4/\∀y∈x.2.2.2.1,y.length<=12,fun x=>.leaf (.ptr 0 0) (tgA x.1 x.2.1 x.2.2.1 x.2.2.2.1 x.2.2.2.1.flatten (G7 x.1 x.2.1 x.2.2.1 x.2.2.2.1) (CK x.1 x.2.1 x.2.2.1 x.2.2.2.1))⟩
end Go.Abs.T1
end
section
namespace Go.Abs.T1
def B0(l:List aI)(s:Nat):Int:=l.foldl (fun a x=>if x.1=(s:Int)then min a x.2 else a) 1001
def D8(l:List aI):List Int:=(List.range 101).map (B0 l)
def X7(l:List aI)(x:aI):Int:=((l.findIdx (fun y=>decide (y=x)):Nat):Int)
def oW:Nat->List m8->m8->List m8
 |0,ch,_=>ch
 |n+1,ch,c=>if 1<ch.length/\jZ (ch.getD (ch.length- 2) ((0,0),0)) (ch.getD (ch.length- 1) ((0,0),0)) c=false then oW n (ch.take (ch.length- 1)) c else ch
def cG(l:List aI)(ch:List m8)(s:Nat):List m8:=if B0 l s=1001 then ch else oW 200 ch (((s:Int),B0 l s),X7 l ((s:Int),B0 l s))++ [(((s:Int),B0 l s),X7 l ((s:Int),B0 l s))]
def l7(l:List aI):List m8:=(List.range 101).foldl (cG l) []
def JN:List Int:=List.replicate 101 0
abbrev cSh:List CS:=[.bx (.cs sLL .nl) tI 101 (.cs (.B6 1 false) .nl),.sl tC]
abbrev shA(l:List aI)(a:List Int)(ch:List m8):List c7:=[.bx [.P5 tL l false] tI 101 a [.B6 1 false],.sl tC ch]
def Nw:Var:=⟨.cs sLL .nl,[],fun x=>G4 x.1=0/\x.1.length<=1000,fun x=>.leaf (.ptr 0 0) (shA x.1 (D8 x.1) (l7 x.1))⟩
abbrev Mix:Type:=(m8×m8)×Int×Int
def a0i:Mix:=((((0,0),0),((0,0),0)),0,0)
def vY(s:Int):List m8->Option m8->Mix×Bool
 |[],_=>(a0i,false)
 |c::r,b=>if c.1.1=s then(((c,c),1,0),true)else if s<c.1.1 then(match b with
  |some a=>(((a,c),c.1.1- s,s- a.1.1),true)
  |none=>(a0i,false))else vY s r (some c)
def uD(ch:List m8)(s:Int):Mix:=(vY s ch none).1
def uE(ch:List m8)(s:Int):Bool:=(vY s ch none).2
def m11(ch:List m8)(s:Int):Int:=(uD ch s).1.1.1.1
def RC(ch:List m8)(s:Int):Int:=(uD ch s).1.1.1.2
def m13(ch:List m8)(s:Int):Int:=(uD ch s).1.1.2
def m21(ch:List m8)(s:Int):Int:=(uD ch s).1.2.1.1
def RD(ch:List m8)(s:Int):Int:=(uD ch s).1.2.1.2
def m23(ch:List m8)(s:Int):Int:=(uD ch s).1.2.2
def mP(ch:List m8)(s:Int):Int:=(uD ch s).2.1
def mQ(ch:List m8)(s:Int):Int:=(uD ch s).2.2
def a8j(ch:List m8):Prop:=ch.length<=101/\∀c∈ch,(0<=c.1.1/\c.1.1<=100)/\(0<=c.1.2/\c.1.2<=1001)
def Nx:Var:=⟨.cs (.B6 0 false) .nl,[.sl tC],fun _=>True,fun x=>.leaf (.fn (.func 156) [] [.ptr 1 0]) [.sl tC x.1,.box [.B6 0 false]]⟩
abbrev a8k:VS:=.cs (.ptr 0 0) .nl
def Ny:Var:=⟨a8k,cSh,fun _=>True,fun x=>.leaf (.fn (.func 156) [] [.ptr 2 0]) (shA x.1 x.2.1 x.2.2.1++ [.box [.B6 1 false]])⟩
def Nz:Var:=⟨.cs sCo (.cs sCo .nl),[],fun _=>True,fun x=>one (rB (decide (x.2.1<x.2.2.2.2.1)))⟩
def X8(a b:m8):m8:=if b.1.2<a.1.2 then b else a
def V7(ch:List m8):m8:=(ch.drop 1).foldl X8 (ch.getD 0 ((0,0),0))
def fC(ch:List m8):Int:=(V7 ch).1.1
def Yg(ch:List m8):Int:=(V7 ch).1.2
def Jv(ch:List m8):Int:=(V7 ch).2
def NA:Var:=⟨.cs (.P5 tC false) (.cs (.fn 132 .nl .nl) .nl),[],fun x=>1<=x.1.length/\x.1.length<=101,fun x=>one (.agg [rI (fC x.1),rI (Yg x.1),rI (Jv x.1)])⟩
def v82:Var:=⟨.cs (.ptr 0 0) (.cs sI .nl),cSh,fun x=>1<=x.2.2.2.1.length/\x.2.2.2.1.length<=101,fun x=>.leaf (rI (max x.1 (fC x.2.2.2.1))) (shA x.2.1 x.2.2.1 x.2.2.2.1)⟩
def v81:Var:=⟨.cs (.ptr 0 0) (.cs sI .nl),cSh,fun x=>a8j x.2.2.2.1/\(0<=x.1/\x.1<=100)/\x.2.2.1.length=101/\x.2.2.1≠JN,
 fun x=>.leaf (.I9 [.agg [rI (m11 x.2.2.2.1 x.1),rI (RC x.2.2.2.1 x.1),rI (m13 x.2.2.2.1 x.1),rI (m21 x.2.2.2.1 x.1),rI (RD x.2.2.2.1 x.1),rI (m23 x.2.2.2.1 x.1),rI (mP x.2.2.2.1 x.1),rI (mQ x.2.2.2.1 x.1)],rB (uE x.2.2.2.1 x.1)]) (shA x.2.1 x.2.2.1 x.2.2.2.1)⟩
end Go.Abs.T1
end
section
namespace Go.Abs.T1
abbrev dY:Ty:=.int .i64
abbrev bd(m:l6 tP)(i k:Nat):Option Int:=if J4 tP m ((i:Int),(k:Int))then some (y8 tP m ((i:Int),(k:Int)))else none
def a4b(N:Nat)(m:l6 tP):Prop:=∃a:Nat->Int,(∀i,0<=a i/\a i<=10000)/\∀i k n,i<N->k<N->bd m i k=some n->(-10000<=n/\n<=10000)/\a k<=a i+n
abbrev l4(lots:Int)(ts:List m9):Nat:=1+lots.toNat+ts.length
abbrev NB(lots:Int)(ts:List m9)(m:l6 tP):Prop:=(1<=lots/\lots<=6)/\ts.length<=12/\a4b (l4 lots ts) m
abbrev MI:Type:=l6 dY×Nat
def CM(st:MI)(k v:Int):MI:=(M0 dY st.1 st.2 k v,P3 dY st.1 st.2 k)
def Q5(m:l6 tP)(i:Nat)(st:MI)(k:Nat):MI:=
 if J4 tP m ((i:Int),(k:Int))then(if J4 dY st.1 (i:Int)then
  (if J4 dY st.1 (k:Int)then CM st k (CL [y8 dY st.1 (i:Int)+y8 tP m ((i:Int),(k:Int)),y8 dY st.1 (k:Int)])
   else CM st k (CL [y8 dY st.1 (i:Int)+y8 tP m ((i:Int),(k:Int))]))else st)else st
def zA(m:l6 tP)(N:Nat)(st:MI)(i:Nat):MI:=(List.range N).foldl (Q5 m i) st
def qQ(m:l6 tP)(N:Nat)(st:MI):MI:=(List.range N).foldl (zA m N) st
def NC(m:l6 tP)(N:Nat)(frm:Int):MI:=(List.range N).foldl (fun st _=>qQ m N st) (CM ([],0) frm 0)
def kW(N:Nat)(m:l6 tP)(frm to:Int):Int:=y8 dY (NC m N frm).1 to
def kA(N:Nat)(m:l6 tP)(frm to:Int):Bool:=J4 dY (NC m N frm).1 to
def v76:Var:=⟨.cs (.ptr 0 0) .nl,cTg,fun x=>NB x.2.2.1 x.2.2.2.2.1 x.2.2.2.2.2.1,fun x=>.leaf (.B6 3 false) (tgA x.1 x.2.1 x.2.2.1 x.2.2.2.1 x.2.2.2.2.1 x.2.2.2.2.2.1 x.2.2.2.2.2.2.1++ [.sl tI []])⟩
def v22:Var:=⟨.cs (.ptr 0 0) (.cs sI (.cs sI .nl)),cTg,fun x=>NB x.2.2.2.2.1 x.2.2.2.2.2.2.1 x.2.2.2.2.2.2.2.1/\(0<=x.1/\x.1<1+x.2.2.2.2.1+x.2.2.2.2.2.2.1.length)/\(0<=x.2.1/\x.2.1<1+x.2.2.2.2.1+x.2.2.2.2.2.2.1.length),
 fun x=>.leaf (.I9 [rI (kW (l4 x.2.2.2.2.1 x.2.2.2.2.2.2.1) x.2.2.2.2.2.2.2.1 x.1 x.2.1),rB (kA (l4 x.2.2.2.2.1 x.2.2.2.2.2.2.1) x.2.2.2.2.2.2.2.1 x.1 x.2.1)]) (tgA x.2.2.1 x.2.2.2.1 x.2.2.2.2.1 x.2.2.2.2.2.1 x.2.2.2.2.2.2.1 x.2.2.2.2.2.2.2.1 x.2.2.2.2.2.2.2.2.1)⟩
abbrev a4c:VS:=.cs sI (.cs (.ptr 0 0) .nl)
abbrev cT1(r s:Nat):CS:=.box (.cs sI (.cs sI (.cs sI (.cs sSS (.cs (.B6 r false) (.cs (.z8 s) .nl))))))
abbrev tB(lo hi lots:Int)(a:List (List m9))(r s:Nat):c7:=.box [rI lo,rI hi,rI lots,.P5 (.slice tS) a false,.B6 r false,.z8 s]
abbrev c21:List CS:=[.box (.cs (.ptr 1 0) .nl),cT1 2 3,.sl tS,.mp mB]
abbrev a4d(lo hi lots:Int)(a:List (List m9))(ts:List m9)(l:l6 tP)(clk:Nat):List c7:=[.box [.ptr 1 0],tB lo hi lots a 2 3,.sl tS ts,.mp mB l clk]
def v21:Var:=⟨a4c,c21,fun x=>NB x.2.2.2.1 x.2.2.2.2.2.1 x.2.2.2.2.2.2.1/\(0<=x.1/\x.1<1+x.2.2.2.1+x.2.2.2.2.2.1.length),
 fun x=>.leaf (.I9 [rI (-(kW (l4 x.2.2.2.1 x.2.2.2.2.2.1) x.2.2.2.2.2.2.1 x.1 0)),rB (kA (l4 x.2.2.2.1 x.2.2.2.2.2.1) x.2.2.2.2.2.2.1 x.1 0)]) (a4d x.2.1 x.2.2.1 x.2.2.2.1 x.2.2.2.2.1 x.2.2.2.2.2.1 x.2.2.2.2.2.2.1 x.2.2.2.2.2.2.2.1)⟩
def v23:Var:=⟨a4c,c21,v21.pre,
 fun x=>.leaf (.I9 [rI (kW (l4 x.2.2.2.1 x.2.2.2.2.2.1) x.2.2.2.2.2.2.1 0 x.1),rB (kA (l4 x.2.2.2.1 x.2.2.2.2.2.1) x.2.2.2.2.2.2.1 0 x.1)]) (a4d x.2.1 x.2.2.1 x.2.2.2.1 x.2.2.2.2.1 x.2.2.2.2.2.1 x.2.2.2.2.2.2.1 x.2.2.2.2.2.2.2.1)⟩
def dB(N:Nat)(m:l6 tP)(n:Nat):Int:= -(kW N m (n:Int) 0)
def S5(N:Nat)(m:l6 tP)(n:Nat):Int:=kW N m 0 (n:Int)
def O7(f:Nat->Int)(lots:Int):List Int:=(List.range lots.toNat).map fun j=>f (j+1)
def kB(f:Nat->Int)(lots:Int)(ts:List m9):List Int:=(List.range ts.length).map fun j=>f (lots.toNat+j+1)
def RE(N:Nat)(g:Nat->Bool):Prop:=∀i,1<=i->i<N->g i=true
abbrev c20:List CS:=[cT1 2 3,.box (.cs (.ptr 0 0) .nl),.sl tS,.mp mB]
abbrev Yh(lo hi lots:Int)(a:List (List m9))(ts:List m9)(l:l6 tP)(clk:Nat):List c7:=[tB lo hi lots a 2 3,.box [.ptr 0 0],.sl tS ts,.mp mB l clk]
abbrev a4e(f:Nat):VS:=.cs (.ptr 0 0) (.cs (.fn f .nl (.cs (.ptr 1 0) .nl)) .nl)
def ND:Var:=⟨a4e 21,c20,fun x=>NB x.2.2.1 x.2.2.2.2.1 x.2.2.2.2.2.1/\RE (l4 x.2.2.1 x.2.2.2.2.1) (fun i=>kA (l4 x.2.2.1 x.2.2.2.2.1) x.2.2.2.2.2.1 (i:Int) 0),
 fun x=>.leaf (.I9 [.B6 4 false,.B6 5 false,rI 0]) (Yh x.1 x.2.1 x.2.2.1 x.2.2.2.1 x.2.2.2.2.1 x.2.2.2.2.2.1 x.2.2.2.2.2.2.1++ [.sl tI (O7 (dB (l4 x.2.2.1 x.2.2.2.2.1) x.2.2.2.2.2.1) x.2.2.1),.sl tI (kB (dB (l4 x.2.2.1 x.2.2.2.2.1) x.2.2.2.2.2.1) x.2.2.1 x.2.2.2.2.1)])⟩
def NF:Var:=⟨a4e 23,c20,fun x=>NB x.2.2.1 x.2.2.2.2.1 x.2.2.2.2.2.1/\RE (l4 x.2.2.1 x.2.2.2.2.1) (fun i=>kA (l4 x.2.2.1 x.2.2.2.2.1) x.2.2.2.2.2.1 0 (i:Int)),
 fun x=>.leaf (.I9 [.B6 4 false,.B6 5 false,rI 0]) (Yh x.1 x.2.1 x.2.2.1 x.2.2.2.1 x.2.2.2.2.1 x.2.2.2.2.2.1 x.2.2.2.2.2.2.1++ [.sl tI (O7 (S5 (l4 x.2.2.1 x.2.2.2.2.1) x.2.2.2.2.2.1) x.2.2.1),.sl tI (kB (S5 (l4 x.2.2.1 x.2.2.2.2.1) x.2.2.2.2.2.1) x.2.2.1 x.2.2.2.2.1)])⟩
abbrev bkP(lo hi lots:Int)(a:List (List m9)):Prop:=H9 lo hi lots a=0/\a.length<=4/\∀y∈a,y.length<=12
def XJ:Var:=⟨.cs Yf (.cs (.R9 tI) .nl),[],fun x=>bkP x.1 x.2.1 x.2.2.1 x.2.2.2.1,fun x=>.leaf (.I9 [.ptr 0 0,rI 0]) (tgA x.1 x.2.1 x.2.2.1 x.2.2.2.1 x.2.2.2.1.flatten (G7 x.1 x.2.1 x.2.2.1 x.2.2.2.1) (CK x.1 x.2.1 x.2.2.1 x.2.2.2.1))⟩
abbrev nN(lots:Int)(a:List (List m9)):Nat:=l4 lots a.flatten
def v7:Var:=⟨.cs Yf .nl,[],fun x=>bkP x.1 x.2.1 x.2.2.1 x.2.2.2.1/\NB x.2.2.1 x.2.2.2.1.flatten (G7 x.1 x.2.1 x.2.2.1 x.2.2.2.1)/\RE (nN x.2.2.1 x.2.2.2.1) (fun i=>kA (nN x.2.2.1 x.2.2.2.1) (G7 x.1 x.2.1 x.2.2.1 x.2.2.2.1) (i:Int) 0),
 fun x=>.leaf (.I9 [.B6 0 false,.B6 1 false,rI 0]) [.sl tI (O7 (dB (nN x.2.2.1 x.2.2.2.1) (G7 x.1 x.2.1 x.2.2.1 x.2.2.2.1)) x.2.2.1),.sl tI (kB (dB (nN x.2.2.1 x.2.2.2.1) (G7 x.1 x.2.1 x.2.2.1 x.2.2.2.1)) x.2.2.1 x.2.2.2.1.flatten)]⟩
def v8:Var:=⟨.cs Yf .nl,[],fun x=>bkP x.1 x.2.1 x.2.2.1 x.2.2.2.1/\NB x.2.2.1 x.2.2.2.1.flatten (G7 x.1 x.2.1 x.2.2.1 x.2.2.2.1)/\RE (nN x.2.2.1 x.2.2.2.1) (fun i=>kA (nN x.2.2.1 x.2.2.2.1) (G7 x.1 x.2.1 x.2.2.1 x.2.2.2.1) 0 (i:Int)),
 fun x=>.leaf (.I9 [.B6 0 false,.B6 1 false,rI 0]) [.sl tI (O7 (S5 (nN x.2.2.1 x.2.2.2.1) (G7 x.1 x.2.1 x.2.2.1 x.2.2.2.1)) x.2.2.1),.sl tI (kB (S5 (nN x.2.2.1 x.2.2.2.1) (G7 x.1 x.2.1 x.2.2.1 x.2.2.2.1)) x.2.2.1 x.2.2.2.1.flatten)]⟩
abbrev sMx:VS:=.agg (.cs sI (.cs sI (.cs sI (.cs sI (.cs sI (.cs sI (.cs sI (.cs sI .nl))))))))
def v83:Var:=⟨.cs sMx .nl,[],fun x=>(0<=x.2.1/\x.2.1<=1001)/\(0<=x.2.2.2.2.1/\x.2.2.2.2.1<=1001)/\(0<=x.2.2.2.2.2.2.1/\x.2.2.2.2.2.2.1<=100)/\(0<=x.2.2.2.2.2.2.2.1/\x.2.2.2.2.2.2.2.1<=100)/\1<=x.2.2.2.2.2.2.1+x.2.2.2.2.2.2.2.1,
 fun x=>one (.agg [rI (kT (x.2.1*x.2.2.2.2.2.2.1+x.2.2.2.2.1*x.2.2.2.2.2.2.2.1) (x.2.2.2.2.2.2.1+x.2.2.2.2.2.2.2.1)),rI (kU (x.2.1*x.2.2.2.2.2.2.1+x.2.2.2.2.1*x.2.2.2.2.2.2.2.1) (x.2.2.2.2.2.2.1+x.2.2.2.2.2.2.2.1))])⟩
def v80:Var:=⟨.cs sLL (.cs (.B6 0 false) .nl),[.sl tI],fun x=>G4 x.1=0/\x.1.length<=1000/\x.2.1.length<=1000/\D7 0 100 x.2.1=false,fun x=>.leaf (.I9 [.ptr 1 0,rI 0]) [.sl tI x.2.1,.bx [.P5 tL x.1 false] tI 101 (D8 x.1) [.B6 2 false],.sl tC (l7 x.1)]⟩
def qR(ch:List m8)(t:Int):Int:=max t (fC ch)
def aC(ch:List m8)(s:Int):Int:=RC ch s*mP ch s+RD ch s*mQ ch s
def W6(ch:List m8)(s:Int):Int:=mP ch s+mQ ch s
def oL(l:List aI)(t:Int):Bool:=uE (l7 l) (qR (l7 l) t)
def R7(l:List aI)(t:Int):Int:=if oL l t then kT (aC (l7 l) (qR (l7 l) t)) (W6 (l7 l) (qR (l7 l) t))else 0
def P6(l:List aI)(t:Int):Int:=if oL l t then kU (aC (l7 l) (qR (l7 l) t)) (W6 (l7 l) (qR (l7 l) t))else 0
def To(l:List aI)(t:Int):Int:=if oL l t then 0 else 19
def v24:Var:=⟨.cs sLL (.cs sI .nl),[],fun x=>G4 x.1=0/\x.1.length<=1000/\0<=x.2.1/\x.2.1<=100,fun x=>one (.I9 [.agg [rI (R7 x.1 x.2.1),rI (P6 x.1 x.2.1)],rI (To x.1 x.2.1)])⟩
def Uw(l:List aI)(t:Int):Bool:=if oL l t then decide (1<=P6 l t/\P6 l t<=100/\0<=R7 l t/\R7 l t<=1000*P6 l t)else true
def v9:Var:=⟨.cs sLL (.cs sI .nl),[],fun x=>G4 x.1=0/\x.1.length<=1000/\0<=x.2.1/\x.2.1<=100,fun x=>one (.I9 [.agg [rI (R7 x.1 x.2.1),rI (P6 x.1 x.2.1)],rB (oL x.1 x.2.1),rB (Uw x.1 x.2.1)])⟩
end Go.Abs.T1
end
section
namespace Go.Abs.T1
def v5:Var:=⟨.nl,[],fun _=>True,fun _=>one (rB true)⟩
def v3:Var:=⟨.cs Yf (.cs sU (.cs sU (.cs (.int .u8) .nl))),[],fun x=>PV 0 65535 x.2.2.2.2.1/\PV 0 65535 x.2.2.2.2.2.1/\0<=x.2.2.2.2.2.2.1/\x.2.2.2.2.2.2.1<=255,fun _=>one (rB true)⟩
end Go.Abs.T1
end
section
namespace Go.Abs
def Fix(F:Nat->Prop)(K K':j0):Prop:=∀b,F b->K'.cells b=K.cells b/\K'.inv b=K.inv b
theorem Fix.refl(F:Nat->Prop)(K:j0):Fix F K K:=fun _ _=>⟨rfl,rfl⟩
theorem Fix.trans{F:Nat->Prop}{A B C:j0}(h:Fix F A B)(k:Fix F B C):Fix F A C:=
 fun b a=>⟨(k b a).1.trans (h b a).1,(k b a).2.trans (h b a).2⟩
structure bP(F:Nat->Prop)(K:j0)(H:Nat->Option Hd)(w:World)(m:Mm)(nx:Nat)(q:Q)(v:Value)(w':World)(K':j0)(H':Nat->Option Hd):Prop where
 le:K.le K'
 hle:bY H H'
 I2:∀r,H r=none->H' r≠none->nx<=r/\r<nx+q.new.length
 rep:c8 K' H' q.val v
 mem:j8 F K' H' w' (q.mm nx m)
 ok:J0 F K' w'
 kept:Kept F w w'
 fix:Fix F K K'
def I0(P:Program)(F:Nat->Prop)(K:j0)(H:Nat->Option Hd)(w:World)(m:Mm)(nx:Nat)(k:Q->Prop):Result Next->Prop
 |.ok (.value v) w'=>∃q K' H',k q/\bP F K H w m nx q v w' K' H'
 |.ok (.enter f args) w'=>w'=w/\Calls P f args w (fun e a=>∃v q K' H',e=.returned v/\k q/\bP F K H w m nx q v a K' H')
 |_=>False
theorem uF{F:Nat->Prop}{K:j0}{H:Nat->Option Hd}{w:World}{m:Mm}{nx:Nat}(b:J0 F K w)(c:j8 F K H w m){a:a7}{v:Value}(d:List Nat)(e:c8 K H a v):
  bP F K H w m nx ⟨a,[],[],d⟩ v w K H:=
 ⟨.refl K,.refl H,fun _ h f=>absurd h f,e,c,b,.refl F w,.refl F K⟩
section
variable {P:Program} {F:Nat->Prop} {K:j0} {H:Nat->Option Hd} {w:World} {m:Mm} {nx:Nat} {k:Q->Prop}
theorem p9(b:J0 F K w)(c:j8 F K H w m){a:a7}{v:Value}(d:c8 K H a v)(e:k (.pure a)):I0 P F K H w m nx k (.ok (.value v) w):=
 ⟨_,K,H,e,uF b c [] d⟩
theorem L6(b:J0 F K w)(c:j8 F K H w m){a:a7}{v:Value}(r:Nat)(d:c8 K H a v)(e:k (.read a r)):I0 P F K H w m nx k (.ok (.value v) w):=
 ⟨_,K,H,e,uF b c [r] d⟩
theorem J0.alloc(h:J0 F K w)(o:Obj):J0 F K (w.alloc o):=by
 have old:∀b,b<w.heap.size->(w.alloc o).heap[b]? =w.heap[b]? :=fun b a=>RowKit.Below.heap_alloc w o b a
 refine⟨⟨?_,?_⟩,fun b a=>?_,h.inv,h.apart⟩
 ·intro b cs c;obtain⟨e,d,g⟩:=h.y6.1 b cs c;exact⟨e,d,by rw[old b (u5 g)];exact g⟩
 ·intro b p c;obtain⟨o',g,f⟩:=h.y6.2 b p c;exact⟨o',by rw[old b (u5 g)];exact g,f⟩
 ·have:=h.lt b a;simp;omega
theorem uG(h:J0 F K w)(o:Obj):Kept F w (w.alloc o):=
 ⟨rfl,rfl,rfl,by simp,fun b a=>RowKit.Below.heap_alloc w o b (h.lt b a),Nat.le_refl _⟩
theorem L7(w:World)(o:Obj):(w.alloc o).heap[w.heap.size]? =some o:=by
 show(w.heap.push o)[w.heap.size]? =some o;simp
theorem Q6(d:J0 F K w)(j:j8 F K H w m)(n:H nx=none)(cs:Array Value)(e:TypeId)(c:c7)(hd:Hd)(q:hd.base=some w.heap.size)
  (s:o8 K (S0 H nx hd) (w.alloc (.cells cs e)) hd c)(a:a7)(v:Value)(t:c8 K (S0 H nx hd) a v)(u:List Nat):
  bP F K H w m nx ⟨a,[c],[],u⟩ v (w.alloc (.cells cs e)) K (S0 H nx hd):=by
 refine⟨.refl K,L9 n,?_,t,?_,d.alloc _,uG d _,.refl F K⟩
 ·intro r h g;by_cases o:r=nx
  ·subst o;simp
  ·rw[n6 _ _ _ _ o]at g;exact absurd h g
 ·have x:j8 F K H (w.alloc (.cells cs e)) m:=j.world (fun r c f hd b h g l y=>RowKit.Below.heap_alloc w _ b (U4 j h g l y))
  refine x.new nx n c hd s (fun b i=>?_)
  rw[q]at i;cases i;have p:=d.y6.new (Nat.le_refl w.heap.size);refine⟨fun z=>?_,p.1,p.2,fun _=>⟨cs,e,L7 w _⟩,fun B c' A h g l=>?_⟩
  ·have:=d.lt _ z;omega
  ·have:=U4 j h (by simp) g l;omega
def j0.plus(K:j0)(w:World)(B:Nat->Bool):j0 where
 cells:=fun b=>match K.cells b with
  |some cs=>some cs
  |none=>if B b then(match w.heap[b]? with
   |some (.cells cs _ _)=>some cs
   |_=>none)else none
 inv:=K.inv
 y:=K.y
theorem j0.M9(K:j0)(w:World)(B:Nat->Bool):K.le (K.plus w B):=
 ⟨fun b cs h=>by simp[j0.plus,h],fun _ _ h=>h,fun _ h=>h⟩
theorem NG{K:j0}(w:World)(B:Nat->Bool)(f:vO K w){b:Nat}{cs:Array Value}(h:(K.plus w B).cells b=some cs):∃e a,w.heap[b]? =some (.cells cs e a):=by
 simp only[j0.plus]at h;split at h
 ·rename_i c d;cases h;exact f.1 _ _ d
 ·split at h
  ·split at h
   ·rename_i c e a d;cases h;exact⟨e,a,d⟩
   ·cases h
  ·cases h
theorem gT{K:j0}{w:World}{B:Nat->Bool}{b:Nat}(a:B b=true)(c:vO K w){cs:Array Value}{e:TypeId}{d:Nat×Nat}(h:w.heap[b]? =some (.cells cs e d)):(K.plus w B).cells b=some cs:=by
 simp only[j0.plus];split
 ·rename_i f i;obtain⟨l,j,g⟩:=c.1 _ _ i;rw[h]at g;cases g;rfl
 ·rw[if_pos a,h]
theorem kX{K:j0}{w:World}{B:Nat->Bool}{b:Nat}(a:B b=false):(K.plus w B).cells b=K.cells b:=by
 simp only[j0.plus];split
 ·rename_i h;exact h.symm
 ·rename_i h;rw[a,h];rfl
theorem J0.plus(h:J0 F K w)(B:Nat->Bool)(d:∀b,B b=true->K.inv b=none):J0 F (K.plus w B) w:=by
 refine⟨⟨fun b cs e=>NG w B h.y6 e,h.y6.2⟩,h.lt,h.inv,fun b p a=>?_⟩
 have a:K.inv b=some p:=a;cases c:B b with
 |true=>rw[d b c]at a;cases a
 |false=>rw[kX c];exact h.apart b p a
def R8(H:Nat->Option Hd)(a:List (Nat×p8))(b:Nat):Bool:=
 a.any (fun u=>match H u.1 with
  |some hd=>hd.base==some b
  |none=>false)
theorem dC{a:List (Nat×p8)}{r:Nat}{f:p8}{hd:Hd}{b:Nat}(h:(r,f)∈a)(c:H r=some hd)(d:hd.base=some b):R8 H a b=true:=by
 simp only[R8,List.any_eq_true];exact⟨(r,f),h,by simp[c,d]⟩
theorem mL{c:List (Nat×p8)}{b:Nat}(h:R8 H c b=true):∃r f hd,(r,f)∈c/\H r=some hd/\hd.base=some b:=by
 simp only[R8,List.any_eq_true]at h;obtain⟨⟨r,f⟩,d,a⟩:=h;simp only at a;split at a
 ·rename_i hd hh;exact⟨r,f,hd,d,hh,by simpa using a⟩
 ·simp at a
theorem CN(cs:Array Value)(o:Nat):u0 cs o (cs.size- o)=cs.toList.drop o:=by
 unfold u0;apply List.take_of_length_le;simp
theorem kY(hm:j8 F K H w m){T:j0}(u:K.le T)(H':Nat->Option Hd)(hH:bY H H'):
  ∀ (d:Nat),
   (∀ (v:a7) (x:Value) (v':a7) (z:List (Nat×p8)),view m d v=some (v',z)->
    (∀r f hd b cs e G,(r,f)∈z->H r=some hd->hd.base=some b->w.heap[b]? =some (.cells cs e G)->T.cells b=some cs)->c8 K H v x->c8 T H' v' x)/\
   (∀ (vs:List a7) (xs:List Value) (y:List a7) (z:List (Nat×p8)),X4 (view m d) vs=some (y,z)->
    (∀r f hd b cs e G,(r,f)∈z->H r=some hd->hd.base=some b->w.heap[b]? =some (.cells cs e G)->T.cells b=some cs)->c9 K H vs xs->c9 T H' y xs/\y.length=vs.length):=by
 intro d
 induction d with
 |zero=>
  refine⟨fun v x v' z h=>by simp[view]at h,?_⟩
  intro vs;cases vs with
  |nil=>
   intro xs y z h A c;simp only[X4,Option.some.injEq,Prod.mk.injEq]at h;obtain⟨rfl,rfl⟩:=h;rw[c9.H8.1 c];exact⟨.nil,rfl⟩
  |cons v vs=>intro xs y z h;simp[X4,view]at h
 |succ d Z=>
  have J:∀ (v:a7) (x:Value) (v':a7) (z:List (Nat×p8)),view m (d+1) v=some (v',z)->
    (∀r f hd b cs e G,(r,f)∈z->H r=some hd->hd.base=some b->w.heap[b]? =some (.cells cs e G)->T.cells b=some cs)->c8 K H v x->c8 T H' v' x:=by
   intro v x v' z h A c;cases v with
   |R3=>
    simp only[view,Option.some.injEq,Prod.mk.injEq]at h;obtain⟨rfl,rfl⟩:=h;simp[c8]
   |W2=>simp[view]at h
   |P9 r i j=>simp[view]at h
   |Bu sh n=>simp[view]at h
   |O2 r=>simp[view]at h
   |bool b=>
    simp only[view,Option.some.injEq,Prod.mk.injEq]at h;obtain⟨rfl,rfl⟩:=h;simpa [c8]using c
   |int kd n=>
    simp only[view,Option.some.injEq,Prod.mk.injEq]at h;obtain⟨rfl,rfl⟩:=h;simpa [c8]using c
   |R9 t=>
    simp only[view,Option.some.injEq,Prod.mk.injEq]at h;obtain⟨rfl,rfl⟩:=h;simp only[c8]at c ⊢;subst c;exact⟨none,0,rfl,Nat.le_refl _,fun _=>rfl,.inl rfl⟩
   |P5 t l f=>
    simp only[view,Option.some.injEq,Prod.mk.injEq]at h;obtain⟨rfl,rfl⟩:=h;simp only[c8]at c ⊢;exact c.mono u
   |V5 t l=>
    simp only[view,Option.some.injEq,Prod.mk.injEq]at h;obtain⟨rfl,rfl⟩:=h;simp only[c8]at c ⊢;obtain⟨cs,B,R,C⟩:=c;exact⟨cs,B,R,C.mono u⟩
   |J2=>simp[view]at h
   |U0=>
    simp only[view,Option.some.injEq,Prod.mk.injEq]at h;obtain⟨rfl,rfl⟩:=h;simpa [c8]using c
   |z6 p=>
    simp only[view,Option.some.injEq,Prod.mk.injEq]at h;obtain⟨rfl,rfl⟩:=h;simp only[c8]at c ⊢;exact p.mono _ _ _ u.bA c
   |z8 r=>
    simp only[view,Option.some.injEq,Prod.mk.injEq]at h;obtain⟨rfl,rfl⟩:=h;exact c8.mono u hH _ _ c
   |B6 r f=>
    simp only[view]at h;split at h
    ·rename_i t l g hg;split at h
     ·cases h
     ·rename_i I;simp only[Option.some.injEq,Prod.mk.injEq]at h;obtain⟨rfl,rfl⟩:=h;simp only[c8]at c ⊢;obtain⟨hd,B,rfl,C⟩:=c;obtain⟨g1,g2,g3,D⟩:=hm.cont r _ g hd hg I B;refine⟨_,hd.cap,by rw[g2],by omega,fun hf=>by rw[C hf,g2],?_⟩
      rcases D with⟨D,g5⟩|⟨b,cs,e,G,D,g5,g6,g7⟩
      ·left;exact List.eq_nil_of_length_eq_zero (by omega)
      ·right;refine⟨b,0,cs,by rw[D];rfl,A r g hd b cs e G (by simp) B D g5,fun i hi=>?_⟩
       exact s9.mono u _ _ _ (g7 i hi)
    ·cases h
   |sub r lo len f=>
    simp only[view]at h;split at h
    ·rename_i t l g hg;split at h
     ·cases h
     ·rename_i I;simp only[Option.some.injEq,Prod.mk.injEq]at h;obtain⟨rfl,rfl⟩:=h;simp only[c8]at c ⊢;obtain⟨hd,cap,base,B,rfl,C,h4,h5,h6,U⟩:=c;obtain⟨g1,g2,g3,D⟩:=hm.cont r _ g hd hg I B;have S:((l.drop lo).take len).length=len:=by simp;omega
      refine⟨base,cap,by rw[S],by omega,fun hf=>by rw[S];exact h6 hf,?_⟩
      rcases U with U|⟨b,U,h8⟩
      ·left;exact List.eq_nil_of_length_eq_zero (by omega)
      ·rcases D with⟨D,g5⟩|⟨E,cs,e,G,D,g5,g6,g7⟩
       ·rw[D]at U;cases U
       ·rw[U]at D;cases D;right;refine⟨b,lo*hd.sz,cs,h8,A r g hd b cs e G (by simp) B U g5,fun i hi=>?_⟩
        have:=s9.mono u _ _ _ (g7 (lo+i) (by omega))
        rw[List.getElem_take,List.getElem_drop];rw[g1,<-Nat.add_mul];simpa using this
    ·cases h
   |ptr r off=>
    simp only[view]at h;split at h
    ·rename_i cells g hg;split at h
     ·cases h
     ·rename_i I;split at h
      ·rename_i o V J;simp only[Option.some.injEq,Prod.mk.injEq]at h;obtain⟨rfl,rfl⟩:=h;simp only[c8]at c ⊢;obtain⟨hd,b,B,R,rfl⟩:=c;obtain⟨E,cs,e,G,g1,g2,g3⟩:=hm.cont r _ g hd hg I B;rw[R]at g1;cases g1;have hl:=(Z.2 _ _ _ _ J (fun L M q E o N s O=>A L M q E o N s (by simp[O])) (c9.drop off g3))
       refine⟨b,off,cs,rfl,A r g hd b cs e G (by simp) B R g2,?_⟩
       have XK:o.length=cs.size- off:=by
        rw[hl.2];have:=c9.length g3;simp at this ⊢;omega
       rw[XK,CN];exact hl.1
      ·cases h
    ·cases h
   |L8 cells=>
    simp only[view]at h;split at h
    ·rename_i o V J;simp only[Option.some.injEq,Prod.mk.injEq]at h;obtain⟨rfl,rfl⟩:=h;simp only[c8]at c ⊢;obtain⟨b,off,arr,rfl,R,C⟩:=c;have hl:=Z.2 _ _ _ _ J A C;exact⟨b,off,arr,rfl,u.cells _ _ R,by rw[hl.2];exact hl.1⟩
    ·cases h
   |agg cells=>
    simp only[view]at h;split at h
    ·rename_i o V J;simp only[Option.some.injEq,Prod.mk.injEq]at h;obtain⟨rfl,rfl⟩:=h;simp only[c8]at c ⊢;obtain⟨cs,rfl,C⟩:=c;exact⟨cs,rfl,(Z.2 _ _ _ _ J A C).1⟩
    ·cases h
   |I9 cells=>
    simp only[view]at h;split at h
    ·rename_i o V J;simp only[Option.some.injEq,Prod.mk.injEq]at h;obtain⟨rfl,rfl⟩:=h;simp only[c8]at c ⊢;obtain⟨cs,rfl,C⟩:=c;exact⟨cs,rfl,(Z.2 _ _ _ _ J A C).1⟩
    ·cases h
   |fn f a b=>
    simp only[view]at h;split at h
    ·rename_i a' r1 X;split at h
     ·rename_i E r2 Y;simp only[Option.some.injEq,Prod.mk.injEq]at h;obtain⟨rfl,rfl⟩:=h;simp only[c8]at c ⊢;obtain⟨fi,ca,rfl,C,h4⟩:=c;exact⟨fi,ca,rfl,(Z.2 _ _ _ _ X (fun L M q E o N s O=>A L M q E o N s (by simp[O])) C).1,
       (Z.2 _ _ _ _ Y (fun L M q E o N s O=>A L M q E o N s (by simp[O])) h4).1⟩
     ·cases h
    ·cases h
  refine⟨J,?_⟩;intro vs
  induction vs with
  |nil=>
   intro xs y z h A c;simp only[X4,Option.some.injEq,Prod.mk.injEq]at h;obtain⟨rfl,rfl⟩:=h;rw[c9.H8.1 c];exact⟨.nil,rfl⟩
  |cons v vs ihl=>
   intro xs y z h A c;simp only[X4]at h;split at h
   ·rename_i v' r1 X;split at h
    ·rename_i vs1 r2 Y;simp only[Option.some.injEq,Prod.mk.injEq]at h;obtain⟨rfl,rfl⟩:=h;obtain⟨x,xs',rfl,B,R⟩:=c.inv;have ha:=J _ _ _ _ X (fun L M q E o N s O=>A L M q E o N s (by simp[O])) B
     have hb:=ihl _ _ _ Y (fun L M q E o N s O=>A L M q E o N s (by simp[O])) R
     exact⟨.cons ha hb.1,by simp[hb.2]⟩
    ·cases h
   ·cases h
theorem dD(m:Mm):∀ (d:Nat),(∀ (v v':a7) (o:List (Nat×p8)),view m d v=some (v',o)->∀r f,(r,f)∈o->f≠ .dead/\∃c,m r=some (c,f)/\c.isCells=true)/\
  (∀ (vs s:List a7) (o:List (Nat×p8)),X4 (view m d) vs=some (s,o)->∀r f,(r,f)∈o->f≠ .dead/\∃c,m r=some (c,f)/\c.isCells=true):=by
 have D:∀d,(∀ (v v':a7) (o:List (Nat×p8)),view m d v=some (v',o)->∀r f,(r,f)∈o->f≠ .dead/\∃c,m r=some (c,f)/\c.isCells=true)->
   (∀ (vs s:List a7) (o:List (Nat×p8)),X4 (view m d) vs=some (s,o)->∀r f,(r,f)∈o->f≠ .dead/\∃c,m r=some (c,f)/\c.isCells=true):=by
  intro d q vs
  induction vs with
  |nil=>
   intro s o h r f e;simp only[X4,Option.some.injEq,Prod.mk.injEq]at h;obtain⟨rfl,rfl⟩:=h;simp at e
  |cons v vs x=>
   intro s o h r f e;simp only[X4]at h;split at h
   ·rename_i v' I y;split at h
    ·rename_i J L z;simp only[Option.some.injEq,Prod.mk.injEq]at h;obtain⟨rfl,rfl⟩:=h;rcases List.mem_append.1 e with h|h
     ·exact q _ _ _ y r f h
     ·exact x _ _ z r f h
    ·cases h
   ·cases h
 intro d
 induction d with
 |zero=>exact⟨fun v v' o h=>by simp[view]at h,D 0 (fun v v' o h=>by simp[view]at h)⟩
 |succ d x=>
  have q:∀ (v v':a7) (o:List (Nat×p8)),view m (d+1) v=some (v',o)->∀r f,(r,f)∈o->f≠ .dead/\∃c,m r=some (c,f)/\c.isCells=true:=by
   intro v v' o h r f e;cases v with
   |R3=>simp only[view,Option.some.injEq,Prod.mk.injEq]at h;obtain⟨rfl,rfl⟩:=h;simp at e
   |W2=>simp[view]at h
   |P9 r i j=>simp[view]at h
   |Bu M n=>simp[view]at h
   |O2 r=>simp[view]at h
   |bool b=>simp only[view,Option.some.injEq,Prod.mk.injEq]at h;obtain⟨rfl,rfl⟩:=h;simp at e
   |int N n=>simp only[view,Option.some.injEq,Prod.mk.injEq]at h;obtain⟨rfl,rfl⟩:=h;simp at e
   |R9 t=>simp only[view,Option.some.injEq,Prod.mk.injEq]at h;obtain⟨rfl,rfl⟩:=h;simp at e
   |P5 t l f=>simp only[view,Option.some.injEq,Prod.mk.injEq]at h;obtain⟨rfl,rfl⟩:=h;simp at e
   |V5 t l=>simp only[view,Option.some.injEq,Prod.mk.injEq]at h;obtain⟨rfl,rfl⟩:=h;simp at e
   |J2=>simp[view]at h
   |U0=>simp only[view,Option.some.injEq,Prod.mk.injEq]at h;obtain⟨rfl,rfl⟩:=h;simp at e
   |z6 p=>simp only[view,Option.some.injEq,Prod.mk.injEq]at h;obtain⟨rfl,rfl⟩:=h;simp at e
   |z8 r=>simp only[view,Option.some.injEq,Prod.mk.injEq]at h;obtain⟨rfl,rfl⟩:=h;simp at e
   |B6 E G=>
    simp only[view]at h;split at h
    ·rename_i t l g C;split at h
     ·cases h
     ·rename_i u;simp only[Option.some.injEq,Prod.mk.injEq]at h;obtain⟨rfl,rfl⟩:=h;simp only[List.mem_singleton,Prod.mk.injEq]at e;obtain⟨rfl,rfl⟩:=e;exact⟨u,_,C,rfl⟩
    ·cases h
   |sub E lo len G=>
    simp only[view]at h;split at h
    ·rename_i t l g C;split at h
     ·cases h
     ·rename_i u;simp only[Option.some.injEq,Prod.mk.injEq]at h;obtain⟨rfl,rfl⟩:=h;simp only[List.mem_singleton,Prod.mk.injEq]at e;obtain⟨rfl,rfl⟩:=e;exact⟨u,_,C,rfl⟩
    ·cases h
   |ptr E off=>
    simp only[view]at h;split at h
    ·rename_i cells g C;split at h
     ·cases h
     ·rename_i u;split at h
      ·rename_i A B q;simp only[Option.some.injEq,Prod.mk.injEq]at h;obtain⟨rfl,rfl⟩:=h;rcases List.mem_cons.1 e with h|h
       ·simp only[Prod.mk.injEq]at h;obtain⟨rfl,rfl⟩:=h;exact⟨u,_,C,rfl⟩
       ·exact x.2 _ _ _ q r f h
      ·cases h
    ·cases h
   |L8 cells=>
    simp only[view]at h;split at h
    ·rename_i A B q;simp only[Option.some.injEq,Prod.mk.injEq]at h;obtain⟨rfl,rfl⟩:=h;exact x.2 _ _ _ q r f e
    ·cases h
   |agg cells=>
    simp only[view]at h;split at h
    ·rename_i A B q;simp only[Option.some.injEq,Prod.mk.injEq]at h;obtain⟨rfl,rfl⟩:=h;exact x.2 _ _ _ q r f e
    ·cases h
   |I9 cells=>
    simp only[view]at h;split at h
    ·rename_i A B q;simp only[Option.some.injEq,Prod.mk.injEq]at h;obtain⟨rfl,rfl⟩:=h;exact x.2 _ _ _ q r f e
    ·cases h
   |fn G a b=>
    simp only[view]at h;split at h
    ·rename_i O I y;split at h
     ·rename_i R L z;simp only[Option.some.injEq,Prod.mk.injEq]at h;obtain⟨rfl,rfl⟩:=h;rcases List.mem_append.1 e with h|h
      ·exact x.2 _ _ _ y r f h
      ·exact x.2 _ _ _ z r f h
     ·cases h
    ·cases h
  exact⟨q,D (d+1) q⟩
theorem fD(m:Mm):∀ (a:List (Nat×p8)) (r:Nat),y7 m (J9 a) r=match m r with
  |some (c,g)=>some (c,if(r,p8.own)∈a then .aQ else g)
  |none=>none:=by
 intro a
 induction a generalizing m with
 |nil=>intro r;simp only[J9,y7];split<;>simp_all
 |cons u a f=>
  intro r;obtain⟨b,h⟩:=u;cases h with
  |own=>
   simp only[J9,y7,f];have i:bN m (b,p8.aQ) r=match m r with
     |some (c,g)=>some (c,if r=b then .aQ else g)
     |none=>none:=by
    simp only[bN];by_cases e:r=b
    ·subst e;cases d:m r with
     |none=>simp[d]
     |some x=>simp[j6]
    ·have j:∀y:Option (c7×p8),(match y with
       |some (c,_)=>S0 m b (c,p8.aQ)
       |none=>m) r=m r:=by
      intro y;rcases y with _|⟨c,g⟩
      ·rfl
      ·exact n6 _ _ _ _ e
     refine Eq.trans (j _) ?_;split<;>simp_all
   rw[i];cases d:m r with
   |none=>simp
   |some x=>
    obtain⟨c,g⟩:=x;simp only[List.mem_cons,Prod.mk.injEq,and_true];by_cases e:r=b
    ·subst e;simp
    ·simp[e]
  |aQ=>simp only[J9,f];split<;>simp
  |dead=>simp only[J9,f];split<;>simp
theorem j8.freeze(p:j8 F K H w m)(J:vO K w)(n:List (Nat×p8))(t:∀r f,(r,f)∈n->f≠ .dead/\∃c,m r=some (c,f)/\c.isCells=true):
  j8 F (K.plus w (R8 H n)) H w (y7 m (J9 n))/\(∀b,R8 H n b=true->K.inv b=none\/∃cs,K.cells b=some cs):=by
 have G:∀b,R8 H n b=true->(K.inv b=none/\¬F b/\∃r c hd,(r,p8.own)∈n/\m r=some (c,.own)/\H r=some hd/\hd.base=some b)\/∃cs,K.cells b=some cs:=by
  intro b y;obtain⟨r,f,hd,a,j,l⟩:=mL y;obtain⟨u,c,C,A⟩:=t r f a;cases f with
  |own=>
   have:=p.own r c hd b C j l;exact .inl ⟨this.2.2.1,this.1,r,c,hd,a,C,j,l⟩
  |aQ=>exact .inr (p.aQ r c hd b C j l)
  |dead=>exact absurd rfl u
 refine⟨⟨?_,?_,?_,?_⟩,fun b y=>(G b y).imp (fun h=>h.1) id⟩
 ·intro r c f hd a j l;rw[fD]at a;cases d:m r with
  |none=>rw[d]at a;cases a
  |some x=>
   obtain⟨c',g⟩:=x;rw[d]at a;simp only[Option.some.injEq,Prod.mk.injEq]at a;obtain⟨rfl,a⟩:=a;refine(p.cont r c' g hd d ?_ l).mono (K.M9 w _) (.refl H) (fun _ _=>rfl)
   intro e;subst e;by_cases i:(r,p8.own)∈n
   ·obtain⟨_,z,o,_⟩:=t r _ i;rw[d]at o;cases o
   ·rw[if_neg i]at a;exact j a.symm
 ·intro r c hd b a j l;rw[fD]at a;cases d:m r with
  |none=>rw[d]at a;cases a
  |some x=>
   obtain⟨c',g⟩:=x;rw[d]at a;simp only[Option.some.injEq,Prod.mk.injEq]at a;obtain⟨rfl,a⟩:=a;by_cases i:(r,p8.own)∈n
   ·rw[if_pos i]at a;cases a
   ·rw[if_neg i]at a;subst a;obtain⟨D,g2,L,E⟩:=p.own r c' hd b d j l;refine⟨D,?_,L,E⟩;cases y:R8 H n b with
    |false=>rw[kX y];exact g2
    |true=>
     rcases G b y with⟨_,_,B,z,v,M,N,q3,q4⟩|⟨cs,q⟩
     ·have:=p.inj r B c' z hd v b d N j q3 l q4;subst this;exact absurd M i
     ·rw[g2]at q;cases q
 ·intro r c hd b a j l;rw[fD]at a;cases d:m r with
  |none=>rw[d]at a;cases a
  |some x=>
   obtain⟨c',g⟩:=x;rw[d]at a;simp only[Option.some.injEq,Prod.mk.injEq]at a;obtain⟨rfl,a⟩:=a;by_cases i:(r,p8.own)∈n
   ·obtain⟨_,z,o,A⟩:=t r _ i;obtain⟨_,_,_,O⟩:=p.own r z hd b o j l;obtain⟨cs,e,E⟩:=O A;exact⟨cs,gT (dC i j l) J E⟩
   ·rw[if_neg i]at a;subst a;obtain⟨cs,g⟩:=p.aQ r c' hd b d j l;exact⟨cs,(K.M9 w _).cells _ _ g⟩
 ·intro I B R z u v b a j l S T U;have s:∀r c,y7 m (J9 n) r=some (c,.own)->∃c',m r=some (c',.own):=by
   intro r c h;rw[fD]at h;cases d:m r with
   |none=>rw[d]at h;cases h
   |some x=>
    obtain⟨c',g⟩:=x;rw[d]at h;simp only[Option.some.injEq,Prod.mk.injEq]at h;obtain⟨rfl,h⟩:=h;split at h
    ·cases h
    ·subst h;exact⟨c',rfl⟩
  obtain⟨V,D⟩:=s I R a;obtain⟨X,g2⟩:=s B z j;exact p.inj I B V X u v b D g2 l S T U
theorem J0.frozen(a:J0 F K w)(l:j8 F K H w m)(d:List (Nat×p8))(i:∀r f,(r,f)∈d->f≠ .dead/\∃c,m r=some (c,f)/\c.isCells=true):
  J0 F (K.plus w (R8 H d)) w/\Fix F K (K.plus w (R8 H d)):=by
 have n:∀b,R8 H d b=true->(K.inv b=none/\¬F b)\/∃cs,K.cells b=some cs:=by
  intro b e;obtain⟨r,f,hd,t,o,q⟩:=mL e;obtain⟨j,c,s,u⟩:=i r f t;cases f with
  |own=>
   have:=l.own r c hd b s o q;exact .inl ⟨this.2.2.1,this.1⟩
  |aQ=>exact .inr (l.aQ r c hd b s o q)
  |dead=>exact absurd rfl j
 refine⟨a.plus _ (fun b e=>?_),fun b e=>⟨?_,rfl⟩⟩
 ·rcases n b e with h|⟨cs,h⟩
  ·exact h.1
  ·cases hi:K.inv b with
   |none=>rfl
   |some p=>have:=a.apart b p hi;rw[h]at this;cases this
 ·cases g:R8 H d b with
  |false=>exact kX g
  |true=>
   rcases n b g with h|⟨cs,h⟩
   ·exact absurd e h.2
   ·rw[h];exact(K.M9 w _).cells _ _ h
end
end Go.Abs
end
section
namespace Go.Abs
section
variable {P:Program} {F:Nat->Prop} {K:j0} {H:Nat->Option Hd} {w:World} {m:Mm} {nx:Nat} {k:Q->Prop} {ev:Operand->a7} {ρ:Operand->Value}
theorem u3{t:TypeId}{d:TypeDesc}(h:P.underlying t=some d)(w:World):(underlying t).run P w=.ok d w:=by
 simp[underlying,h]
theorem uH{t:TypeId}{i:TypeInfo}(h:P.info? t=some i)(w:World):(typeInfo t).run P w=.ok i w:=by
 simp[typeInfo,h]
theorem M1{t:TypeId}{i:TypeInfo}(h:P.info? t=some i)(w:World):(sizeOf t).run P w=.ok i.size w:=by
 simp[sizeOf,uH h]
theorem CO{t:TypeId}{d:TypeDesc}(h:P.underlying t=some d):∃i,P.info? t=some i:=by
 unfold Program.underlying at h;cases hi:P.info? t with
 |none=>rw[hi]at h;cases h
 |some i=>exact⟨i,rfl⟩
theorem qS{t:TypeId}{d:TypeDesc}(h:P.underlying t=some d)(w:World):(sizeOf t).run P w=.ok (j7 P t) w:=by
 obtain⟨i,hi⟩:=CO h;rw[M1 hi];simp[j7,hi]
theorem W7{t:TypeId}{d:TypeDesc}(h:P.underlying t=some d)(w:World):(isAgg t).run P w=.ok (Q1 P t) w:=by
 simp only[isAgg,Sem.run_bind,u3 h,Result.andThen_ok,Q1,h];cases d<;>rfl
theorem NH{t:TypeId}(h:Q1 P t=true):∃d,P.underlying t=some d:=by
 unfold Q1 at h;split at h
 ·exact⟨_,‹_›⟩
 ·exact⟨_,‹_›⟩
 ·cases h
theorem bQ:∀ (d:Nat) (t:TypeId) (ty:Ty),X3 P d t=some ty->∃i c,P.info? t=some i/\i.size=ty.size/\P.underlying t=some c/\j7 P t=ty.size:=by
 intro d
 induction d with
 |zero=>intro t ty h;simp[X3]at h
 |succ d f=>
  intro t ty h;unfold X3 at h;split at h
  ·rename_i i g hi b;split at h
   ·rename_i a;cases h;exact⟨i,_,hi,a,b,by simp[j7,hi,a,Ty.size]⟩
   ·cases h
  ·rename_i i hi b;split at h
   ·rename_i a;cases h;exact⟨i,_,hi,a,b,by simp[j7,hi,a,Ty.size]⟩
   ·cases h
  ·rename_i i e hi b;split at h
   ·rename_i a;split at h
    ·cases h;exact⟨i,_,hi,a,b,by simp[j7,hi,a,Ty.size]⟩
    ·cases h
   ·cases h
  ·rename_i i j hi b;split at h
   ·split at h
    ·rename_i a;cases h;exact⟨i,_,hi,a,b,by simp[j7,hi,a]⟩
    ·cases h
   ·cases h
  ·cases h
theorem Z5{t:TypeId}{v:a7}{x:Value}(h:c8 K H v x):c8 K H (typed P t v) x:=by
 unfold typed;split
 ·split
  ·simpa [c8]using h
  ·exact h
 ·exact h
theorem oX:∀ (v:Value),c8 K H (qN v) v:=by
 intro v;unfold qN;split<;>simp[c8,tX]
theorem NI:∀ (v:Value),c8 K H (HH v) v:=by
 intro v;unfold HH;split
 ·rename_i cs;simp only[c8];refine⟨cs,rfl,?_⟩;generalize cs.toList=l
  induction l with
  |nil=>exact .nil
  |cons a l b=>exact .cons (oX a) b
 ·exact oX v
theorem dE{v:a7}{x:Value}{cells:List a7}(b:v.parts=some cells)(h:c8 K H v x):c9 K H cells x.cells.toList:=by
 cases v<;>simp only[a7.parts,Option.some.injEq]at b<;>(try cases b)
 case agg=>
  simp only[c8]at h;obtain⟨c,rfl,d⟩:=h;exact d
 all_goals
  have a:=h;simp only[c8]at h
 case bool=>subst h;exact .cons a .nil
 case int=>subst h;exact .cons a .nil
 case R9=>subst h;exact .cons a .nil
 case P5=>obtain⟨_,_,rfl,_⟩:=h;exact .cons a .nil
 case B6=>obtain⟨_,_,rfl,_⟩:=h;exact .cons a .nil
 case sub=>obtain⟨_,_,_,_,rfl,_⟩:=h;exact .cons a .nil
 case ptr=>obtain⟨_,_,_,_,rfl⟩:=h;exact .cons a .nil
 case P9=>obtain⟨_,_,_,_,rfl⟩:=h;exact .cons a .nil
 case O2=>obtain⟨_,_,_,_,_,rfl⟩:=h;exact .cons a .nil
 case z8=>obtain⟨_,_,_,_,rfl⟩:=h;exact .cons a .nil
 case L8=>obtain⟨_,_,_,rfl,_⟩:=h;exact .cons a .nil
 case fn=>obtain⟨_,_,rfl,_⟩:=h;exact .cons a .nil
 case U0=>subst h;exact .cons a .nil
 case J2=>obtain⟨_,_,rfl⟩:=h;exact .cons a .nil
 case z6=>rcases JD.cell _ _ _ h with⟨_,rfl⟩|rfl<;>exact .cons a .nil
theorem Yi{v:a7}{x:Value}(a:v.one=true)(h:c8 K H v x):one x=true:=by
 cases v<;>simp[a7.one]at a<;>simp only[c8]at h
 case W2=>subst h;rfl
 case bool=>subst h;rfl
 case int=>subst h;rfl
 case R9=>subst h;rfl
 case P5=>obtain⟨_,_,rfl,_⟩:=h;rfl
 case B6=>obtain⟨_,_,rfl,_⟩:=h;rfl
 case sub=>obtain⟨_,_,_,_,rfl,_⟩:=h;rfl
 case ptr=>obtain⟨_,_,_,_,rfl⟩:=h;rfl
 case P9=>obtain⟨_,_,_,_,rfl⟩:=h;rfl
 case O2=>obtain⟨_,_,_,_,_,rfl⟩:=h;rfl
 case z8=>obtain⟨_,_,_,_,rfl⟩:=h;rfl
 case L8=>obtain⟨_,_,_,rfl,_⟩:=h;rfl
 case fn=>obtain⟨_,_,rfl,_⟩:=h;rfl
 case U0=>subst h;rfl
 case J2=>obtain⟨_,_,rfl⟩:=h;rfl
 case z6=>rcases JD.cell _ _ _ h with⟨_,rfl⟩|rfl<;>rfl
theorem dF:∀ {vs:List a7} {xs:List Value},gI vs=true->c9 K H vs xs->∀x∈xs,one x=true
 |[],xs,_,h,x,a=>by rw[c9.H8.1 h]at a;simp at a
 |v::vs,xs,b,h,x,a=>by
  simp only[gI,Bool.and_eq_true]at b;obtain⟨c,cs,rfl,d,e⟩:=h.inv;rcases List.mem_cons.1 a with rfl|a
  ·exact Yi b.1 d
  ·exact dF b.2 e x a
theorem mM{t:TypeId}{cells:List a7}{v:a7}{b off:Nat}{cs:Array Value}{e:TypeId}{C:Nat×Nat}(u:w.heap[b]? =some (.cells cs e C))
  (q:c9 K H cells (u0 cs off cells.length))(h:FC P t cells=some v):∃x,(loadVar t ⟨b,off,none⟩).run P w=.ok x w/\c8 K H v x:=by
 have l:∀d,P.underlying t=some d->Q1 P t=true->(P.info? t).isSome=true->j7 P t<=cells.length->v=.agg (cells.take (j7 P t))->
   ∃x,(loadVar t ⟨b,off,none⟩).run P w=.ok x w/\c8 K H v x:=by
  intro d hd p hi D g;have E:=c9.length q;by_cases y:j7 P t=0
  ·refine⟨.agg #[],?_,?_⟩
   ·simp only[loadVar,Sem.run_bind,W7 hd,Result.andThen_ok,p,if_true,qS hd,y];simp[loadCells,loadCellsFrom]
   ·rw[g,y];simp only[c8];exact⟨_,rfl,.nil⟩
  ·have G:off+cells.length<=cs.size:=PJ E (by omega)
   refine⟨.agg (u0 cs off (j7 P t)).toArray,?_,?_⟩
   ·simp only[loadVar,Sem.run_bind,W7 hd,Result.andThen_ok,p,if_true,qS hd];have:=run_loadCells P u off (j7 P t) 0 #[] (by omega)
    simp only[loadCells,this,Result.andThen_ok];simp
   ·rw[g];simp only[c8];refine⟨_,rfl,?_⟩;have i:=c9.take (j7 P t) q;have z:(u0 cs off cells.length).take (j7 P t)=u0 cs off (j7 P t):=by
     unfold u0;rw[List.take_take,Nat.min_eq_left D]
    rw[z]at i;simpa using i
 have f:∀d,P.underlying t=some d->Q1 P t=false->cells.head?=some v->∃x,(loadVar t ⟨b,off,none⟩).run P w=.ok x w/\c8 K H v x:=by
  intro d hd p g;cases cells with
  |nil=>simp at g
  |cons a r=>
   simp only[List.head?_cons,Option.some.injEq]at g;subst g;obtain⟨x,xs,s,i,z⟩:=q.inv;refine⟨x,?_,i⟩;have c:cs[off]? =some x:=by
    have:=O3 (cs:=cs) (o:=off) (n:=(a::r).length) (j:=0) (by simp)
    rw[s]at this;simpa using this.symm
   simp only[loadVar,Sem.run_bind,W7 hd,Result.andThen_ok,p];exact Abs.run_load P u off x c
 unfold FC at h;split at h
 ·cases h
 ·rename_i A hd;split at h
  ·rename_i c;simp only[Bool.and_eq_true,decide_eq_true_eq]at c;cases h;exact l _ hd (by simp[Q1,hd]) c.1 c.2 rfl
  ·cases h
 ·rename_i n B hd;split at h
  ·rename_i c;simp only[Bool.and_eq_true,decide_eq_true_eq]at c;cases h;exact l _ hd (by simp[Q1,hd]) c.1 c.2 rfl
  ·cases h
 ·rename_i d s i hd;split at h
  ·cases h;refine f d hd ?_ rfl;unfold Q1;rw[hd];cases d with
   |struct A=>exact absurd rfl (s A)
   |array n B=>exact absurd rfl (i n B)
   |_=>rfl
  ·cases h
theorem vZ{t:TypeId}{cells:List a7}{v:a7}{off:Nat}{cs:Array Value}(A:c9 K H cells cs.toList)(h:FC P t (cells.drop off)=some v):
  ∃x,(part t cs off).run P w=.ok x w/\c8 K H v x:=by
 have b:=c9.drop off A;have r:=c9.length b;have i:∀d,P.underlying t=some d->Q1 P t=true->j7 P t<=(cells.drop off).length->v=.agg ((cells.drop off).take (j7 P t))->
   ∃x,(part t cs off).run P w=.ok x w/\c8 K H v x:=by
  intro d hd l B c;refine⟨.agg (cs.extract off (off+j7 P t)),?_,?_⟩
  ·simp only[part,Sem.run_bind,W7 hd,Result.andThen_ok,l,if_true,qS hd];rfl
  ·rw[c];simp only[c8];refine⟨_,rfl,?_⟩;have g:=c9.take (j7 P t) b;have s:(cs.toList.drop off).take (j7 P t)=(cs.extract off (off+j7 P t)).toList:=by
    rw[Array.toList_extract];simp[List.extract]
   rw[s]at g;exact g
 have e:∀d,P.underlying t=some d->Q1 P t=false->(cells.drop off).head?=some v->∃x,(part t cs off).run P w=.ok x w/\c8 K H v x:=by
  intro d hd l c;cases j:cells.drop off with
  |nil=>rw[j]at c;simp at c
  |cons a o=>
   rw[j]at c b;simp only[List.head?_cons,Option.some.injEq]at c;subst c;obtain⟨x,xs,p,g,s⟩:=b.inv;refine⟨x,?_,g⟩;have f:cs[off]? =some x:=by
    have u:(cs.toList.drop off)[0]? =some x:=by rw[p];rfl
    rw[List.getElem?_drop]at u;simpa using u
   simp only[part,Sem.run_bind,W7 hd,Result.andThen_ok,l];simp[f]
 unfold FC at h;split at h
 ·cases h
 ·rename_i y hd;split at h
  ·rename_i f;simp only[Bool.and_eq_true,decide_eq_true_eq]at f;cases h;exact i _ hd (by simp[Q1,hd]) f.2 rfl
  ·cases h
 ·rename_i n z hd;split at h
  ·rename_i f;simp only[Bool.and_eq_true,decide_eq_true_eq]at f;cases h;exact i _ hd (by simp[Q1,hd]) f.2 rfl
  ·cases h
 ·rename_i d p g hd;split at h
  ·rename_i a o q;cases h;refine e d hd ?_ (by rw[q];rfl)
   unfold Q1;rw[hd];cases d with
   |struct y=>exact absurd rfl (p y)
   |array n z=>exact absurd rfl (g n z)
   |_=>rfl
  ·cases h
theorem j1{s:Sem Value}{x:Value}{w':World}(h:s.run P w=.ok x w'):(do pure (Next.value (<-s)):Sem Next).run P w=.ok (.value x) w':=by
 simp[h]
theorem Aw:∀ (xs ys:List a7) (e:Bool),dO xs ys=some e->∀ (cs f:List Value),c9 K H xs cs->c9 K H ys f->
  ∃ (l:List (IntKind×Int×Int)),cs=l.map (fun u=>Value.int u.1 u.2.1)/\f=l.map (fun u=>Value.int u.1 u.2.2)/\e=l.all (fun u=>u.2.1==u.2.2)
 |[],[],e,h,cs,f,g,i=>by
  simp only[dO,Option.some.injEq]at h;refine⟨[],by simpa using c9.H8.1 g,by simpa using c9.H8.1 i,by simp[<-h]⟩
 |[.int k a],[.int k' b],e,h,cs,f,g,i=>by
  simp only[dO]at h;split at h
  ·rename_i o;subst o;cases h;obtain⟨c,p,rfl,j,g2⟩:=g.inv;obtain⟨d,q,rfl,n,t⟩:=i.inv;simp only[c8]at j n;subst j n;rw[c9.H8.1 g2,c9.H8.1 t];exact⟨[(k,a,b)],rfl,rfl,by simp⟩
  ·cases h
 |.int k a::x::r,.int k' b::s,e,h,cs,f,g,i=>by
  simp only[dO]at h;split at h
  ·rename_i o;subst o;split at h
   ·rename_i z v;cases h;obtain⟨c,p,rfl,j,g2⟩:=g.inv;obtain⟨d,q,rfl,n,t⟩:=i.inv;simp only[c8]at j n;subst j n;obtain⟨l,rfl,rfl,rfl⟩:=Aw _ _ _ v _ _ g2 t;exact⟨(k,a,b)::l,rfl,rfl,by simp⟩
   ·cases h
  ·cases h
 |[.int k a],.int k' b::y::s,e,h,cs,f,g,i=>by
  simp only[dO]at h;split at h
  ·cases h
  ·cases h
end
end Go.Abs
end
section
namespace Go.Abs
section
variable {P:Program} {F:Nat->Prop} {K:j0} {H:Nat->Option Hd} {w:World} {m:Mm} {nx:Nat} {k:Q->Prop} {ev:Operand->a7} {ρ:Operand->Value}
theorem S1{a:IntKind}{n:Int}{x:Value}(h:c8 K H (.int a n) x):x=.int a n:=by simpa [c8]using h
theorem X9{b:Bool}{x:Value}(h:c8 K H (.bool b) x):x=.bool b:=by simpa [c8]using h
theorem aT(d:Nat)(cs c:Array Value):∀ (g:List Field) (i:Nat) (l:List (IntKind×Int×Int)),aR.go P g i=true->g.length=l.length->
  cs.toList.drop i=l.map (fun u=>Value.int u.1 u.2.1)->c.toList.drop i=l.map (fun u=>Value.int u.1 u.2.2)->
  (Op.eqFields (d+1) cs c g).run P w=.ok (l.all (fun u=>u.2.1==u.2.2)) w
 |[],i,l,_,j,_,_=>by
  simp only[List.length_nil]at j;rw[List.eq_nil_of_length_eq_zero j.symm];simp[Op.eqFields]
 |f::g,i,l,t,j,s,hd=>by
  cases l with
  |nil=>simp at j
  |cons u l=>
   simp only[aR.go,Bool.and_eq_true,decide_eq_true_eq]at t;obtain⟨⟨⟨y,z⟩,p⟩,q⟩:=t;cases e:P.underlying f.type with
   |none=>rw[e]at p;simp at p
   |some A=>
    rw[e]at p;cases A<;>simp at p;rename_i B;have n:Q1 P f.type=false:=by simp[Q1,e]
    have a:∀ (b:Array Value) (v:Value) (r:List Value),b.toList.drop i=v::r->b[i]? =some v:=by
     intro b v r h;have q:(b.toList.drop i)[0]? =some v:=by rw[h];rfl
     rw[List.getElem?_drop]at q;simpa using q
    have o:∀ (b:Array Value) (v:Value) (r:List Value),b.toList.drop i=v::r->b.toList.drop (i+1)=r:=by
     intro b v r h;rw[<-List.drop_drop,h];rfl
    simp only[List.map_cons]at s hd;have C:=a cs _ _ s;have D:=a c _ _ hd;have E:=aT d cs c g (i+1) l q (by simpa using j) (o cs _ _ s) (o c _ _ hd)
    have G:(part f.type cs f.offset).run P w=.ok (.int u.1 u.2.1) w:=by
     simp only[part,Sem.run_bind,W7 e,Result.andThen_ok,n,y];simp[C]
    have I:(part f.type c f.offset).run P w=.ok (.int u.1 u.2.2) w:=by
     simp only[part,Sem.run_bind,W7 e,Result.andThen_ok,n,y];simp[D]
    simp only[Op.eqFields];rw[if_pos (by simpa using z)]
    simp only[Sem.run_bind,G,I,Result.andThen_ok,run_equalIn_int w d f.type u.1 B u.2.1 u.2.2 e,List.all_cons];cases J:(u.2.1==u.2.2)
    ·simp
    ·simp only[Bool.not_true,Bool.false_eq_true,if_false,Bool.true_and];exact E
theorem wA(d:Nat){e:TypeId}{f p:IntKind}(q:P.underlying e=some (.int p))(t:P.cellsOf e=1)(cs r:Array Value):∀ (n i:Nat) (l c:List Int),l.length=n->c.length=n->
  (∀j (h:j<l.length),cs[i+j]? =some (.int f l[j]))->(∀j (h:j<c.length),r[i+j]? =some (.int f c[j]))->
  (Op.eqItems (d+1) e (P.cellsOf e) cs r (List.range' i n)).run P w=.ok (l==c) w
 |0,i,l,c,g,o,_,_=>by
  rw[List.eq_nil_of_length_eq_zero g,List.eq_nil_of_length_eq_zero o];simp[Op.eqItems]
 |n+1,i,[],c,g,o,_,_=>by simp at g
 |n+1,i,a::l,[],g,o,_,_=>by simp at o
 |n+1,i,a::l,b::c,g,o,v,y=>by
  have s:Q1 P e=false:=by simp[Q1,q]
  have z:cs[i]? =some (.int f a):=v 0 (by simp)
  have A:r[i]? =some (.int f b):=y 0 (by simp)
  have B:=wA d q t cs r n (i+1) l c (by simpa using g) (by simpa using o)
   (fun j h=>by have:=v (j+1) (by simpa using h);simpa [Nat.add_assoc,Nat.add_comm 1 j]using this)
   (fun j h=>by have:=y (j+1) (by simpa using h);simpa [Nat.add_assoc,Nat.add_comm 1 j]using this)
  have C:(part e cs (i*P.cellsOf e)).run P w=.ok (.int f a) w:=by
   simp only[part,Sem.run_bind,W7 q,Result.andThen_ok,s,t,Nat.mul_one];simp[z]
  have D:(part e r (i*P.cellsOf e)).run P w=.ok (.int f b) w:=by
   simp only[part,Sem.run_bind,W7 q,Result.andThen_ok,s,t,Nat.mul_one];simp[A]
  simp only[List.range'_succ,Op.eqItems,Sem.run_bind,C,D,Result.andThen_ok,run_equalIn_int w d e f p a b q];have u:((a::l)==(b::c))=(a==b && (l==c)):=rfl;rw[u];cases E:(a==b)
  ·simp
  ·simp only[Bool.not_true,Bool.false_eq_true,if_false,Bool.true_and];exact B
theorem NJ{a:IntKind}{l:List Int}{cs:Array Value}(h:bX K (.int a) l cs 0)(j:Nat)(c:j<l.length):cs[j]? =some (.int a l[j]):=by
 have:=h j c;have d:u0 cs (0+j*1) 1=[Value.int a l[j]]:=this;have b:=O3 (cs:=cs) (o:=0+j*1) (n:=1) (j:=0) (by omega)
 rw[d]at b;simpa using b.symm
theorem dQ{op:BinOp}{t:TypeId}{a b:a7}{x y:Value}{ox oy:Operand}{kk:a7->Prop}(u:c8 K H a x)(A:c8 K H b y)(h:W4 P op t a b kk):
  ∃v z,kk v/\c8 K H v z/\(do eqGuard op t ox oy x y;binOp op t x y:Sem Value).run P w=.ok z w:=by
 unfold W4 at h;split at h
 ·rename_i d c kb nb;have u:=S1 u;have A:=S1 A;subst u A;have f:∀z,(binOp op t (.int d c) (.int kb nb)).run P w=.ok z w->(do eqGuard op t ox oy (.int d c) (.int kb nb);binOp op t (.int d c) (.int kb nb):Sem Value).run P w=.ok z w:=by
   intro z hz;have o:(eqGuard op t ox oy (.int d c) (.int kb nb)).run P w=.ok () w:=by
    cases op<;>simp[eqGuard]
   simp only[Sem.run_bind,o,Result.andThen_ok,hz]
  split at h
  ·obtain⟨o,C⟩:=h;refine⟨_,.int d (XX d c nb),C,by simp[c8],f _ ?_⟩
   simp[binOp,Op.shift,XX,Int.not_lt.2 o]
  ·obtain⟨o,C⟩:=h;refine⟨_,.int d (XY d c nb),C,by simp[c8],f _ ?_⟩
   simp[binOp,Op.shift,XY,Int.not_lt.2 o]
  ·rename_i hs1 hs2;split at h
   ·rename_i U;subst U;cases op<;>simp only at h<;>(try exact absurd h id)
    case add=>exact⟨_,.int d (c+nb),h.2,by simp[c8],f _ (by have e:d.wrap (c+nb)=c+nb:=h.1;simp[binOp,Op.intArith,e])⟩
    case sub=>exact⟨_,.int d (c- nb),h.2,by simp[c8],f _ (by have e:d.wrap (c- nb)=c- nb:=h.1;simp[binOp,Op.intArith,e])⟩
    case mul=>exact⟨_,.int d (c*nb),h.2,by simp[c8],f _ (by have e:d.wrap (c*nb)=c*nb:=h.1;simp[binOp,Op.intArith,e])⟩
    case quo=>
     obtain⟨⟨o,C,V⟩,X⟩:=h;have e:d.wrap (c.tdiv nb)=c/nb:=by rw[Int.tdiv_eq_ediv_of_nonneg o];exact V
     have D:nb≠0:=by omega
     exact⟨_,.int d (c/nb),X,by simp[c8],f _ (by simp[binOp,Op.intDiv,D,e])⟩
    case rem=>
     obtain⟨⟨o,C⟩,X⟩:=h;have e:c.tmod nb=c % nb:=Int.tmod_eq_emod_of_nonneg o;have D:nb≠0:=by omega
     exact⟨_,.int d (c % nb),X,by simp[c8],f _ (by simp[binOp,Op.intDiv,D,e])⟩
    case and=>exact⟨_,.int d (gJ .and d c nb),h,by simp[c8],f _ (by simp[binOp,Op.intBits,gJ])⟩
    case or=>exact⟨_,.int d (gJ .or d c nb),h,by simp[c8],f _ (by simp[binOp,Op.intBits,gJ])⟩
    case xor=>exact⟨_,.int d (gJ .xor d c nb),h,by simp[c8],f _ (by simp[binOp,Op.intBits,gJ])⟩
    case andNot=>exact⟨_,.int d (gJ .andNot d c nb),h,by simp[c8],f _ (by simp[binOp,Op.intBits,gJ])⟩
    case eql=>exact⟨_,_,h,by simp[c8];rfl,f _ (by simp[binOp,Op.intCmp])⟩
    case neq=>exact⟨_,.bool (c !=nb),h,by simp[c8],f _ (by simp[binOp,Op.intCmp])⟩
    case lss=>exact⟨_,.bool (decide (c<nb)),h,by simp[c8],f _ (by simp[binOp,Op.intCmp])⟩
    case leq=>exact⟨_,.bool (decide (c<=nb)),h,by simp[c8],f _ (by simp[binOp,Op.intCmp])⟩
    case gtr=>exact⟨_,.bool (decide (c>nb)),h,by simp[c8],f _ (by simp[binOp,Op.intCmp])⟩
    case geq=>exact⟨_,.bool (decide (c>=nb)),h,by simp[c8],f _ (by simp[binOp,Op.intCmp])⟩
   ·exact absurd h id
 ·rename_i p q;have u:=X9 u;have A:=X9 A;subst u A;split at h
  ·rename_i E;cases op<;>simp only at h<;>(try exact absurd h id)
   case eql=>exact⟨_,.bool (p==q),h,by simp[c8],by simp[eqGuard,binOp,Op.equal,Op.maxDepth,run_equalIn_bool w 9999 t p q E]⟩
   case neq=>exact⟨_,.bool (!(p==q)),h,by simp[c8],by simp[eqGuard,binOp,Op.equal,Op.maxDepth,run_equalIn_bool w 9999 t p q E]⟩
  ·exact absurd h id
 ·rename_i xs ys;split at h
  ·rename_i n;split at h
   ·rename_i e Y;simp only[c8]at u A;obtain⟨cs,rfl,Z⟩:=u;obtain⟨r,rfl,hd⟩:=A;obtain⟨l,o,C,V⟩:=Aw _ _ _ Y _ _ Z hd;unfold aR at n;split at n
    ·rename_i fs E;simp only[Bool.and_eq_true,Bool.not_eq_true',decide_eq_true_eq]at n;obtain⟨⟨⟨g1,g2⟩,g3⟩,I⟩:=n;have J:P.fieldsOf t=fs:=by simp[Program.fieldsOf,E]
     have L:fs.toList.length=l.length:=by
      have:=c9.length Z;rw[o]at this;simp at this ⊢;omega
     have G:=aT (P:=P) (w:=w) 9998 cs r fs.toList 0 l I L (by simpa using o) (by simpa using C)
     have g:(Op.equal t (.agg cs) (.agg r)).run P w=.ok e w:=by
      unfold Op.equal Op.maxDepth;rw[run_equalIn_struct w 9999 t cs r (by rw[J];exact E) g2,J,G,V]
     have s:∀op,(eqGuard op t ox oy (.agg cs) (.agg r)).run P w=.ok () w:=fun op=>run_eqGuard_agg w op t ox oy cs r g3
     cases op<;>simp only at h<;>(try exact absurd h id)
     case eql=>exact⟨_,.bool e,h,by simp[c8],by simp[s,binOp,g]⟩
     case neq=>exact⟨_,.bool (!e),h,by simp[c8],by simp[s,binOp,g]⟩
    ·cases n
   ·exact absurd h id
  ·exact absurd h id
 ·rename_i tx lx ty ly;split at h
  ·rename_i n;obtain⟨n,rfl⟩:=n;split at h
   ·rename_i l M hl N;cases tx<;>simp only[vQ]at hl N<;>(try cases hl)
    rename_i kd;cases N;obtain⟨O,R,h⟩:=h;simp only[c8]at u A;obtain⟨cs,rfl,Z,Ux⟩:=u;obtain⟨r,rfl,hd,Ax⟩:=A;unfold HI at n;split at n
    ·rename_i n' e E;simp only[Bool.and_eq_true,Bool.not_eq_true',decide_eq_true_eq]at n;obtain⟨⟨⟨g1,g2⟩,g3⟩,I⟩:=n;cases B:P.underlying e with
     |none=>rw[B]at I;simp at I
     |some de=>
      rw[B]at I;cases de<;>simp at I;rename_i kd';obtain⟨i,hi⟩:=CO B;have hco:P.cellsOf e=1:=by simpa [Program.cellsOf,j7]using g3
      have s:∀op,(eqGuard op t ox oy (.agg cs) (.agg r)).run P w=.ok () w:=fun op=>run_eqGuard_agg w op t ox oy cs r g2
      have S:∀ (T:List Int) (es:Array Value),T.length=bZ P t->bX K (.int kd) T es 0->∀j (h:j<T.length),es[0+j]? =some (.int kd T[j]):=by
       intro T es _ Y j hj;rw[Nat.zero_add];exact NJ Y j hj
      have G:=wA (P:=P) (w:=w) 9998 B hco cs r (bZ P t) 0 l M O R (S l cs O Ux) (S M r R Ax);have g:(Op.equal t (.agg cs) (.agg r)).run P w=.ok (l==M) w:=by
       unfold Op.equal Op.maxDepth;rw[run_equalIn_array w 9999 cs r E hi,List.range_eq_range',g1];exact G
      cases op<;>simp only at h<;>(try exact absurd h id)
      case eql=>exact⟨_,.bool (l==M),h,by simp[c8],by simp[s,binOp,g]⟩
      case neq=>exact⟨_,.bool (!(l==M)),h,by simp[c8],by simp[s,binOp,g]⟩
    ·cases n
   ·exact absurd h id
  ·exact absurd h id
 ·exact absurd h id
variable (l9:J0 F K w) (hm:j8 F K H w m) (n0:∀x,c8 K H (ev x) (ρ x))
include l9 hm n0
theorem a1K(o:Oper){c a b:Operand}(d:o.op=.pick c a b)(h:match ev c with
  |.bool t=>br t (k (.pure (ev a))) (k (.pure (ev b)))
  |_=>False):I0 P F K H w m nx k ((execOp ρ o).run P w):=by
 split at h
 ·rename_i t e;have f:=X9 (e▸n0 c);rw[tY]at h;simp only[execOp,d,f,asBool,Sem.run_bind,Sem.run_pure,Result.andThen_ok];cases t with
  |true=>exact p9 l9 hm (n0 a) (h.1 rfl)
  |false=>exact p9 l9 hm (n0 b) (h.2 rfl)
 ·exact absurd h id
theorem NK(o:Oper){x:Operand}(j:o.op=.nilCheck x)(h:match ev x with
  |.ptr r i=>k (.pure (.ptr r i))
  |.L8 cs=>k (.pure (.L8 cs))
  |.O2 r=>k (.pure (.O2 r))
  |.fn (.func f) a b=>k (.pure (.fn (.func f) a b))
  |_=>False):I0 P F K H w m nx k ((execOp ρ o).run P w):=by
 have c:=n0 x;split at h
 ·rename_i r i g;rw[g]at c;have d:=c;simp only[c8]at c;obtain⟨hd,b,_,_,e⟩:=c;simp only[execOp,j,e,Sem.run_pure];exact p9 l9 hm (e▸d) h
 ·rename_i cs g;rw[g]at c;have d:=c;simp only[c8]at c;obtain⟨b,off,arr,e,_⟩:=c;simp only[execOp,j,e,Sem.run_pure];exact p9 l9 hm (e▸d) h
 ·rename_i r g;rw[g]at c;have d:=c;simp only[c8]at c;obtain⟨hd,b,_,_,_,e⟩:=c;simp only[execOp,j,e,Sem.run_pure];exact p9 l9 hm (e▸d) h
 ·rename_i f a b g;rw[g]at c;have d:=c;simp only[c8]at c;obtain⟨l,n,e,_⟩:=c;simp only[execOp,j,e,Sem.run_pure];exact p9 l9 hm (e▸d) h
 ·exact absurd h id
theorem Yj(o:Oper){op:BinOp}{t:TypeId}{x y:Operand}{u:TypeId}(a:o.op=.binOp op t x y u)(h:W4 P op t (ev x) (ev y) (fun v=>k (.pure v))):
  I0 P F K H w m nx k ((execOp ρ o).run P w):=by
 obtain⟨v,z,b,c,d⟩:=dQ (w:=w) (ox:=x) (oy:=y) (n0 x) (n0 y) h;simp only[execOp,a];rw[j1 d];exact p9 l9 hm c b
theorem a1L(o:Oper){op:UnOp}{t:TypeId}{x:Operand}(h:match op,ev x with
  |.not,.bool b=>k (.pure (.bool (!b)))
  |.neg,.int a n=>U1 a (-n)/\k (.pure (.int a (-n)))
  |_,_=>False)(f:o.op=.unOp op t x):I0 P F K H w m nx k ((execOp ρ o).run P w):=by
 split at h
 ·rename_i b c;have d:=X9 (c▸n0 x);simp only[execOp,f,d,Op.unary];rw[j1 (x:=.bool (!b)) (w':=w) (by simp)]
  exact p9 l9 hm (by simp[c8]) h
 ·rename_i a n c;have d:=S1 (c▸n0 x);simp only[execOp,f,d,Op.unary];have e:a.wrap (0- n)= -n:=by rw[Int.zero_sub];exact h.1
  rw[j1 (x:=.int a (-n)) (w':=w) (by simp only[Op.intArith,e];simp)]
  exact p9 l9 hm (by simp[c8]) h.2
 ·exact absurd h id
theorem RF(o:Oper){s a:TypeId}{x:Operand}(c:o.op=.convert s a x)(h:match P.underlying s,P.underlying a,ev x with
  |some _,some (.int b),.int _ n=>U1 b n/\k (.pure (.int b n))
  |_,_,_=>False):I0 P F K H w m nx k ((execOp ρ o).run P w):=by
 split at h
 ·rename_i j b ki n d f g;have i:=S1 (g▸n0 x);simp only[execOp,c,i];have e:b.wrap n=n:=h.1;rw[j1 (x:=.int b n) (w':=w) ?_]
  ·exact p9 l9 hm (by simp[c8]) h.2
  ·simp only[convert,Sem.run_bind,u3 d,u3 f,Result.andThen_ok];simp[Conv.intToInt,e]
 ·exact absurd h id
omit l9 hm in
theorem dZ(l:List Operand):c9 K H (l.map ev) (l.map ρ):=by
 induction l with
 |nil=>exact .nil
 |cons x l a=>exact .cons (n0 x) a
theorem NL(o:Oper){a:Fn}{first cap:Array Operand}(b:o.op=.makeFunc a first cap)(h:k (.pure (.fn a (first.toList.map ev) (cap.toList.map ev)))):
  I0 P F K H w m nx k ((execOp ρ o).run P w):=by
 simp only[execOp,b,Instr.makeFunc];rw[j1 (x:=.func a (first.map ρ) (cap.map ρ)) (w':=w) (by simp)]
 refine p9 l9 hm ?_ h;simp only[c8];exact⟨_,_,rfl,by simpa using dZ n0 first.toList,by simpa using dZ n0 cap.toList⟩
omit l9 hm n0 in
theorem oY{s:TypeId}{f off a:Nat}(h:jX P s f=some (off,a)):∃c b,P.underlying s=some (.struct c)/\c[f]? =some b/\b.offset=off/\j7 P b.type≠0/\a=j7 P b.type:=by
 unfold jX at h;split at h
 ·rename_i c d;split at h
  ·rename_i b e;split at h
   ·cases h
   ·rename_i g;simp only[Option.some.injEq,Prod.mk.injEq]at h;exact⟨c,b,d,e,h.1,g,h.2.symm⟩
  ·cases h
 ·cases h
omit l9 hm n0 in
theorem N3{t:TypeId}(h:j7 P t≠0):∃i,P.info? t=some i/\i.size=j7 P t:=by
 unfold j7 at*
 cases hi:P.info? t with
 |none=>rw[hi]at h;simp at h
 |some i=>exact⟨i,rfl,rfl⟩
omit l9 hm n0 in
theorem qT{s:TypeId}{f off a:Nat}(h:jX P s f=some (off,a))(b o:Nat):(Instr.fieldAt s (.pointer (some ⟨b,o,none⟩)) f).run P w=.ok (.pointer (some ⟨b,o+off,none⟩)) w:=by
 obtain⟨j,l,e,g,rfl,d,_⟩:=oY h;obtain⟨i,hi,c⟩:=N3 d;simp only[Instr.fieldAt,Sem.run_bind,u3 e,Result.andThen_ok,g,Instr.sureAddr,Sem.run_pure,fieldPlace,M1 hi];rw[if_neg (by rw[c];exact d)]
 simp[G5]
theorem JO(o:Oper){s:TypeId}{x:Operand}{f:Nat}(l:o.op=.fieldAddr s x f)(h:match jX P s f,ev x with
  |some (off,_),.ptr r o=>k (.pure (.ptr r (o+off)))
  |some (off,_),.L8 cs=>k (.pure (.L8 (cs.drop off)))
  |some (off,_),.P9 r i j=>k (.pure (.P9 r i (j+off)))
  |_,_=>False):I0 P F K H w m nx k ((execOp ρ o).run P w):=by
 have a:=n0 x;split at h
 ·rename_i off p r o' c d;rw[d]at a;simp only[c8]at a;obtain⟨hd,b,n,g,e⟩:=a;simp only[execOp,l,e];rw[j1 (qT c b o')];exact p9 l9 hm (by simp only[c8];exact⟨hd,b,n,g,rfl⟩) h
 ·rename_i off p cs c d;rw[d]at a;simp only[c8]at a;obtain⟨b,o',arr,e,g,t⟩:=a;simp only[execOp,l,e];rw[j1 (qT c b o')];refine p9 l9 hm ?_ h;simp only[c8];refine⟨b,o'+off,arr,rfl,g,?_⟩;have q:=c9.drop off t;have:(u0 arr o' cs.length).drop off=u0 arr (o'+off) (cs.drop off).length:=by
   unfold u0;rw[List.drop_take,List.drop_drop,List.length_drop]
  rw[this]at q;exact q
 ·rename_i off p r i j c d;rw[d]at a;simp only[c8]at a;obtain⟨hd,b,n,g,e⟩:=a;simp only[execOp,l,e];rw[j1 (qT c b _)];exact p9 l9 hm (by simp only[c8];exact⟨hd,b,n,g,by rw[Nat.add_assoc]⟩) h
 ·exact absurd h id
theorem Yk(o:Oper){s:TypeId}{x:Operand}{f:Nat}(j:o.op=.field s x f)(h:match jX P s f,ev x with
  |some (off,_),.agg cs=>(match FC P (eR.Gl P s f) (cs.drop off)with
   |some v=>k (.pure v)
   |none=>False)
  |_,_=>False):I0 P F K H w m nx k ((execOp ρ o).run P w):=by
 have b:=n0 x;split at h
 ·rename_i off u cs l n;rw[n]at b;simp only[c8]at b;obtain⟨arr,e,p⟩:=b;obtain⟨y,q,g,a,c,A,_⟩:=oY l;have d:eR.Gl P s f=q.type:=by simp[eR.Gl,g,a]
  split at h
  ·rename_i v i;rw[d]at i;obtain⟨z,r,t⟩:=vZ (P:=P) (w:=w) p i;simp only[execOp,j,e];rw[j1 (x:=z) (w':=w) ?_]
   ·exact p9 l9 hm t h
   ·simp only[Instr.field,Sem.run_bind,u3 g,Result.andThen_ok,a,asAgg,Sem.run_pure,c,r]
  ·exact absurd h id
 ·exact absurd h id
theorem RG(o:Oper){x:Operand}{i:Nat}(b:o.op=.extract x i)(h:match ev x with
  |.I9 vs=>(match vs[i]? with
   |some v=>k (.pure v)
   |none=>False)
  |_=>False):I0 P F K H w m nx k ((execOp ρ o).run P w):=by
 have a:=n0 x;split at h
 ·rename_i vs d;rw[d]at a;simp only[c8]at a;obtain⟨cs,e,f⟩:=a;split at h
  ·rename_i v g;obtain⟨c,j,l⟩:=c9.get i v f g;simp only[execOp,b,e,Instr.extract];have n:cs[i]? =some c:=by simpa using j
   rw[j1 (x:=c) (w':=w) (by rw[n];rfl)]
   exact p9 l9 hm l h
  ·exact absurd h id
 ·exact absurd h id
end
end Go.Abs
end
section
namespace Go.Abs
section
variable {P:Program} {F:Nat->Prop} {K:j0} {H:Nat->Option Hd} {w:World} {m:Mm} {nx:Nat} {k:Q->Prop} {ev:Operand->a7} {ρ:Operand->Value}
theorem B9(o:Oper){c:Call}{b:Builtin}(a:o.op=.call c)(d:c.callee=.builtin b)(w:World):
  (execOp ρ o).run P w=(builtin b c.argTypes o.type (c.args.map fun|.const _=>true|_=>false) (c.args.map ρ)).run P w:=by
 simp only[execOp,a,resolve,d,Sem.run_bind,Sem.run_pure,Result.andThen_ok,invoke];rfl
theorem HW{hd:Hd}{ty:Ty}{l:List ty.den}{cont:o8 K H w hd (.sl ty l)}{i:Nat}(hi:i<l.length):∃b cs e c,hd.base=some b/\w.heap[b]? =some (.cells cs e c)/\hd.cap*ty.size<=cs.size/\bX K ty l cs 0:=by
 obtain⟨d,f,g,a⟩:=cont;rcases a with⟨_,a⟩|a
 ·omega
 ·exact a
theorem BC{ty:Ty}{l:List ty.den}{cs:Array Value}(b:bX K ty l cs 0){i:Nat}(hi:i<l.length)(j:Nat):
  c9 K H ((ty.cells l[i]).drop j) (u0 cs (i*ty.size+j) ((ty.cells l[i]).drop j).length):=by
 have h:=R4 (H:=H) ty _ _ (b i hi);have a:=c9.drop j h;have:(u0 cs (0+i*ty.size) ty.size).drop j=u0 cs (i*ty.size+j) ((ty.cells l[i]).drop j).length:=by
  unfold u0;rw[List.drop_take,List.drop_drop,List.length_drop,Ty.Q0,Nat.zero_add]
 rw[this]at a;exact a
variable (l9:J0 F K w) (hm:j8 F K H w m) (n0:∀x,c8 K H (ev x) (ρ x))
include l9 hm n0
omit n0 in
theorem Ay{r:Nat}{v:a7}{z:Value}(j:c8 K H v z)(h:gK m r v k):I0 P F K H w m nx k (.ok (.value z) w):=by
 unfold gK at h;split at h
 ·split at h
  ·split at h
   ·rename_i v' c n;have d:=(dD m 6).1 _ _ _ n;obtain⟨l,_⟩:=hm.freeze l9.y6 c d;obtain⟨g,i⟩:=l9.frozen hm c d;have p:∀r f hd b cs e o,(r,f)∈c->H r=some hd->hd.base=some b->w.heap[b]? =some (.cells cs e o)->(K.plus w (R8 H c)).cells b=some cs:=
     fun r f hd b cs e o q s t u=>gT (dC q s t) l9.y6 u
    have y:=(kY hm (K.M9 w (R8 H c)) H (.refl H) 6).1 _ _ _ _ n p j;have a:=uF (nx:=nx) g l (r::N6 c) y;exact⟨_,_,H,h,⟨(K.M9 w (R8 H c)).trans a.le,a.hle,a.I2,a.rep,a.mem,a.ok,a.kept,i.trans a.fix⟩⟩
   ·exact absurd h id
  ·exact L6 l9 hm r j h
 ·exact L6 l9 hm r j h
omit l9 hm n0 in
theorem a4f{T:TypeId}{p q:List a7}{t:Ty}{n off:Nat}{l:List t.den}{v:a7}{b:Nat}{cs:Array Value}{e:TypeId}{G:Nat×Nat}{f c2 o:List Value}(r:w.heap[b]? =some (.cells cs e G))
  (a:cs.toList=f++c2++o)(B:c9 K H p f)(g:c2.length=l.length*t.size/\∀i (h:i<l.length),s9 K t l[i] ((c2.drop (i*t.size)).take t.size))(C:c9 K H q o)(s:l.length=n)(h:a1s P T p t n l q off=some v):
  ∃x,(loadVar T ⟨b,off,none⟩).run P w=.ok x w/\c8 K H v x:=by
 have I:=c9.length B;have M:=c9.length C;have u:cs.size=f.length+c2.length+o.length:=by
  have:=congrArg List.length a;simp at this;omega
 unfold a1s at h;split at h
 ·rename_i y;refine mM r ?_ h;have:u0 cs off (p.drop off).length=f.drop off:=by
   unfold u0;rw[a,List.append_assoc,List.drop_append_of_le_length (by omega),List.take_append_of_le_length (by rw[List.length_drop,List.length_drop];omega),List.take_of_length_le (by rw[List.length_drop,List.length_drop];omega)]
  rw[this];exact B.drop off
 ·split at h
  ·rename_i _ y;split at h
   ·rename_i N O z;split at h
    ·rename_i D;simp only[Option.some.injEq]at h;subst h;have j:u0 cs off (j7 P T)=c2:=by
      unfold u0;rw[a,List.append_assoc,y,<-I,List.drop_left,<-D,<-s,<-g.1,List.take_left]
     have A:Q1 P T=true:=by simp[Q1,z]
     have c:=run_loadCells P r off (j7 P T) 0 #[] (by rw[<-D,<-s,<-g.1,u];omega)
     refine⟨.agg (u0 cs off (j7 P T)).toArray,?_,?_⟩
     ·simp only[Sem.run_bind,Sem.run_pure,Result.andThen_ok,loadVar,W7 z,A,if_true,qS z,loadCells,c];simp
     ·simp only[c8];refine⟨_,rfl,?_,?_⟩
      ·rw[j];simp[g.1]
      ·intro i hi;have:=g.2 i hi;rw[j];simpa [u0]using this
    ·cases h
   ·cases h
  ·split at h
   ·rename_i J L y;refine mM r ?_ h;have E:off=f.length+(c2.length+(off- (p.length+n*t.size))):=by rw[g.1,s];omega
    have:u0 cs off (q.drop (off- (p.length+n*t.size))).length=o.drop (off- (p.length+n*t.size)):=by
     generalize off- (p.length+n*t.size)=d at E;unfold u0;rw[a,E,List.append_assoc,<-List.drop_drop,List.drop_left,<-List.drop_drop,List.drop_left,List.take_of_length_le (by rw[List.length_drop,List.length_drop];omega)]
    rw[this];exact C.drop _
   ·cases h
theorem a1M(o:Oper){t:TypeId}{x:Operand}(R:o.op=.load t x)(h:gL P m t (ev x) k):I0 P F K H w m nx k ((execOp ρ o).run P w):=by
 have s:=n0 x;unfold gL at h;split at h
 ·rename_i r off J;rw[J]at s;simp only[c8]at s;obtain⟨hd,b,L,A,e⟩:=s;split at h
  ·rename_i cells f c;split at h
   ·exact absurd h id
   ·rename_i a;split at h
    ·rename_i v B;obtain⟨V,cs,C,D,d,g2,u⟩:=hm.cont r _ f hd c a L;rw[A]at d;cases d;have y:=c9.drop off u;have M:(cells.drop off).length=cs.size- off:=by
      have:=c9.length u;simp at this ⊢;omega
     obtain⟨z,E,G⟩:=mM (P:=P) g2 (off:=off) (by rw[M,CN];exact y) B
     simp only[execOp,R,e,Instr.loadAt,Instr.sureAddr];rw[j1 (x:=z) (w':=w) (by simpa using E)]
     exact Ay l9 hm G h
    ·exact absurd h id
  ·rename_i p ty n l q f c;split at h
   ·exact absurd h id
   ·rename_i a;split at h
    ·rename_i v B;obtain⟨_,hn,V,cs,C,D,Z,c2,c3,d,g2,u,y,S,g6⟩:=hm.cont r _ f hd c a L;rw[A]at d;cases d;obtain⟨z,E,G⟩:=a4f (P:=P) g2 u y S g6 hn B;simp only[execOp,R,e,Instr.loadAt,Instr.sureAddr];rw[j1 (x:=z) (w':=w) (by simpa using E)]
     exact Ay l9 hm G h
    ·exact absurd h id
  ·exact absurd h id
 ·rename_i cells J;rw[J]at s;simp only[c8]at s;obtain⟨b,off,arr,e,A,E⟩:=s;split at h
  ·rename_i v B;obtain⟨C,D,g⟩:=l9.y6.1 b arr A;obtain⟨z,G,h5⟩:=mM (P:=P) g E B;simp only[execOp,R,e,Instr.loadAt,Instr.sureAddr];rw[j1 (x:=z) (w':=w) (by simpa using G)]
   exact p9 l9 hm h5 h
  ·exact absurd h id
 ·rename_i r i j J;rw[J]at s;simp only[c8]at s;obtain⟨hd,b,L,A,e⟩:=s;split at h
  ·rename_i ty l f c;split at h
   ·exact absurd h id
   ·rename_i a;obtain⟨hi,h⟩:=h;split at h
    ·rename_i v B;have X:=hm.cont r _ f hd c a L;obtain⟨V,cs,C,D,d,g2,u,y⟩:=HW (cont:=X) hi;rw[A]at d;cases d;have M:hd.sz=ty.size:=X.1;obtain⟨z,E,G⟩:=mM (P:=P) g2 (BC (H:=H) y hi j) B;simp only[execOp,R,e,Instr.loadAt,Instr.sureAddr];rw[j1 (x:=z) (w':=w) (by rw[M];simpa using E)]
     exact L6 l9 hm r G h
    ·exact absurd h id
  ·rename_i p ty n l q f c;split at h
   ·exact absurd h id
   ·rename_i a;have a:¬f=.dead/\¬(j<p.length\/p.length+ty.size<j):=not_or.1 a;have hfj:=not_or.1 a.2;obtain⟨hi,h⟩:=h;split at h
    ·rename_i v B;obtain⟨c0,hn,V,cs,C,D,Z,c2,c3,d,g2,u,y,S,g6⟩:=hm.cont r _ f hd c a.1 L;rw[A]at d;cases d;have l1:=c9.length y;have T:(i+1)*ty.size<=l.length*ty.size:=Nat.mul_le_mul_right _ hi;rw[Nat.add_mul]at T;have Ax:=S.2 i hi;have U:c9 K H ((ty.cells l[i]).drop (j- p.length)) (u0 cs (i*hd.sz+j) ((ty.cells l[i]).drop (j- p.length)).length):=by
      have:=c9.drop (j- p.length) (R4 (H:=H) ty _ _ Ax);have e1:u0 cs (i*hd.sz+j) ((ty.cells l[i]).drop (j- p.length)).length=((c2.drop (i*ty.size)).take ty.size).drop (j- p.length):=by
       unfold u0;have ee:i*hd.sz+j=Z.length+(i*ty.size+(j- p.length)):=by rw[c0,l1];omega
       rw[u,ee,List.append_assoc,<-List.drop_drop,List.drop_left,List.length_drop,Ty.Q0,List.drop_take,List.drop_append_of_le_length (by rw[S.1];omega),List.take_append_of_le_length (by rw[List.length_drop,S.1];omega),<-List.drop_drop]
      rw[e1];exact this
     obtain⟨z,E,G⟩:=mM (P:=P) g2 U B;simp only[execOp,R,e,Instr.loadAt,Instr.sureAddr];rw[j1 (x:=z) (w':=w) (by simpa using E)]
     exact L6 l9 hm r G h
    ·exact absurd h id
  ·exact absurd h id
 ·rename_i r J;rw[J]at s;simp only[c8]at s;obtain⟨hd,b,L,A,_,e⟩:=s;split at h
  ·rename_i ty l f n et c hu;split at h
   ·exact absurd h id
   ·rename_i a;obtain⟨I,h⟩:=h;have X:=hm.cont r _ f hd c a L;obtain⟨Z,c2,c3,Y⟩:=X;have N:∃cs C D,w.heap[b]? =some (.cells cs C D)/\hd.cap*ty.size<=cs.size/\bX K ty l cs 0:=by
     rcases Y with⟨Y,_⟩|⟨V,cs,C,D,d,g2,u,y⟩
     ·rw[A]at Y;cases Y
     ·rw[A]at d;cases d;exact⟨cs,C,D,g2,u,y⟩
    obtain⟨cs,C,D,g2,u,y⟩:=N;have hle:l.length*ty.size<=cs.size:=Nat.le_trans (Nat.mul_le_mul_right _ (by omega)) u
    have hag:Q1 P t=true:=by simp[Q1,hu]
    have O:=run_loadCells P g2 0 (j7 P t) 0 #[] (by omega)
    simp only[execOp,R,e,Instr.loadAt,Instr.sureAddr];rw[j1 (x:=.agg (u0 cs 0 (j7 P t)).toArray) (w':=w) ?_]
    ·refine L6 l9 hm r ?_ h;simp only[c8];refine⟨_,rfl,?_,?_⟩
     ·rw[<-I];simp[u0];omega
     ·intro i hi;have:=y i hi;have hs:u0 (u0 cs 0 (j7 P t)).toArray (0+i*ty.size) ty.size=u0 cs (0+i*ty.size) ty.size:=by
       have:u0 (u0 cs 0 (j7 P t)).toArray (0+i*ty.size) ty.size=((u0 cs 0 (j7 P t)).drop (0+i*ty.size)).take ty.size:=by
            unfold u0;simp
       rw[this,yQ]
       ·simp
       ·rw[<-I];have:(i+1)*ty.size<=l.length*ty.size:=Nat.mul_le_mul_right _ hi;rw[Nat.add_mul]at this;omega
      rw[hs];exact this
    ·simp only[Sem.run_bind,Sem.run_pure,Result.andThen_ok,loadVar,W7 hu,hag,if_true,qS hu,loadCells,O];simp
  ·exact absurd h id
 ·exact absurd h id
theorem a4g(o:Oper){c:Call}{x:Operand}{t e:TypeId}(v:o.op=.call c)(y:c.callee=.builtin .len)(z:c.args.toList=[x])(A:c.argTypes.toList=[t])
  (B:P.underlying t=some (.slice e))(h:FG m (ev x) k):I0 P F K H w m nx k ((execOp ρ o).run P w):=by
 have b:=n0 x;have d:∀a n u,ρ x=.slice a n u->(execOp ρ o).run P w=.ok (.value (.int .i64 (n:Int))) w:=by
  intro a n u i;rw[B9 o v y];have j:c.args.map ρ= #[ρ x]:=by
   apply Array.toList_inj.1;simp[z]
  have C:c.argTypes= #[t]:=by
   apply Array.toList_inj.1;simp[A]
  rw[j,C];simp only[builtin];refine j1 ?_;simp only[Builtin.len_,i];simp[u3 B,goInt]
 unfold FG at h;split at h
 ·rename_i i;rw[i]at b;simp only[c8]at b;rw[d _ _ _ b];exact p9 l9 hm (by simp[c8]) h
 ·rename_i D i;rw[i]at b;simp only[c8]at b;rw[d _ _ _ b];exact p9 l9 hm (by simp[c8]) h
 ·rename_i D l f i;rw[i]at b;simp only[c8]at b;obtain⟨base,cap,b,_⟩:=b;rw[d _ _ _ b];exact p9 l9 hm (by simp[c8]) h
 ·rename_i r f i;rw[i]at b;simp only[c8]at b;obtain⟨hd,j,b,_⟩:=b;split at h
  ·rename_i ty l g p;split at h
   ·exact absurd h id
   ·rename_i q;have s:=hm.cont r _ g hd p q j;rw[d _ _ _ b,s.2.1];exact L6 l9 hm r (by simp[c8]) h
  ·exact absurd h id
 ·rename_i r lo len f i;rw[i]at b;simp only[c8]at b;obtain⟨hd,cap,base,j,b,_⟩:=b;rw[d _ _ _ b];exact p9 l9 hm (by simp[c8]) h
 ·exact absurd h id
omit l9 hm n0 in
theorem Az:∀ (l:List a7) (xs:List Value) (d:IntKind) (a b:Int),c9 K H l xs->cA (fun x y=>if y>x then y else x) d a l=some b->
  (xs.foldlM Builtin.max2 (.int d a)).run P w=.ok (.int d b) w
 |[],xs,d,a,b,h,c=>by
  rw[c9.H8.1 h];simp only[cA,Option.some.injEq]at c;simp[c]
 |v::l,xs,d,a,b,h,c=>by
  obtain⟨x,e,rfl,f,g⟩:=h.inv;cases v<;>simp only[cA]at c<;>(try cases c)
  rename_i k' n;split at c
  ·rename_i i;subst i;have:=S1 f;subst this;simp only[List.foldlM_cons,Sem.run_bind,Builtin.max2,Sem.run_pure,Result.andThen_ok];exact Az l e d _ b g c
  ·cases c
omit l9 hm n0 in
theorem AA:∀ (l:List a7) (xs:List Value) (d:IntKind) (a b:Int),c9 K H l xs->cA (fun x y=>if y<x then y else x) d a l=some b->
  (xs.foldlM Builtin.min2 (.int d a)).run P w=.ok (.int d b) w
 |[],xs,d,a,b,h,c=>by
  rw[c9.H8.1 h];simp only[cA,Option.some.injEq]at c;simp[c]
 |v::l,xs,d,a,b,h,c=>by
  obtain⟨x,e,rfl,f,g⟩:=h.inv;cases v<;>simp only[cA]at c<;>(try cases c)
  rename_i k' n;split at c
  ·rename_i i;subst i;have:=S1 f;subst this;simp only[List.foldlM_cons,Sem.run_bind,Builtin.min2,Sem.run_pure,Result.andThen_ok];exact AA l e d _ b g c
  ·cases c
theorem a4h(o:Oper){c:Call}(g:o.op=.call c)(i:c.callee=.builtin .max)(h:match c.args.toList.map ev with
   |.int d a::r=>(match cA (fun x y=>if y>x then y else x) d a r with
    |some b=>k (.pure (.int d b))
    |none=>False)
   |_=>False):I0 P F K H w m nx k ((execOp ρ o).run P w):=by
 have f:=dZ n0 c.args.toList;split at h
 ·rename_i d a r e;rw[e]at f;obtain⟨x,xs,j,l,n⟩:=f.inv;have:=S1 l;subst this;split at h
  ·rename_i b p;rw[B9 o g i];simp only[builtin];rw[j1 (x:=.int d b) (w':=w) ?_]
   ·exact p9 l9 hm (by simp[c8]) h
   ·simp only[Builtin.max_,Array.toList_map,j];exact Az r xs d a b n p
  ·exact absurd h id
 ·exact absurd h id
theorem a4i(o:Oper){c:Call}(g:o.op=.call c)(i:c.callee=.builtin .min)(h:match c.args.toList.map ev with
   |.int d a::r=>(match cA (fun x y=>if y<x then y else x) d a r with
    |some b=>k (.pure (.int d b))
    |none=>False)
   |_=>False):I0 P F K H w m nx k ((execOp ρ o).run P w):=by
 have f:=dZ n0 c.args.toList;split at h
 ·rename_i d a r e;rw[e]at f;obtain⟨x,xs,j,l,n⟩:=f.inv;have:=S1 l;subst this;split at h
  ·rename_i b p;rw[B9 o g i];simp only[builtin];rw[j1 (x:=.int d b) (w':=w) ?_]
   ·exact p9 l9 hm (by simp[c8]) h
   ·simp only[Builtin.min_,Array.toList_map,j];exact AA r xs d a b n p
  ·exact absurd h id
 ·exact absurd h id
omit l9 hm n0 in
theorem jF{t e:TypeId}{a:Int}{ki:IntKind}{b off len cap:Nat}(d:P.underlying t=some (.slice e))(f:j7 P e≠0)(g:0<=a)(j:a.toNat<len):
  (Instr.indexAt t (.slice (some ⟨b,off,none⟩) len cap) (.int ki a)).run P w=.ok (.pointer (some ⟨b,off+a.toNat*j7 P e,none⟩)) w:=by
 obtain⟨i,hi,c⟩:=N3 f;have h:a<(len:Int):=by omega
 simp only[Instr.indexAt,Sem.run_bind,asIntOf,Sem.run_pure,Result.andThen_ok,u3 d];simp[g,h,M1 hi,c,G5]
theorem JP(o:Oper){t:TypeId}{x y:Operand}(N:o.op=.indexAddr t x y)(h:J3 P m t (ev x) (ev y) k):I0 P F K H w m nx k ((execOp ρ o).run P w):=by
 have j:=n0 x;have E:=n0 y;unfold J3 at h;split at h
 ·rename_i ki a S;rw[S]at E;have E:=S1 E;split at h
  ·rename_i e L;split at h
   ·rename_i ty l f A;rw[A]at j;simp only[c8]at j;split at h
    ·rename_i c;obtain⟨⟨B,v⟩,h⟩:=h;obtain⟨base,cap,C,O,_,M⟩:=j;rcases M with M|⟨b,off,arr,M,U,Y⟩
     ·rw[M]at v;simp at v
     ·have d:=jF (P:=P) (w:=w) (ki:=ki) (b:=b) (off:=off) (cap:=cap) L (by rw[c];have:=ty.size_pos;omega) B v
      simp only[execOp,N,C,M,E];rw[j1 d];refine p9 l9 hm ?_ h;simp only[c8];refine⟨b,off+a.toNat*j7 P e,arr,rfl,U,?_⟩;have:=Y a.toNat v;rw[Ty.Q0,c];exact R4 ty _ _ this
    ·exact absurd h id
   ·rename_i r f A;rw[A]at j;simp only[c8]at j;obtain⟨hd,z,C,_⟩:=j;split at h
    ·rename_i ty l g s;split at h
     ·rename_i G;obtain⟨c,u⟩:=G;obtain⟨⟨B,v⟩,h⟩:=h;have D:=hm.cont r _ g hd s u z;obtain⟨b,cs,e',fz,V,g2,g3,g4⟩:=HW (cont:=D) v;have d:=jF (P:=P) (w:=w) (ki:=ki) (b:=b) (off:=0) (len:=hd.len) (cap:=hd.cap) L (by rw[c];have:=ty.size_pos;omega) B (by rw[D.2.1];exact v)
      simp only[execOp,N,C,V,E,Option.map_some];rw[j1 d];refine L6 l9 hm r ?_ h;simp only[c8];exact⟨hd,b,z,V,by rw[D.1,c];simp⟩
     ·exact absurd h id
    ·exact absurd h id
   ·rename_i r lo len f A;rw[A]at j;simp only[c8]at j;obtain⟨hd,cap,base,z,C,O,M,U,_,R⟩:=j;split at h
    ·rename_i ty l g s;split at h
     ·rename_i G;obtain⟨c,u⟩:=G;obtain⟨⟨B,v⟩,h⟩:=h;have D:=hm.cont r _ g hd s u z;rcases R with R|⟨b,R,Z⟩
      ·omega
      ·have d:=jF (P:=P) (w:=w) (ki:=ki) (b:=b) (off:=lo*hd.sz) (len:=len) (cap:=cap) L (by rw[c];have:=ty.size_pos;omega) B v
       simp only[execOp,N,C,Z,E];rw[j1 d];refine L6 l9 hm r ?_ h;simp only[c8];exact⟨hd,b,z,R,by rw[D.1,c,Nat.add_mul];simp⟩
     ·exact absurd h id
    ·exact absurd h id
   ·exact absurd h id
  ·rename_i n e L;split at h
   ·rename_i r A;rw[A]at j;simp only[c8]at j;obtain⟨hd,b,z,C,_,O⟩:=j;split at h
    ·rename_i ty l g s;split at h
     ·rename_i G;obtain⟨c,u⟩:=G;obtain⟨⟨B,v⟩,h⟩:=h;have D:=hm.cont r _ g hd s u z;have I:j7 P e≠0:=by rw[c];have:=ty.size_pos;omega
      obtain⟨i,hi,J⟩:=N3 I;have T:a<(n:Int):=by omega
      simp only[execOp,N,O,E];rw[j1 (x:=.pointer (some ⟨b,a.toNat*j7 P e,none⟩)) (w':=w) ?_]
      ·refine L6 l9 hm r ?_ h;simp only[c8];exact⟨hd,b,z,C,by rw[D.1,c];simp⟩
      ·simp only[Instr.indexAt,Sem.run_bind,asIntOf,Sem.run_pure,Result.andThen_ok,u3 L,Instr.sureAddr];simp[B,T,M1 hi,J,G5]
     ·exact absurd h id
    ·exact absurd h id
   ·rename_i r off A;rw[A]at j;simp only[c8]at j;obtain⟨hd,b,z,C,O⟩:=j;split at h
    ·rename_i p ty n' l q g s;split at h
     ·rename_i G;obtain⟨⟨c,u⟩,X,hn'⟩:=G;obtain⟨⟨B,v⟩,h⟩:=h;have D:=hm.cont r _ g hd s u z;have I:j7 P e≠0:=by rw[c];have:=ty.size_pos;omega
      obtain⟨i,hi,J⟩:=N3 I;have T:a<(n:Int):=by omega
      simp only[execOp,N,O,E];rw[j1 (x:=.pointer (some ⟨b,off+a.toNat*j7 P e,none⟩)) (w':=w) ?_]
      ·refine L6 l9 hm r ?_ h;simp only[c8];exact⟨hd,b,z,C,by rw[D.1,c,Nat.add_comm]⟩
      ·simp only[Instr.indexAt,Sem.run_bind,asIntOf,Sem.run_pure,Result.andThen_ok,u3 L,Instr.sureAddr];simp[B,T,M1 hi,J,G5]
     ·exact absurd h id
    ·exact absurd h id
   ·exact absurd h id
  ·exact absurd h id
 ·exact absurd h id
theorem Yl(o:Oper){t:TypeId}{x y:Operand}(O:o.op=.index t x y)(h:match P.underlying t,ev x,ev y with
  |some (.array n e),.V5 ty l,.int _ a=>if j7 P e=ty.size then ∃h:0<=a/\a.toNat<l.length,a.toNat<n/\l.length=n/\(match FC P e (ty.cells (l[a.toNat]'h.2))with
   |some v=>k (.pure v)
   |none=>False)else False
  |_,_,_=>False):I0 P F K H w m nx k ((execOp ρ o).run P w):=by
 have d:=n0 x;have q:=n0 y;split at h
 ·rename_i n e ty l ki a R S r;rw[r]at q;have q:=S1 q;rw[S]at d;simp only[c8]at d;obtain⟨cs,T,U,V⟩:=d;split at h
  ·rename_i g;obtain⟨⟨X,M⟩,h2,h3,h⟩:=h;split at h
   ·rename_i v b;have s:j7 P e≠0:=by rw[g];have:=ty.size_pos;omega
    obtain⟨i,hi,u⟩:=N3 s;have Y:a<(n:Int):=by omega
    have A:=R4 (H:=H) ty _ _ (V a.toNat M);have c:c9 K H (List.replicate (a.toNat*ty.size) a7.R3++ty.cells l[a.toNat]++List.replicate (cs.size- (a.toNat*ty.size+ty.size)) a7.R3) cs.toList:=by
     have f:∀ (n:Nat) (xs:List Value),xs.length=n->c9 K H (List.replicate n a7.R3) xs:=by
      intro n
      induction n with
      |zero=>intro xs d;rw[List.eq_nil_of_length_eq_zero d];exact .nil
      |succ n Z=>
       intro xs d;cases xs with
       |nil=>simp at d
       |cons x xs=>exact .cons (by simp[c8]) (Z xs (by simpa using d))
     have hb:a.toNat*ty.size+ty.size<=cs.size:=by
      rw[U];have:(a.toNat+1)*ty.size<=l.length*ty.size:=Nat.mul_le_mul_right _ M;rw[Nat.add_mul]at this;omega
     have B:cs.toList=cs.toList.take (a.toNat*ty.size)++u0 cs (0+a.toNat*ty.size) ty.size++cs.toList.drop (a.toNat*ty.size+ty.size):=by
      unfold u0;rw[Nat.zero_add,<-List.drop_drop,List.append_assoc,List.take_append_drop,List.take_append_drop]
     rw[B];exact c9.append (c9.append (f _ _ (by simp;omega)) A) (f _ _ (by simp))
    have C:∃z,(part e cs (a.toNat*ty.size)).run P w=.ok z w/\c8 K H v z:=by
     cases j:P.underlying e with
     |none=>simp[FC,j]at b
     |some de=>
      have D:(cells:List a7)->FC P e (ty.cells l[a.toNat])=some v->FC P e (ty.cells l[a.toNat]++cells)=some v:=by
       intro cells b;have E:j7 P e<=(ty.cells l[a.toNat]).length:=by rw[Ty.Q0,g];exact Nat.le_refl _
       have G:(ty.cells l[a.toNat]++cells).take (j7 P e)=(ty.cells l[a.toNat]).take (j7 P e):=by
        rw[List.take_append_of_le_length E]
       have I:ty.cells l[a.toNat]≠ []:=by
        intro e0;have:=Ty.Q0 ty l[a.toNat];rw[e0]at this;have:=ty.size_pos;simp at*;omega
       unfold FC at b ⊢;rw[j]at b ⊢;cases de<;>simp only at b ⊢ <;>first
        |(rw[G]
          split at b
          ·rename_i N;rw[if_pos ?_]
           ·exact b
           ·simp only[Bool.and_eq_true,decide_eq_true_eq,List.length_append]at N ⊢;exact⟨N.1,by omega⟩
          ·cases b)
        |(cases p:ty.cells l[a.toNat]with
          |nil=>exact absurd p I
          |cons c0 cr=>
           rw[p]at b
           simpa using b)
      refine vZ (cells:=List.replicate (a.toNat*ty.size) a7.R3++ty.cells l[a.toNat]++List.replicate (cs.size- (a.toNat*ty.size+ty.size)) a7.R3) c ?_;rw[List.append_assoc,List.drop_left' (by simp)]
      exact D _ b
    obtain⟨z,J,L⟩:=C;simp only[execOp,O,T,q];rw[j1 (x:=z) (w':=w) ?_]
    ·exact p9 l9 hm L h
    ·simp only[Instr.index,Sem.run_bind,asIntOf,Sem.run_pure,Result.andThen_ok,u3 R];simp only[Sem.run_ite];rw[if_pos ⟨X,Y⟩];simp only[Sem.run_bind,M1 hi,Result.andThen_ok,u,g];exact J
   ·exact absurd h id
  ·exact absurd h id
 ·exact absurd h id
end
end Go.Abs
end
section
namespace Go.Abs
section
variable {P:Program} {F:Nat->Prop} {K:j0} {H:Nat->Option Hd} {w:World} {m:Mm} {nx:Nat} {k:Q->Prop} {ev:Operand->a7} {ρ:Operand->Value}
theorem M4{a:Int}{n:Nat}{ki:IntKind}{c:BoundsCode}(b:0<=a)(d:a<=(n:Int)):(Instr.sliceBound (.int ki a) n c).run P w=.ok a.toNat w:=by
 simp[Instr.sliceBound,asIntOf,b,d]
theorem kZ{t e:TypeId}(c:P.underlying t=some (.slice e)){i:TypeInfo}(hi:P.info? e=some i)(base:Option Addr)(len cap:Nat)(lo a mx:Option Value)(l h b:Nat)
  (d:(Instr.sliceBounds true len cap lo a mx).run P w=.ok (l,h,b) w):
  (Instr.sliceAt t (.slice base len cap) lo a mx).run P w=.ok (.slice (if b=l then base else base.map (·.add (l*i.size))) (h- l) (b- l)) w:=by
 simp only[Instr.sliceAt,Sem.run_bind,u3 c,Result.andThen_ok,Instr.slice,d,M1 hi];rfl
theorem RH{ty:Ty}{l:List ty.den}{f:Bool}{base:Option Addr}{cap lo hi d:Nat}(p:kO K ty l f (.slice base l.length cap))(u:lo<=hi)(j:hi<=l.length)(v:hi<=d)(a:Bool)(q:a=true->d=hi):
  kO K ty ((l.drop lo).take (hi- lo)) a (.slice (if d=lo then base else base.map (·.add (lo*ty.size))) (hi- lo) (d- lo)):=by
 have c:((l.drop lo).take (hi- lo)).length=hi- lo:=by simp;omega
 obtain⟨g,n,o,y,z,e⟩:=p;simp only[Value.slice.injEq]at o;obtain⟨rfl,_,rfl⟩:=o;refine⟨_,d- lo,by rw[c],by omega,fun h=>by rw[c,q h],?_⟩
 by_cases A:hi- lo=0
 ·exact .inl (List.eq_nil_of_length_eq_zero (by omega))
 ·rcases e with e|⟨b,off,arr,e,r,s⟩
  ·rw[e]at j;simp at j;omega
  ·right;refine⟨b,off+lo*ty.size,arr,?_,r,?_⟩
   ·rw[if_neg (by omega),e];simp[G5]
   ·intro i t;rw[List.getElem_take,List.getElem_drop];have:=s (lo+i) (by omega)
    rw[Nat.add_mul,<-Nat.add_assoc]at this;exact this
theorem RI{r:Nat}{f:Bool}{hd:Hd}(hh:H r=some hd){base:Option Addr}(e:base=hd.base.map fun b=>⟨b,0,none⟩)(c:hd.base=none->hd.cap=0){lo hi a:Nat}(j:lo<=hi)(l:hi<=hd.len)(n:hi<=a)(o:a<=hd.cap)(g:f=true->a=hi):
  c8 K H (.sub r lo (hi- lo) f) (.slice (if a=lo then base else base.map (·.add (lo*hd.sz))) (hi- lo) (a- lo)):=by
 simp only[c8];refine⟨hd,a- lo,_,hh,rfl,by omega,by omega,by omega,fun h=>by rw[g h],?_⟩
 by_cases i:a=lo
 ·left;omega
 ·right;rw[if_neg i];cases d:hd.base with
  |none=>have:=c d;omega
  |some b=>exact⟨b,rfl,by rw[e,d];simp[G5]⟩
theorem Uy{hd:Hd}{ty:Ty}{l:List ty.den}(h:o8 K H w hd (.sl ty l)):hd.base=none->hd.cap=0:=by
 intro c;obtain⟨_,_,_,a⟩:=h;rcases a with a|⟨b,_,_,_,a,_⟩
 ·exact a.2
 ·rw[c]at a;cases a
theorem Y0{e:TypeId}{ty:Ty}(h:j7 P e=ty.size):∃i,P.info? e=some i/\i.size=ty.size:=by
 obtain⟨i,hi,a⟩:=N3 (P:=P) (t:=e) (by rw[h];have:=ty.size_pos;omega)
 exact⟨i,hi,by rw[a,h]⟩
variable (l9:J0 F K w) (hm:j8 F K H w m) (n0:∀x,c8 K H (ev x) (ρ x))
include l9 hm n0
omit l9 hm in
theorem qU{lo:Option Operand}{b:IntKind}{a:Int}(h:lo.map ev=some (.int b a)):lo.map ρ=some (.int b a):=by
 cases lo with
 |none=>simp at h
 |some x=>
  simp only[Option.map_some,Option.some.injEq]at h ⊢;exact S1 (h▸n0 x)
omit l9 hm n0 in
theorem cH{lo:Option Operand}(h:lo.map ev=none):lo.map ρ=none:=by
 cases lo with
 |none=>rfl
 |some x=>simp at h
theorem qV(o:Oper){t e:TypeId}{x:Operand}{lo hi mx:Option Operand}(z:o.op=.slice t x lo hi mx)(A:P.underlying t=some (.slice e)){ty:Ty}(p:j7 P e=ty.size)
  {l:List ty.den}{f:Bool}(B:ev x=.P5 ty l f)(a b:Nat)(c:Bool)(q:a<=b)(C:b<=l.length)
  (d:∀cap,l.length<=cap->(Instr.sliceBounds true l.length cap (lo.map ρ) (hi.map ρ) (mx.map ρ)).run P w=.ok (a,b,if c=true then b else cap) w)
  {v:List ty.den}(r:v=(l.drop a).take (b- a))(D:k (.pure (.P5 ty v c))):I0 P F K H w m nx k ((execOp ρ o).run P w):=by
 subst r;have n:=n0 x;rw[B]at n;simp only[c8]at n;obtain⟨i,s,u⟩:=Y0 p;have g:=n;obtain⟨base,cap,y,E,G,I⟩:=n;rw[y]at g;have j:=kZ (P:=P) (w:=w) A s base l.length cap _ _ _ _ _ _ (d cap E);simp only[execOp,z,y];rw[j1 j,u];refine p9 l9 hm ?_ D;simp only[c8];refine RH g q C ?_ c (fun h=>by rw[if_pos h])
 split<;>omega
theorem qW(o:Oper){t e:TypeId}{x:Operand}{lo hi mx:Option Operand}(C:o.op=.slice t x lo hi mx)(D:P.underlying t=some (.slice e)){ty:Ty}(s:j7 P e=ty.size)
  {l:List ty.den}{r:Nat}{f:Bool}{g:p8}(E:ev x=.B6 r f)(u:m r=some (.sl ty l,g))(G:g≠ .dead)(a b:Nat)(d:Bool)(v:a<=b)(N:b<=l.length)
  (c:∀cap,l.length<=cap->(Instr.sliceBounds true l.length cap (lo.map ρ) (hi.map ρ) (mx.map ρ)).run P w=.ok (a,b,if d=true then b else cap) w)
  {n:Nat}(I:n=b- a)(J:k (.read (.sub r a n d) r)):I0 P F K H w m nx k ((execOp ρ o).run P w):=by
 subst I;have y:=n0 x;rw[E]at y;simp only[c8]at y;obtain⟨hd,B,L,_⟩:=y;have q:=hm.cont r _ g hd u G B;have j:hd.len=l.length:=q.2.1;have M:hd.len<=hd.cap:=q.2.2.1.1;obtain⟨i,z,A⟩:=Y0 s;have p:=kZ (P:=P) (w:=w) D z (hd.base.map fun b=>⟨b,0,none⟩) l.length hd.cap _ _ _ _ _ _ (c hd.cap (by omega))
 simp only[execOp,C,L,j];rw[j1 p,A,<-q.1];refine L6 l9 hm r ?_ J;refine RI B rfl (Uy q) v (by omega) ?_ ?_ ?_
 ·split<;>omega
 ·split<;>omega
 ·intro h;rw[if_pos h]
theorem Ym(o:Oper){t:TypeId}{x:Operand}{lo hi mx:Option Operand}(I:o.op=.slice t x lo hi mx)(h:eI P m t (ev x) (lo.map ev) (hi.map ev) (mx.map ev) k):
  I0 P F K H w m nx k ((execOp ρ o).run P w):=by
 unfold eI at h;split at h
 ·rename_i q s u;have v:=cH (ρ:=ρ) q;have y:=cH (ρ:=ρ) s;have z:=cH (ρ:=ρ) u;split at h
  ·rename_i n e r B C;have L:=n0 x;rw[C]at L;simp only[c8]at L;obtain⟨hd,b,p,E,J,S⟩:=L;split at h
   ·rename_i ty l g A;split at h
    ·exact absurd h id
    ·rename_i R;have M:g≠ .dead:=fun e=>R (.inl e)
     have d:j7 P e=ty.size:=by
      rcases Decidable.em (j7 P e=ty.size)with N|N
      ·exact N
      ·exact absurd (.inr N) R
     obtain⟨T,h⟩:=h;have D:=hm.cont r _ g hd A M p;obtain⟨i,O,U⟩:=Y0 d;simp only[execOp,I,S,v,y,z];rw[j1 (x:=.slice (some ⟨b,0,none⟩) n n) (w':=w) ?_]
     ·refine L6 l9 hm r ?_ h;simp only[c8];have V:hd.len=n:=by rw[D.2.1,T]
      exact⟨hd,p,by rw[E,J,V];rfl,fun _=>J⟩
     ·simp only[Instr.sliceAt,Sem.run_bind,u3 B,Result.andThen_ok,Instr.sureAddr,Sem.run_pure,Instr.sliceBounds,M1 O];simp[G5]
   ·exact absurd h id
  ·exact absurd h id
 ·rename_i a q s u;have v:=qU n0 q;have y:=cH (ρ:=ρ) s;have z:=cH (ρ:=ρ) u;have G:∀ (n cap:Nat),0<=a->a<=(n:Int)->(Instr.sliceBounds true n cap (lo.map ρ) (hi.map ρ) (mx.map ρ)).run P w=.ok (a.toNat,n,if false=true then n else cap) w:=by
   intro n cap j p;rw[v,y,z];simp[Instr.sliceBounds,M4 j p]
  split at h
  ·rename_i e ty l f B C;split at h
   ·rename_i d;obtain⟨⟨j,p⟩,h⟩:=h;exact qV l9 hm n0 o I B d C a.toNat l.length false (by omega) (Nat.le_refl _) (fun cap _=>G _ cap j p) (List.take_of_length_le (by simp)).symm h
   ·exact absurd h id
  ·rename_i e r f B C;split at h
   ·rename_i ty l g A;split at h
    ·rename_i d;obtain⟨⟨j,p⟩,h⟩:=h;exact qW l9 hm n0 o I B d.1 C A d.2 a.toNat l.length false (by omega) (Nat.le_refl _) (fun cap _=>G _ cap j p) rfl h
    ·exact absurd h id
   ·exact absurd h id
  ·exact absurd h id
 ·rename_i b q s u;have v:=cH (ρ:=ρ) q;have y:=qU n0 s;have z:=cH (ρ:=ρ) u;have G:∀ (n cap:Nat),n<=cap->0<=b->b<=(n:Int)->(Instr.sliceBounds true n cap (lo.map ρ) (hi.map ρ) (mx.map ρ)).run P w=.ok (0,b.toNat,if false=true then b.toNat else cap) w:=by
   intro n cap D j p;rw[v,y,z];simp[Instr.sliceBounds,M4 (n:=cap) j (by omega)]
  split at h
  ·rename_i e ty l f B C;split at h
   ·rename_i d;obtain⟨⟨j,p⟩,h⟩:=h;exact qV l9 hm n0 o I B d C 0 b.toNat false (by omega) (by omega) (fun cap D=>G _ cap D j p) (by simp) h
   ·exact absurd h id
  ·rename_i e r f B C;split at h
   ·rename_i ty l g A;split at h
    ·rename_i d;obtain⟨⟨j,p⟩,h⟩:=h;exact qW l9 hm n0 o I B d.1 C A d.2 0 b.toNat false (by omega) (by omega) (fun cap D=>G _ cap D j p) (by simp) h
    ·exact absurd h id
   ·exact absurd h id
  ·exact absurd h id
 ·rename_i b c q s u;have v:=cH (ρ:=ρ) q;have y:=qU n0 s;have z:=qU n0 u;have G:∀ (n cap:Nat),n<=cap->0<=b->b<=(n:Int)->c=b->(Instr.sliceBounds true n cap (lo.map ρ) (hi.map ρ) (mx.map ρ)).run P w=.ok (0,b.toNat,if true=true then b.toNat else cap) w:=by
   intro n cap D j p E;subst E;rw[v,y,z];simp only[Instr.sliceBounds,Sem.run_bind,M4 (n:=cap) j (by omega),Result.andThen_ok,M4 (a:=c) (n:=c.toNat) j (by omega)]
   simp
  split at h
  ·rename_i e ty l f B C;split at h
   ·rename_i d;obtain⟨⟨j,p,E⟩,h⟩:=h;exact qV l9 hm n0 o I B d C 0 b.toNat true (by omega) (by omega) (fun cap D=>G _ cap D j p E) (by simp) h
   ·exact absurd h id
  ·rename_i e r f B C;split at h
   ·rename_i ty l g A;split at h
    ·rename_i d;obtain⟨⟨j,p,E⟩,h⟩:=h;exact qW l9 hm n0 o I B d.1 C A d.2 0 b.toNat true (by omega) (by omega) (fun cap D=>G _ cap D j p E) (by simp) h
    ·exact absurd h id
   ·exact absurd h id
  ·exact absurd h id
 ·rename_i a b q s u;have v:=qU n0 q;have y:=qU n0 s;have z:=cH (ρ:=ρ) u;have G:∀ (n cap:Nat),n<=cap->0<=a->a<=b->b<=(n:Int)->(Instr.sliceBounds true n cap (lo.map ρ) (hi.map ρ) (mx.map ρ)).run P w=.ok (a.toNat,b.toNat,if false=true then b.toNat else cap) w:=by
   intro n cap D j p E;rw[v,y,z];simp only[Instr.sliceBounds,Sem.run_bind,Sem.run_pure,Result.andThen_ok,M4 (a:=b) (n:=cap) (by omega) (by omega),M4 (a:=a) (n:=b.toNat) j (by omega)]
   simp
  split at h
  ·rename_i e ty l f B C;split at h
   ·rename_i d;obtain⟨⟨j,p,E⟩,h⟩:=h;exact qV l9 hm n0 o I B d C a.toNat b.toNat false (by omega) (by omega) (fun cap D=>G _ cap D j p E) rfl h
   ·exact absurd h id
  ·rename_i e r f B C;split at h
   ·rename_i ty l g A;split at h
    ·rename_i d;obtain⟨⟨j,p,E⟩,h⟩:=h;exact qW l9 hm n0 o I B d.1 C A d.2 a.toNat b.toNat false (by omega) (by omega) (fun cap D=>G _ cap D j p E) rfl h
    ·exact absurd h id
   ·exact absurd h id
  ·exact absurd h id
 ·exact absurd h id
end
end Go.Abs
end
section
namespace Go.Abs
section
variable {P:Program} {F:Nat->Prop} {K:j0} {H:Nat->Option Hd} {w:World} {m:Mm} {nx:Nat} {k:Q->Prop} {ev:Operand->a7} {ρ:Operand->Value}
theorem B5.nil{t:Ty}:B5 K t [] []:=⟨by simp,fun i h=>by simp at h⟩
theorem B5.cons{t:Ty}{x:t.den}{l:List t.den}{c cs:List Value}(h:s9 K t x c)(b:B5 K t l cs):B5 K t (x::l) (c++cs):=by
 have a:=s9.length t _ _ h;refine⟨by simp[b.1,a,Nat.add_mul];omega,fun i hi=>?_⟩
 cases i with
 |zero=>simp only[Nat.zero_mul,List.drop_zero,List.getElem_cons_zero];rw[List.take_left' a];exact h
 |succ i=>
  simp only[List.getElem_cons_succ];have:=b.2 i (by simpa using hi)
  rw[Nat.add_mul,Nat.one_mul,Nat.add_comm,<-List.drop_drop,List.drop_left' a];exact this
theorem B5.append{t:Ty}{l c:List t.den}{cs b:List Value}(h:B5 K t l cs)(f:B5 K t c b):B5 K t (l++c) (cs++b):=by
 refine⟨by simp[h.1,f.1,Nat.add_mul],fun i hi=>?_⟩
 by_cases a:i<l.length
 ·rw[List.getElem_append_left a];have:=h.2 i a;have d:(i+1)*t.size<=l.length*t.size:=Nat.mul_le_mul_right _ a;rw[Nat.add_mul]at d;rw[List.drop_append_of_le_length (by rw[h.1];omega),List.take_append_of_le_length (by rw[List.length_drop,h.1];omega)]
  exact this
 ·rw[List.getElem_append_right (by omega)]
  have e:i- l.length<c.length:=by simp at hi;omega
  have:=f.2 (i- l.length) e;have g:i*t.size=cs.length+(i- l.length)*t.size:=by
   rw[h.1,<-Nat.add_mul];congr 1;omega
  rw[g,<-List.drop_drop,List.drop_left];exact this
theorem B5.elems{t:Ty}{l:List t.den}{cs rest:List Value}(h:B5 K t l cs):bX K t l (cs++rest).toArray 0:=by
 intro i hi;have:=h.2 i hi;have a:(i+1)*t.size<=l.length*t.size:=Nat.mul_le_mul_right _ hi;rw[Nat.add_mul]at a;unfold u0;rw[Nat.zero_add,List.drop_append_of_le_length (by rw[h.1];omega),List.take_append_of_le_length (by rw[List.length_drop,h.1];omega)]
 exact this
theorem bX.zB{t:Ty}{l:List t.den}{cs:Array Value}{off:Nat}(h:bX K t l cs off)(b:off+l.length*t.size<=cs.size):B5 K t l (u0 cs off (l.length*t.size)):=by
 refine⟨JE b,fun i hi=>?_⟩
 have a:(i+1)*t.size<=l.length*t.size:=Nat.mul_le_mul_right _ hi;rw[Nat.add_mul]at a;rw[yQ (by omega)]
 exact h i hi
theorem bX.bound{t:Ty}{l:List t.den}{cs:Array Value}{off:Nat}(h:bX K t l cs off)(c:l≠ []):off+l.length*t.size<=cs.size:=by
 have b:0<l.length:=by cases l with|nil=>exact absurd rfl c|cons a l=>simp
 have:=s9.length t _ _ (h (l.length- 1) (by omega))
 have:=PJ this t.size_pos;have d:(l.length- 1)*t.size+t.size=l.length*t.size:=by
  rw[<-Nat.succ_mul];congr 1;omega
 omega
theorem B5.replicate{t:Ty}{x:t.den}{c:List Value}(h:s9 K t x c):∀n,B5 K t (List.replicate n x) ((List.replicate n c).flatten)
 |0=>by simpa using B5.nil
 |n+1=>by
  rw[List.replicate_succ,List.replicate_succ,List.flatten_cons];exact .cons h (B5.replicate h n)
theorem HX:∀ (t:Ty) (x:t.den) (cs:List Value),s9 K t x cs->∀v∈cs,v.oneCell'=true
 |.int _,_,_,h,v,c=>by have h:_=_:=h;subst h;simp at c;subst c;rfl
 |.bool,_,_,h,v,c=>by have h:_=_:=h;subst h;simp at c;subst c;rfl
 |.slice _,_,_,h,v,c=>by obtain⟨_,_,rfl,_⟩:=h;simp at c;subst c;rfl
 |.pair a b,_,_,h,v,c=>by
  obtain⟨f,g,rfl,d,e⟩:=h;rcases List.mem_append.1 c with h|h
  ·exact HX a _ _ d v h
  ·exact HX b _ _ e v h
theorem wB{v:Value}(h:v.oneCell'=true):one v=true:=by cases v<;>simp_all [Value.oneCell',one]
theorem dG{t:Ty}:∀ {l:List t.den} {cs:List Value},B5 K t l cs->∀v∈cs,v.oneCell'=true
 |[],cs,h,v,a=>by
  have:cs=[]:=List.eq_nil_of_length_eq_zero (by simpa using h.1)
  subst this;simp at a
 |x::l,cs,h,v,a=>by
  have c:=h.2 0 (by simp)
  simp only[Nat.zero_mul,List.drop_zero,List.getElem_cons_zero]at c;have b:B5 K t l (cs.drop t.size):=by
   refine⟨by rw[List.length_drop,h.1];simp[Nat.add_mul],fun i hi=>?_⟩
   have:=h.2 (i+1) (by simpa using hi)
   simp only[List.getElem_cons_succ]at this;have d:cs.drop ((i+1)*t.size)=(cs.drop t.size).drop (i*t.size):=by
    rw[List.drop_drop];congr 1;rw[Nat.add_mul];omega
   rw[d]at this;exact this
  rw[<-List.take_append_drop t.size cs]at a;rcases List.mem_append.1 a with a|a
  ·exact HX t _ _ c v a
  ·exact dG b v a
theorem I4:∀ (t:Ty),s9 K t t.zero (zeroV t)
 |.int _=>rfl
 |.bool=>rfl
 |.slice _=>⟨none,0,rfl,Nat.le_refl _,.inl rfl⟩
 |.pair a b=>⟨_,_,rfl,I4 a,I4 b⟩
theorem qX:∀ (t:Ty),c9 K H (oR t) (zeroV t)
 |.int _=>.cons (by simp[c8]) .nil
 |.bool=>.cons (by simp[c8]) .nil
 |.slice _=>.cons (by simp[c8]) .nil
 |.pair a b=>c9.append (qX a) (qX b)
theorem oZ(z:List Value)(s:Nat)(a:z.length=s):∀ (n j:Nat),j<n*s->(List.replicate n z).flatten[j]? =z[j % s]?
 |0,j,h=>by simp at h
 |n+1,j,h=>by
  rw[List.replicate_succ,List.flatten_cons];by_cases b:j<s
  ·rw[List.getElem?_append_left (by omega),Nat.mod_eq_of_lt b]
  ·rw[List.getElem?_append_right (by omega),a,oZ z s a n (j- s) (by rw[Nat.add_mul]at h;omega)]
   congr 1;exact(Nat.mod_eq_sub_mod (by omega)).symm
theorem JQ:∀ (a b:List Value),vP a b=true->a=b:=by
 intro a
 induction a with
 |nil=>intro b h;cases b<;>simp[vP]at h ⊢
 |cons x a e=>
  intro b h;cases b with
  |nil=>cases x<;>simp[vP]at h
  |cons y b=>
   unfold vP at h;split at h
   ·rename_i c d;cases c
   ·rename_i c d;cases c;cases d;simp only[Bool.and_eq_true,decide_eq_true_eq]at h;rw[h.1.1,h.1.2,e _ h.2]
   ·rename_i c d;cases c;cases d;simp only[Bool.and_eq_true,beq_iff_eq]at h;rw[h.1,e _ h.2]
   ·rename_i c d;cases c;cases d;rw[e _ h]
   ·cases h
theorem Y1{t:TypeId}{ty:Ty}(h:aE P t ty=true):∃i v,P.info? t=some i/\i.zero=some v/\v.cells.toList=zeroV ty:=by
 unfold aE at h;split at h
 ·rename_i i hi;split at h
  ·rename_i v a;exact⟨i,v,hi,a,JQ _ _ h⟩
  ·cases h
 ·cases h
theorem pA{t:TypeId}{ty:Ty}{n:Nat}(h:O4.dA P t ty n=true):n<=16777216/\∃i v,P.info? t=some i/\i.zero=some v/\v.cells.toList=(List.replicate n (zeroV ty)).flatten:=by
 unfold O4.dA at h;split at h
 ·rename_i i hi;split at h
  ·rename_i v a;rw[Bool.and_eq_true]at h;exact⟨Nat.le_of_ble_eq_true h.1,i,v,hi,a,JQ _ _ h.2⟩
  ·cases h
 ·cases h
theorem pB{t:TypeId}{ty:Ty}{n:Nat}(h:O4.dA P t ty n=true):∃i v,P.info? t=some i/\i.zero=some v/\v.cells.toList=(List.replicate n (zeroV ty)).flatten:=(pA h).2
theorem aJ{t:TypeId}{i:TypeInfo}{v:Value}(hi:P.info? t=some i)(a:i.zero=some v)(w:World):(zeroValue t).run P w=.ok v w:=by
 simp[zeroValue,uH hi,a]
theorem lA(e:TypeId)(cs:Array Value)(w:World):(newRow e cs).run P w=.ok ⟨w.heap.size,0,none⟩ (w.alloc (.cells cs e)):=rfl
theorem zC(l9:J0 F K w)(hm:j8 F K H w m)(h:H nx=none)(e:TypeId){t:Ty}{l:List t.den}{cs rest:List Value}(j:B5 K t l cs)(cap:Nat)(c:l.length<=cap)(d:cap<=9223372036854775807)
  (f:cap*t.size<=(cs++rest).length)(a:Bool)(b:a=true->cap=l.length)(g:List Nat):
  ∃H',bP F K H w m nx (N4 nx t l a g []) (.slice (some ⟨w.heap.size,0,none⟩) l.length cap) (w.alloc (.cells (cs++rest).toArray e)) K H':=by
 let hd:Hd:=⟨some w.heap.size,t.size,l.length,cap⟩
 refine⟨S0 H nx hd,Q6 l9 hm h (cs++rest).toArray e (.sl t l) hd rfl ?_ _ _ ?_ g⟩
 ·exact⟨rfl,rfl,⟨c,d⟩,.inr ⟨w.heap.size,_,e,(0,0),rfl,L7 w _,by simpa using f,j.elems⟩⟩
 ·simp only[c8];exact⟨hd,j6 _ _ _,rfl,b⟩
theorem J0.heap(h:J0 F K w){w':World}(hh:w'.heap=w.heap):J0 F K w':=
 ⟨⟨fun b cs a=>by rw[hh];exact h.y6.1 b cs a,fun b p c=>by rw[hh];exact h.y6.2 b p c⟩,fun b d=>by rw[hh];exact h.lt b d,h.inv,h.apart⟩
theorem j8.heap(h:j8 F K H w m){w':World}(hh:w'.heap=w.heap):j8 F K H w' m:=h.world (fun _ _ _ _ _ _ _ _ _=>by rw[hh])
theorem bP.drew{q:Q}{v:Value}{w':World}{K':j0}{H':Nat->Option Hd}(h:bP F K H w.drew m nx q v w' K' H'):bP F K H w m nx q v w' K' H':=
 ⟨h.le,h.hle,h.I2,h.rep,h.mem,h.ok,⟨h.kept.os,h.kept.tape,h.kept.output,h.kept.size,h.kept.block,Nat.le_trans (Nat.le_succ _) h.kept.drawn⟩,h.fix⟩
theorem bP.use{e:List (Nat×p8)}{a:a7}{new:List c7}{f:List Nat}{v:Value}{w':World}{c K':j0}{H':Nat->Option Hd}(d:K.le c)(b:Fix F K c)
  (h:bP F c H w (y7 m e) nx ⟨a,new,[],f⟩ v w' K' H'):bP F K H w m nx ⟨a,new,e,f⟩ v w' K' H':=
 ⟨d.trans h.le,h.hle,h.I2,h.rep,h.mem,h.ok,h.kept,b.trans h.fix⟩
variable (l9:J0 F K w) (hm:j8 F K H w m) (n0:∀x,c8 K H (ev x) (ρ x)) (H7:∀q,k q->∀i,i<q.new.length->H (nx+i)=none)
include l9 hm n0 H7
omit l9 hm n0 in
theorem B4{q:Q}(a:k q){v:Value}{w':World}(h:(H nx=none)->∃K' H',bP F K H w m nx q v w' K' H')(b:0<q.new.length):I0 P F K H w m nx k (.ok (.value v) w'):=by
 obtain⟨K',H',h⟩:=h (by simpa using H7 q a 0 b)
 exact⟨q,K',H',a,h⟩
theorem Uz(o:Oper){x:Operand}(d:o.op=.move x\/o.op=.assign x)(h:match ev x with
  |.W2=>(match MW P o.type with
   |some t=>k ⟨.B6 nx false,[.sl t []],[],[]⟩
   |none=>k (.pure .W2))
  |v=>k (.pure v)):I0 P F K H w m nx k ((execOp ρ o).run P w):=by
 have a:(execOp ρ o).run P w=.ok (.value (ρ x)) w:=by
  rcases d with d|d<;>simp[execOp,d]
 rw[a];have c:=n0 x;split at h
 ·rename_i l;rw[l]at c;have e:=c;simp only[c8]at c;split at h
  ·rename_i t s;refine B4 H7 h (fun f=>?_) (by simp)
   let hd:Hd:=⟨none,t.size,0,0⟩
   refine⟨K,S0 H nx hd,.refl K,L9 f,?_,?_,?_,l9,.refl F w,.refl F K⟩
   ·intro r n g;by_cases j:r=nx
    ·subst j;simp
    ·rw[n6 _ _ _ _ j]at g;exact absurd n g
   ·simp only[c8];exact⟨hd,j6 _ _ _,by rw[c];rfl,by simp[hd]⟩
   ·exact hm.new nx f (.sl t []) hd ⟨rfl,rfl,⟨Nat.le_refl _,Nat.zero_le _⟩,.inl ⟨rfl,rfl⟩⟩ (fun b p=>by cases p)
  ·exact p9 l9 hm e h
 ·exact p9 l9 hm c h
omit n0 in
theorem Yn(o:Oper){e:TypeId}(r:o.op=.alloc e)(h:match P.underlying e with
  |some (.array n a)=>(match X3 P 8 a with
   |some t=>if O4.dA P e t n then k ⟨.O2 nx,[.sl t (List.replicate n t.zero)],[],[]⟩else False
   |none=>False)
  |_=>(match X3 P 8 e with
   |some t=>if aE P e t then k ⟨.ptr nx 0,[.box (oR t)],[],[]⟩else False
   |none=>if HJ P e then k ⟨.ptr nx 0,[.box [.R3]],[],[]⟩else False)):I0 P F K H w m nx k ((execOp ρ o).run P w):=by
 have b:∀i v,P.info? e=some i->i.zero=some v->(execOp ρ o).run P w=.ok (.value (.pointer (some ⟨w.heap.size,0,none⟩))) (w.alloc (.cells v.cells e)):=by
  intro i v hi c;simp only[execOp,r];refine j1 ?_;simp only[Instr.alloc,Sem.run_bind,aJ hi c,Result.andThen_ok,newVar,lA];rfl
 have l:∀t,(if aE P e t=true then k ⟨.ptr nx 0,[.box (oR t)],[],[]⟩else False)->I0 P F K H w m nx k ((execOp ρ o).run P w):=by
  intro t h;split at h
  ·rename_i c;obtain⟨i,v,hi,p,j⟩:=Y1 c;rw[b i v hi p];refine B4 H7 h (fun f=>?_) (by simp)
   let hd:Hd:=⟨some w.heap.size,0,0,0⟩
   refine⟨K,_,Q6 l9 hm f v.cells e (.box (oR t)) hd rfl ?_ _ _ ?_ []⟩
   ·exact⟨w.heap.size,v.cells,e,(0,0),rfl,L7 w _,by rw[j];exact qX t⟩
   ·simp only[c8];exact⟨hd,w.heap.size,j6 _ _ _,rfl,rfl⟩
  ·exact absurd h id
 split at h
 ·rename_i n a u;split at h
  ·rename_i t y;split at h
   ·rename_i c;have s:=(pA c).1;obtain⟨i,v,hi,p,j⟩:=pB c;rw[b i v hi p];refine B4 H7 h (fun f=>?_) (by simp)
    let hd:Hd:=⟨some w.heap.size,t.size,n,n⟩
    have g:=B5.replicate (I4 (K:=K) t) n;refine⟨K,_,Q6 l9 hm f v.cells e (.sl t (List.replicate n t.zero)) hd rfl ?_ _ _ ?_ []⟩
    ·refine⟨rfl,by simp[hd],⟨Nat.le_refl _,by show n<=_;omega⟩,.inr ⟨w.heap.size,v.cells,e,(0,0),rfl,L7 w _,?_,?_⟩⟩
     ·have:=g.1;rw[<-j]at this;simp at this;simp[hd,this]
     ·have:=g.elems (rest:=[]);rw[<-j]at this;simpa using this
    ·simp only[c8];exact⟨hd,w.heap.size,j6 _ _ _,rfl,rfl,rfl⟩
   ·exact absurd h id
  ·exact absurd h id
 ·split at h
  ·exact l _ h
  ·split at h
   ·rename_i c;unfold HJ at c;split at c
    ·rename_i i hi;split at c
     ·rename_i d;rw[b i _ hi d];refine B4 H7 h (fun f=>?_) (by simp)
      let hd:Hd:=⟨some w.heap.size,0,0,0⟩
      refine⟨K,_,Q6 l9 hm f (Value.map none).cells e (.box [.R3]) hd rfl ?_ _ _ ?_ []⟩
      ·exact⟨w.heap.size,(Value.map none).cells,e,(0,0),rfl,L7 w _,.cons (by simp[c8]) .nil⟩
      ·simp only[c8];exact⟨hd,w.heap.size,j6 _ _ _,rfl,rfl⟩
     ·rename_i d;rw[b i _ hi d];refine B4 H7 h (fun f=>?_) (by simp)
      let hd:Hd:=⟨some w.heap.size,0,0,0⟩
      refine⟨K,_,Q6 l9 hm f (Value.pointer none).cells e (.box [.R3]) hd rfl ?_ _ _ ?_ []⟩
      ·exact⟨w.heap.size,(Value.pointer none).cells,e,(0,0),rfl,L7 w _,.cons (by simp[c8]) .nil⟩
      ·simp only[c8];exact⟨hd,w.heap.size,j6 _ _ _,rfl,rfl⟩
     ·rename_i d;rw[b i _ hi d];refine B4 H7 h (fun f=>?_) (by simp)
      let hd:Hd:=⟨some w.heap.size,0,0,0⟩
      refine⟨K,_,Q6 l9 hm f Value.nilFunc.cells e (.box [.R3]) hd rfl ?_ _ _ ?_ []⟩
      ·exact⟨w.heap.size,Value.nilFunc.cells,e,(0,0),rfl,L7 w _,.cons (by simp[c8]) .nil⟩
      ·simp only[c8];exact⟨hd,w.heap.size,j6 _ _ _,rfl,rfl⟩
     ·cases c
    ·cases c
   ·exact absurd h id
omit l9 hm n0 H7 in
theorem Gt{d:IntKind}:∀ {b:List a7} {cs:List Value} {l:List Int},JG d b=some l->c9 K H b cs->B5 K (.int d) (show List (Ty.int d).den from l) cs
 |[],cs,l,h,e=>by
  simp only[JG,Option.some.injEq]at h;subst h;rw[c9.H8.1 e];exact B5.nil
 |v::vs,cs,l,h,e=>by
  obtain⟨c,g,rfl,f,j⟩:=e.inv;simp only[JG]at h;split at h
  ·rename_i k' a p n;split at h
   ·rename_i o;subst o;simp only[Option.some.injEq]at h;subst h;simp only[c8]at f;have:=B5.cons (K:=K) (t:=.int k') (x:=a) (c:=[c]) (by show [c]=[Value.int k' a];rw[f]) (Gt n j)
    exact this
   ·cases h
  ·cases h
omit l9 hm n0 H7 in
theorem wC(a:List Field):∀ (o:Nat) (l:List a7) (vs:List Value),c9 K H l vs->c9 K H (vS P a o l) vs
 |_,[],vs,h=>h
 |o,v::l,vs,h=>by
  obtain⟨c,cs,rfl,b,d⟩:=c9.inv h;simp only[vS];refine .cons ?_ (wC a (o+1) l cs d);split
  ·exact Z5 b
  ·exact b
omit l9 hm n0 H7 in
theorem UA{e:TypeId}{cells:List a7}{cs:Array Value}{b:Nat}{d:TypeId}{f:Nat×Nat}(g:w.heap[b]? =some (.cells cs d f))(c:c9 K H cells cs.toList):o8 K H w ⟨some b,1,0,0⟩ (Ud P e cells):=by
 have a:o8 K H w ⟨some b,1,0,0⟩ (.box cells):=⟨b,cs,d,f,rfl,g,c⟩;unfold Ud;split
 ·rename_i p o n r;split
  ·rename_i l h;split
   ·rename_i j;refine⟨rfl,j,b,cs,d,f,cs.toList.take p,(cs.toList.drop p).take n,cs.toList.drop (p+n),rfl,g,?_,c.take p,Gt h ((c.drop p).take n),wC _ _ _ _ (c.drop (p+n))⟩;rw[List.append_assoc,<-List.drop_drop,List.take_append_drop,List.take_append_drop]
   ·exact a
  ·exact a
 ·exact a
theorem a4k(o:Oper){e:TypeId}{x:Operand}(b:o.op=.box e x)(h:match(typed P e (ev x)).parts with
  |some cells=>k ⟨.ptr nx 0,[Ud P e cells],[],[]⟩
  |none=>False):I0 P F K H w m nx k ((execOp ρ o).run P w):=by
 split at h
 ·rename_i cells c;have d:=dE c (Z5 (P:=P) (t:=e) (n0 x));simp only[execOp,b];rw[j1 (x:=.pointer (some ⟨w.heap.size,0,none⟩)) (w':=w.alloc (.cells (ρ x).cells e)) rfl];refine B4 H7 h (fun a=>?_) (by simp)
  let hd:Hd:=⟨some w.heap.size,1,0,0⟩
  refine⟨K,_,Q6 l9 hm a (ρ x).cells e (Ud P e cells) hd rfl ?_ _ _ ?_ []⟩
  ·exact UA (L7 w _) (c9.mono (.refl K) (L9 a) _ _ d)
  ·simp only[c8];exact⟨hd,w.heap.size,j6 _ _ _,rfl,rfl⟩
 ·exact absurd h id
theorem JR(o:Oper){t:TypeId}{l c:Operand}(O:o.op=.makeSlice t l c)(h:match P.underlying t,ev l,ev c with
  |some (.slice e),.int .i64 a,.int .i64 b=>(match X3 P 8 e with
   |some ty=>if aE P e ty/\(((P.info? e).map (·.bytes)).getD 0)<=64 then(0<=a/\a=b/\a<=(iR:Int))/\k (N4 nx ty (List.replicate a.toNat ty.zero) true [] [])else False
   |none=>False)
  |_,_,_=>False):I0 P F K H w m nx k ((execOp ρ o).run P w):=by
 split at h
 ·rename_i e a b R S T;have U:=S1 (S▸n0 l);have V:=S1 (T▸n0 c);split at h
  ·rename_i ty B;split at h
   ·rename_i G;obtain⟨⟨I,rfl,hb⟩,h⟩:=h;obtain⟨i,v,hi,X,p⟩:=Y1 G.1;obtain⟨i',de,r,C,_,_⟩:=bQ 8 e ty B;rw[hi]at r;cases r;have Y:i.bytes<=64:=by have:=G.2;rw[hi]at this;simpa using this
    have J:(iR:Int)=1099511627776:=rfl;have s:(i.bytes:Int)*a<=281474976710656:=by
     have L:(i.bytes:Int)*a<=64*a:=Int.mul_le_mul_of_nonneg_right (by omega) I
     omega
    have u:=run_make (P:=P) w t e i v R hi X .i64 .i64 a a I (Int.le_refl _) s (by omega)
    simp only[execOp,O,U,V];rw[j1 u];refine B4 H7 h (fun Z=>?_) (by simp[N4])
    have n:=B5.replicate (I4 (K:=K) ty) a.toNat;have d:madeCells v.cells (a.toNat*i.size)=((List.replicate a.toNat (zeroV ty)).flatten++ []).toArray:=by
     have y:v.cells.size=ty.size:=by
      have:=s9.length ty _ _ (I4 (K:=K) ty);rw[<-p]at this;simpa using this
     apply Array.ext_getElem?;intro j;rw[C];by_cases D:j<a.toNat*ty.size
     ·have z:=ty.size_pos;have M:j/ty.size<a.toNat:=Nat.div_lt_of_lt_mul (by rw[Nat.mul_comm];exact D)
      have A:j % ty.size<ty.size:=Nat.mod_lt _ z;have f:((List.replicate a.toNat (zeroV ty)).flatten++ []).toArray[j]? =v.cells[j % ty.size]? :=by
       rw[List.append_nil];have L:(List.replicate a.toNat (zeroV ty)).flatten.toArray[j]? =(List.replicate a.toNat (zeroV ty)).flatten[j]? :=by simp
       rw[L,oZ (zeroV ty) ty.size (s9.length ty _ _ (I4 (K:=K) ty)) a.toNat j D,<-p];simp
      rw[f];have E:j % ty.size<v.cells.size:=by rw[y];exact A
      simp[madeCells,D,y,getElem!_pos v.cells (j % ty.size) E]
     ·rw[Array.getElem?_eq_none (by rw[size_madeCells];omega),Array.getElem?_eq_none (by
       have:=n.1;simp only[List.length_replicate]at this
       simp only[List.append_nil,List.size_toArray,this];omega)]
    rw[d];have g:(List.replicate a.toNat ty.zero).length=a.toNat:=by simp
    have:=zC (nx:=nx) l9 hm Z e n (rest:=[]) a.toNat (by simp) (by omega) (by rw[List.append_nil,n.1,g];exact Nat.le_refl _) true (fun _=>by simp) []
    obtain⟨H',N⟩:=this;rw[g]at N;exact⟨K,H',N⟩
   ·exact absurd h id
  ·exact absurd h id
 ·exact absurd h id
end
end Go.Abs
end
section
namespace Go.Abs
section
variable {P:Program} {F:Nat->Prop} {K:j0} {H:Nat->Option Hd} {w:World} {m:Mm} {nx:Nat} {k:Q->Prop} {ev:Operand->a7} {ρ:Operand->Value}
theorem wD(off:Nat):∀ (l:List Value) (i:Nat) (cs:Array Value),(l.zipIdx i).foldl (fun cs (c,j)=>cs.setIfInBounds (off+j) c) cs=G1 cs (off+i) l
 |[],_,_=>rfl
 |c::l,i,cs=>by
  rw[List.zipIdx_cons,List.foldl_cons,wD off l (i+1),G1,Nat.add_assoc]
theorem fE(off:Nat)(v:Value)(cs:Array Value):v.cells.zipIdx.foldl (fun cs (c,j)=>cs.setIfInBounds (off+j) c) cs=G1 cs off v.cells.toList:=by
 rw[<-Array.foldl_toList,Array.toList_zipIdx,wD,Nat.add_zero]
theorem G2(cs:Array Value)(o:Nat)(vs:List Value)(h:o+vs.length<=cs.size):(G1 cs o vs).toList=cs.toList.take o++vs++cs.toList.drop (o+vs.length):=by
 apply List.ext_getElem?;intro i;rw[Array.getElem?_toList,gG cs o vs i h];by_cases a:i<o
 ·rw[if_neg (by omega),List.getElem?_append_left (by simp;omega),List.getElem?_append_left (by simp;omega),List.getElem?_take_of_lt a]
  simp
 ·by_cases b:i<o+vs.length
  ·rw[if_pos (by omega),List.getElem?_append_left (by simp;omega),List.getElem?_append_right (by simp;omega)]
   congr 1;simp;omega
  ·rw[if_neg (by omega),List.getElem?_append_right (by simp;omega),List.getElem?_drop]
   simp only[List.length_append,List.length_take,Array.length_toList];rw[Array.getElem?_toList];congr 1;omega
theorem jG:∀ (a:List Field),(∀f∈a,∃i,P.info? f.type=some i)->a.mapM (fun f=>(P.info? f.type).map fun i=>(f.offset,i.size))=some (a.map fun f=>(f.offset,j7 P f.type))
 |[],_=>rfl
 |f::a,h=>by
  obtain⟨i,hi⟩:=h f (by simp)
  have b:=jG a (fun g c=>h g (by simp[c]))
  rw[List.mapM_cons,b,hi];simp[j7,hi]
theorem AB{d:Nat}:∀ (e:List Field) (o:Nat) (ty:Ty),X3.fields P d e o=some ty->∀f∈e,∃i,P.info? f.type=some i
 |[],_,_,h,f,c=>by simp at c
 |[g],o,ty,h,f,c=>by
  simp only[List.mem_singleton]at c;subst c;have h:(if f.offset=o then X3 P d f.type else none)=some ty:=h
  split at h
  ·obtain⟨i,_,hi,_⟩:=bQ d _ _ h;exact⟨i,hi⟩
  ·cases h
 |g::j::e,o,ty,h,f,c=>by
  have h:(if g.offset=o then(match X3 P d g.type with
   |some x=>match gH (X3 P d) (j::e) (o+x.size)with
    |some y=>some (.pair x y)
    |none=>none
   |none=>none)else none)=some ty:=h
  split at h
  ·split at h
   ·rename_i a l;split at h
    ·rename_i b n;rcases List.mem_cons.1 c with rfl|c
     ·obtain⟨i,_,hi,_⟩:=bQ d _ _ l;exact⟨i,hi⟩
     ·exact AB (j::e) _ _ n f c
    ·cases h
   ·cases h
  ·cases h
variable (l9:J0 F K w) (hm:j8 F K H w m) (n0:∀x,c8 K H (ev x) (ρ x)) (H7:∀q,k q->∀i,i<q.new.length->H (nx+i)=none)
include n0
theorem pC{t:TypeId}{p:Array Field}(A:P.underlying t=some (.struct p)):∀ (ps:List (Nat×Operand)) (cells:List a7) (cs:Array Value) (b:List a7),c9 K H cells cs.toList->eR P ev t cells ps=some b->
  ∃c,Instr.fill (((p.toList.map fun f=>(f.offset,j7 P f.type)).toArray)[·]?) cs (ps.map fun u=>(u.1,ρ u.2))=some c/\c9 K H b c.toList
 |[],cells,cs,b,l,h=>by
  simp only[eR,Option.some.injEq]at h;subst h;exact⟨cs,rfl,l⟩
 |(i,x)::ps,cells,cs,b,l,h=>by
  simp only[eR]at h;split at h
  ·rename_i off size C;split at h
   ·rename_i r s;split at h
    ·rename_i o;obtain⟨D,j,n,v,rfl,J,E⟩:=oY C;rw[A]at n;cases n;have B:=dE s (Z5 (P:=P) (t:=eR.Gl P t i) (n0 x));have a:=c9.length B;have y:=c9.length l;simp only[Array.length_toList]at a y;have d:j.offset+(ρ x).cells.toList.length<=cs.size:=by
      rw[Array.length_toList,a,o.1];omega
     have z:c9 K H (cells.take j.offset++r++cells.drop (j.offset+size)) (G1 cs j.offset (ρ x).cells.toList).toList:=by
      rw[G2 cs _ _ d];have e:j.offset+(ρ x).cells.toList.length=j.offset+size:=by rw[Array.length_toList,a,o.1]
      rw[e];exact c9.append (c9.append (c9.take _ l) B) (c9.drop _ l)
     obtain⟨c,G,I⟩:=pC A ps _ _ b z h;refine⟨c,?_,I⟩;have g:((p.toList.map fun f=>(f.offset,j7 P f.type)).toArray)[i]? =some (j.offset,j7 P j.type):=by
      simp[v]
     simp only[List.map_cons,Instr.fill,g];rw[if_neg ?_]
     ·rw[fE];exact G
     ·simp only[Bool.or_eq_true,decide_eq_true_eq,not_or];refine⟨by rw[a,o.1,E];simp,by rw[a,o.1];omega⟩
    ·cases h
   ·cases h
  ·cases h
include l9 hm in
theorem Yo(o:Oper){t:TypeId}{ps:Array (Nat×Operand)}(B:o.op=.build t ps)(h:match P.underlying t with
  |some (.array n e)=>(match X3 P 8 e with
   |some ty=>if O4.dA P t ty n/\ps.toList.length=0 then k (.pure (.V5 ty (List.replicate n ty.zero)))else False
   |none=>False)
  |_=>(match X3 P 8 t with
  |some ty=>if aE P t ty && Q1 P t then(match eR P ev t (oR ty) ps.toList with
   |some cells=>k (.pure (.agg cells))
   |none=>False)else False
  |none=>tZ P ev t ps.toList (fun v=>k (.pure v)))):I0 P F K H w m nx k ((execOp ρ o).run P w):=by
 have C:(match X3 P 8 t with
  |some ty=>if(aE P t ty && Q1 P t)=true then(match eR P ev t (oR ty) ps.toList with
   |some cells=>k (.pure (.agg cells))
   |none=>False)else False
  |none=>tZ P ev t ps.toList (fun v=>k (.pure v)))->(∀n e,P.underlying t≠some (.array n e))->I0 P F K H w m nx k ((execOp ρ o).run P w):=by
  intro h D;split at h
  ·rename_i ty r;split at h
   ·rename_i j;simp only[Bool.and_eq_true]at j;split at h
    ·rename_i cells E;obtain⟨i,v,hi,y,p⟩:=Y1 j.1;obtain⟨d,hd⟩:=NH j.2;cases d<;>simp[Q1,hd]at j
     case array n e=>exact absurd hd (D n e)
     case struct u=>
      obtain⟨BL,G,I⟩:=pC n0 hd ps.toList (oR ty) v.cells cells (by rw[p];exact qX ty) E
      have g:∀f∈u.toList,∃i,P.info? f.type=some i:=by
         have b:=r;unfold X3 at b;rw[hi,hd]at b;simp only at b;split at b
         ·rename_i a N;exact AB u.toList 0 a N
         ·cases b
      have z:P.built t (ps.map fun(i,x)=>(i,ρ x)).toList=some BL:=by
         unfold Program.built;rw[hi,hd];simp only[y,jG u.toList g];rw[<-G];congr 1;simp
      have c:=run_build w t (ps.map fun(i,x)=>(i,ρ x)) BL z
      simp only[execOp,B];rw[j1 c];exact p9 l9 hm (by simp only[c8];exact⟨_,rfl,I⟩) h
     all_goals simp_all
    ·exact absurd h id
   ·exact absurd h id
  ·unfold tZ at h;split at h
   ·rename_i i u hi hd;split at h
    ·rename_i v y;split at h
     ·rename_i s;split at h
      ·rename_i cells E;have j:c9 K H (v.cells.toList.map qN) v.cells.toList:=by
        generalize v.cells.toList=l
        induction l with
        |nil=>exact .nil
        |cons a l J=>exact .cons (oX a) J
       obtain⟨BL,G,I⟩:=pC n0 hd ps.toList _ v.cells cells j E;have g:∀f∈u.toList,∃i,P.info? f.type=some i:=by
        have O:∀ (l:List Field),BN P l=true->∀f∈l,∃i,P.info? f.type=some i:=by
         intro l
         induction l with
         |nil=>intro _ f s;simp at s
         |cons a l J=>
          intro h f s;simp only[BN,Bool.and_eq_true]at h;rcases List.mem_cons.1 s with rfl|s
          ·exact Option.isSome_iff_exists.1 h.1
          ·exact J h.2 f s
        exact O _ s
       have z:P.built t (ps.map fun(i,x)=>(i,ρ x)).toList=some BL:=by
        unfold Program.built;rw[hi,hd];simp only[y,jG u.toList g];rw[<-G];congr 1;simp
       have c:=run_build w t (ps.map fun(i,x)=>(i,ρ x)) BL z
       simp only[execOp,B];rw[j1 c];exact p9 l9 hm (by simp only[c8];exact⟨_,rfl,I⟩) h
      ·exact absurd h id
     ·exact absurd h id
    ·exact absurd h id
   ·exact absurd h id
 split at h
 ·rename_i n e R;split at h
  ·rename_i ty r;split at h
   ·rename_i j;obtain⟨i,v,hi,y,p⟩:=pB j.1;obtain⟨U,_,L,_⟩:=bQ 8 e ty r;have M:ps.toList=[]:=List.eq_nil_of_length_eq_zero j.2;have z:P.built t (ps.map fun(i,x)=>(i,ρ x)).toList=some v.cells:=by
     unfold Program.built;rw[hi,R];simp only[y,L];simp[M,Instr.fill]
    have c:=run_build w t (ps.map fun(i,x)=>(i,ρ x)) v.cells z
    simp only[execOp,B];rw[j1 c];refine p9 l9 hm ?_ h;have A:=B5.replicate (I4 (K:=K) ty) n;simp only[c8];refine⟨v.cells,rfl,?_,?_⟩
    ·have:=A.1;rw[<-p]at this;simpa using this
    ·have:=A.elems (rest:=[]);rw[<-p]at this;simpa using this
   ·exact absurd h id
  ·exact absurd h id
 ·rename_i S;exact C h (fun n e T=>S n e T)
end
end Go.Abs
end
section
namespace Go.Abs
section
variable {P:Program} {F:Nat->Prop} {K:j0} {H:Nat->Option Hd} {w:World} {m:Mm} {nx:Nat} {k:Q->Prop} {ev:Operand->a7} {ρ:Operand->Value}
theorem JS(hm:j8 F K H w m)(n0:∀x,c8 K H (ev x) (ρ x)){A:j0}(p:K.le A){e:TypeId}{ty:Ty}:∀ (ps:List (Nat×Operand)) (i:Nat) (cells:List (List a7)) (B:List (Nat×p8)) (l:List ty.den) (cs:Array Value),
  aF P m ev e i ps=some (cells,B)->yR ty cells=some l->
  (∀r f hd b cs e s,(r,f)∈B->H r=some hd->hd.base=some b->w.heap[b]? =some (.cells cs e s)->A.cells b=some cs)->cs.size=(i+ps.length)*ty.size->
  ∃d rest,Instr.fill (fun i=>some (i*ty.size,ty.size)) cs (ps.map fun u=>(u.1,ρ u.2))=some d/\d.toList=cs.toList.take (i*ty.size)++rest/\B5 A ty l rest/\l.length=ps.length
 |[],i,cells,B,l,cs,c,h,_,C=>by
  simp only[aF,Option.some.injEq,Prod.mk.injEq]at c;obtain⟨rfl,rfl⟩:=c;simp only[yR,Option.some.injEq]at h;subst h;refine⟨cs,[],rfl,?_,B5.nil,rfl⟩;rw[List.append_nil,List.take_of_length_le];simp at C ⊢;omega
 |(j,x)::ps,i,cells,B,l,cs,c,h,L,C=>by
  simp only[aF]at c;split at c
  ·rename_i D;subst D;split at c
   ·rename_i v Y M;split at c
    ·rename_i N rest O E n;simp only[Option.some.injEq,Prod.mk.injEq]at c;obtain⟨rfl,rfl⟩:=c;simp only[yR]at h;split at h
     ·rename_i y ys R G;cases h;have S:c8 A H v (ρ x):=(kY hm p H (.refl H) 6).1 _ _ _ _ M (fun r f hd b cs e s z=>L r f hd b cs e s (by simp[z])) (Z5 (P:=P) (t:=e) (n0 x))
      have I:=dE E S;have g:=kP R I;have a:=s9.length ty _ _ g;simp only[Array.length_toList]at a;have J:i*ty.size+(ρ x).cells.toList.length<=cs.size:=by
       rw[Array.length_toList,a,C];simp only[List.length_cons];have:(i+1)*ty.size<=(i+(ps.length+1))*ty.size:=Nat.mul_le_mul_right _ (by omega)
       rw[Nat.add_mul]at this;omega
      obtain⟨d,o,z,T,U,V⟩:=JS hm n0 p ps (i+1) rest O ys (G1 cs (i*ty.size) (ρ x).cells.toList) n G (fun r f hd b cs e s z=>L r f hd b cs e s (by simp[z]))
       (by rw[J7,C];congr 1;simp;omega)
      refine⟨d,(ρ x).cells.toList++o,?_,?_,B5.cons g U,by simp[V]⟩
      ·simp only[List.map_cons,Instr.fill];rw[if_neg ?_]
       ·rw[fE];exact z
       ·simp only[Bool.or_eq_true,decide_eq_true_eq,not_or];refine⟨by rw[a];simp,by simp at J;omega⟩
      ·rw[T,G2 cs _ _ J];have X:(i+1)*ty.size=(cs.toList.take (i*ty.size)++(ρ x).cells.toList).length:=by
        rw[List.length_append,List.length_take,Array.length_toList,Array.length_toList,a,Nat.add_mul,Nat.min_eq_left (by simp at J;omega)]
        omega
       rw[List.take_append_of_le_length (by omega),X,List.take_length,List.append_assoc]
     ·cases h
    ·cases c
   ·cases c
  ·cases c
theorem uI(hm:j8 F K H w m)(J:vO K w){t:Ty}{y:a7}{x:Value}{ys:List t.den}{L:List Nat}(h:jY m t y=some (ys,L))(a:c8 K H y x):
  ∃base cap,x=.slice base ys.length cap/\(ys=[]\/∃b off cs e d,base=some ⟨b,off,none⟩/\w.heap[b]? =some (.cells cs e d)/\bX K t ys cs off):=by
 unfold jY at h;split at h
 ·simp only[Option.some.injEq,Prod.mk.injEq]at h;obtain⟨rfl,rfl⟩:=h;simp only[c8]at a;exact⟨none,0,a,.inl rfl⟩
 ·split at h
  ·simp only[Option.some.injEq,Prod.mk.injEq]at h;obtain⟨rfl,rfl⟩:=h;simp only[c8]at a;exact⟨none,0,a,.inl rfl⟩
  ·cases h
 ·rename_i D l f;split at h
  ·rename_i p;subst p;simp only[Option.some.injEq,Prod.mk.injEq]at h;obtain⟨rfl,rfl⟩:=h;simp only[c8]at a;obtain⟨base,cap,s,E,M,n⟩:=a;refine⟨base,cap,s,?_⟩;rcases n with n|⟨b,off,arr,n,G,c⟩
   ·exact .inl n
   ·obtain⟨e,d,hh⟩:=J.1 b arr G;exact .inr ⟨b,off,arr,e,d,n,hh,c⟩
  ·cases h
 ·rename_i r f;split at h
  ·rename_i D l g j;split at h
   ·rename_i p;subst p;split at h
    ·cases h
    ·rename_i A;simp only[Option.some.injEq,Prod.mk.injEq]at h;obtain⟨rfl,rfl⟩:=h;simp only[c8]at a;obtain⟨hd,B,s,E⟩:=a;have v:=hm.cont r _ g hd j A B;refine⟨hd.base.map fun b=>⟨b,0,none⟩,hd.cap,by rw[s,v.2.1],?_⟩
     obtain⟨I,N,O,o⟩:=v;rcases o with⟨o,R⟩|⟨b,cs,e,d,z,g2,S,C⟩
     ·exact .inl (List.eq_nil_of_length_eq_zero (by omega))
     ·exact .inr ⟨b,0,cs,e,d,by rw[z];rfl,g2,C⟩
   ·cases h
  ·cases h
 ·rename_i r lo len f;split at h
  ·rename_i D l g j;split at h
   ·rename_i p;subst p;split at h
    ·cases h
    ·rename_i A;simp only[Option.some.injEq,Prod.mk.injEq]at h;obtain⟨rfl,rfl⟩:=h;simp only[c8]at a;obtain⟨hd,cap,base,B,s,E,M,n,G,c⟩:=a;have v:=hm.cont r _ g hd j A B;obtain⟨I,N,O,o⟩:=v;have u:((l.drop lo).take len).length=len:=by simp;omega
     refine⟨base,cap,by rw[u];exact s,?_⟩
     rcases c with c|⟨b,c,T⟩
     ·exact .inl (List.eq_nil_of_length_eq_zero (by omega))
     ·rcases o with⟨o,R⟩|⟨U,cs,e,d,z,g2,S,C⟩
      ·rw[o]at c;cases c
      ·rw[c]at z;cases z;refine .inr ⟨b,lo*hd.sz,cs,e,d,T,g2,fun i hi=>?_⟩
       rw[List.getElem_take,List.getElem_drop];have:=C (lo+i) (by omega)
       rw[Nat.zero_add,Nat.add_mul]at this;rw[I];exact this
   ·cases h
  ·cases h
 ·cases h
theorem eA{t e ty:TypeId}(d:P.underlying t=some (.slice e)){i:TypeInfo}(hi:P.info? e=some i)(b a:Option Addr)(n c c':Nat)(h:n<=c):
  (Builtin.append_ #[t,t] ty #[.slice b n c,.slice a 0 c']).run P w=.ok (.slice b n c) w:=by
 have f:∀w,(Builtin.firstCells i.size 0 (.slice a 0 c')).run P w=.ok #[] w:=by
  intro w;cases a<;>simp[Builtin.firstCells,loadCells,loadCellsFrom]
 simp only[Builtin.append_];cases b<;>simp[u3 d,M1 hi,Builtin.lenOf,h,f,storeCells]
theorem JT{t e ty:TypeId}(r:P.underlying t=some (.slice e)){i:TypeInfo}(hi:P.info? e=some i)(g n c:Nat)(b:Array Value)(eb:TypeId)(s:w.heap[g]? =some (.cells b eb (0,0)))
  (a:Addr)(h o:Nat)(news:List Value)(y:news.length=h*i.size)(d:∀j u,news[j]? =some u->w.cell? (a.add j)=some u)(z:∀u∈news,u.oneCell'=true)
  (f:n+h<=c)(p:n*i.size+news.length<=b.size):
  ∃w',(Builtin.append_ #[t,t] ty #[.slice (some ⟨g,0,none⟩) n c,.slice (some a) h o]).run P w=.ok (.slice (some ⟨g,0,none⟩) (n+h) c) w'/\HG w w' g (G1 b (n*i.size) news) eb:=by
 have A:=run_firstCells_some (P:=P) w i.size h a h o news y d;obtain⟨w',B,C⟩:=Abs.G9 P g (n*i.size) eb news w b 0 s (by omega) (fun v D=>wB (z v D))
 refine⟨w',?_,by simpa using C⟩
 have l:(⟨g,0,none⟩:Addr).add (n*i.size)=⟨g,n*i.size,none⟩:=by rw[G5];simp
 simp only[Builtin.append_];simp[u3 r,M1 hi,Builtin.lenOf,f,A,l,B]
variable (l9:J0 F K w) (hm:j8 F K H w m) (n0:∀x,c8 K H (ev x) (ρ x)) (H7:∀q,k q->∀i,i<q.new.length->H (nx+i)=none)
include l9 hm
theorem Gu(c:H nx=none)(t:Ty)(a:Bool)(f:List Nat):∃H',bP F K H w m nx (N4 nx t [] a f []) (.slice none 0 0) w K H':=by
 let hd:Hd:=⟨none,t.size,0,0⟩
 refine⟨S0 H nx hd,.refl K,L9 c,?_,?_,?_,l9,.refl F w,.refl F K⟩
 ·intro r g d;by_cases e:r=nx
  ·subst e;simp[N4]
  ·rw[n6 _ _ _ _ e]at d;exact absurd g d
 ·simp only[c8,N4];exact⟨hd,j6 _ _ _,rfl,fun _=>rfl⟩
 ·exact hm.new nx c (.sl t []) hd ⟨rfl,rfl,⟨Nat.le_refl _,Nat.zero_le _⟩,.inl ⟨rfl,rfl⟩⟩ (fun b h=>by cases h)
omit l9 hm in
theorem qY{t:Ty}{ys:List t.den}{cs:Array Value}{b off:Nat}{e:TypeId}{g:Nat×Nat}(hh:w.heap[b]? =some (.cells cs e g))(f:bX K t ys cs off)(c:ys≠ []):
  B5 K t ys (u0 cs off (ys.length*t.size))/\∀j u,(u0 cs off (ys.length*t.size))[j]? =some u->w.cell? ((⟨b,off,none⟩:Addr).add j)=some u:=by
 refine⟨f.zB (f.bound c),fun j u a=>?_⟩
 have d:j<ys.length*t.size:=by
  rcases Nat.lt_or_ge j (ys.length*t.size)with h|h
  ·exact h
  ·rw[List.getElem?_eq_none (by simp[u0];omega)]at a;cases a
 rw[O3 d]at a;rw[G5,cY hh];exact a
omit l9 hm in
theorem lB{need old:Nat}{e:TypeId}(h:need<=9223372036854775807):grownCap w need old e<=9223372036854775807:=grownCap_le_maxLen w need old e h
theorem eB(h:H nx=none)(e:TypeId){t:Ty}{l:List t.den}{cs:List Value}(f:B5 K t l cs)(z:Value)(j:z.cells.size=t.size)(cap:Nat)(a:l.length<=cap)(b:cap<=9223372036854775807)(g:List Nat)(arr:Array Value)
  (c:arr=cs.toArray++Builtin.zeroCells z.cells (cap- l.length)):∃H',bP F K H w m nx (N4 nx t l false g []) (.slice (some ⟨w.heap.size,0,none⟩) l.length cap) (w.drew.alloc (.cells arr e)) K H':=by
 have n:arr=(cs++(Builtin.zeroCells z.cells (cap- l.length)).toList).toArray:=by rw[c];simp
 have d:cap*t.size<=(cs++(Builtin.zeroCells z.cells (cap- l.length)).toList).length:=by
  have o:(Builtin.zeroCells z.cells (cap- l.length)).toList.length=(cap- l.length)*t.size:=by rw[Array.length_toList,size_zeroCells,j]
  rw[List.length_append,f.1,o,<-Nat.add_mul];exact Nat.mul_le_mul_right _ (by omega)
 obtain⟨H',p⟩:=zC (nx:=nx) (l9.heap (w':=w.drew) rfl) (hm.heap (w':=w.drew) rfl) h e f (rest:=(Builtin.zeroCells z.cells (cap- l.length)).toList) cap a b d false (by simp) g
 rw[n];exact⟨H',bP.drew p⟩
include n0 H7 in
theorem HY(o:Oper){t:TypeId}{n:Nat}{ps:Array (Nat×Operand)}(Z:o.op=.buildSlice t n ps)(h:match P.underlying t with
  |some (.slice e)=>(match X3 P 8 e with
   |some ty=>if aE P e ty/\ps.size=n/\n*ty.size<=16777216 then(match aF P m ev e 0 ps.toList with
    |some (cells,d)=>(match yR ty cells with
     |some l=>k (N4 nx ty l true (N6 d) (J9 d))
     |none=>False)
    |none=>False)else False
   |none=>False)
  |_=>False):I0 P F K H w m nx k ((execOp ρ o).run P w):=by
 split at h
 ·rename_i e hu;split at h
  ·rename_i ty J;split at h
   ·rename_i hz;obtain⟨L,s,hz3⟩:=hz;split at h
    ·rename_i cells d V;split at h
     ·rename_i l hl;obtain⟨i,v,hi,hv,M⟩:=Y1 L;obtain⟨i',de,y,N,_,_⟩:=bQ 8 e ty J;rw[hi]at y;cases y;have z:∀r f,(r,f)∈d->f≠ .dead/\∃c,m r=some (c,f)/\c.isCells=true:=by
       have:∀ (ps:List (Nat×Operand)) (i:Nat) cells d,aF P m ev e i ps=some (cells,d)->∀r f,(r,f)∈d->f≠ .dead/\∃c,m r=some (c,f)/\c.isCells=true:=by
        intro ps
        induction ps with
        |nil=>intro i cells d h r f g;simp only[aF,Option.some.injEq,Prod.mk.injEq]at h;obtain⟨_,rfl⟩:=h;simp at g
        |cons u ps ih=>
         intro i cells d h r f g;obtain⟨j,x⟩:=u;simp only[aF]at h;split at h
         ·split at h
          ·rename_i v' r1 O;split at h
           ·rename_i Bw rest r2 has p;simp only[Option.some.injEq,Prod.mk.injEq]at h;obtain⟨_,rfl⟩:=h;rcases List.mem_append.1 g with hh|hh
            ·exact(dD m 6).1 _ _ _ O r f hh
            ·exact ih _ _ _ p r f hh
           ·cases h
          ·cases h
         ·cases h
       exact this _ _ _ _ V
      obtain⟨R,_⟩:=hm.freeze l9.y6 d z;obtain⟨A,B⟩:=l9.frozen hm d z;have hB:∀r f hd b cs e X,(r,f)∈d->H r=some hd->hd.base=some b->w.heap[b]? =some (.cells cs e X)->(K.plus w (R8 H d)).cells b=some cs:=
       fun r f hd b cs e X S G I T=>gT (dC S G I) l9.y6 T
      have PX:v.cells.size=ty.size:=by
       have:=s9.length ty _ _ (I4 (K:=K) ty);rw[<-M]at this;simpa using this
      obtain⟨BL,rest,S,G,I,T⟩:=JS hm n0 (K.M9 w (R8 H d)) ps.toList 0 cells d l ((Array.range (n*ty.size)).map fun j=>(if n*ty.size=0 then #[]else v.cells)[j % (if n*ty.size=0 then #[]else v.cells).size]!) V hl hB
       (by simp[s])
      have U:l.length=n:=by rw[T];simpa using s
      simp only[Nat.zero_mul,List.take_zero,List.nil_append]at G;have a:Instr.fill (fun i=>some (i*ty.size,ty.size)) ((Array.range (n*ty.size)).map fun j=>(if n*ty.size=0 then #[]else v.cells)[j % (if n*ty.size=0 then #[]else v.cells).size]!) (ps.map fun(i,x)=>(i,ρ x)).toList=some BL:=by
       rw[<-S];congr 1;simp
      have C:(Instr.buildSlice t n (ps.map fun(i,x)=>(i,ρ x))).run P w=.ok (.slice (some ⟨w.heap.size,0,none⟩) n n) (w.alloc (.cells BL e)):=by
       simp only[Instr.buildSlice,Sem.run_bind,u3 hu,Result.andThen_ok,M1 hi,N];rw[if_neg (by omega)]
       by_cases D:n*ty.size=0
       ·simp only[D,if_true]at a ⊢;simp only[Sem.run_bind,Sem.run_pure,Result.andThen_ok,a,lA]
       ·simp only[D,if_false]at a ⊢;simp only[Sem.run_bind,aJ hi hv,Sem.run_pure,Result.andThen_ok,a,lA]
      simp only[execOp,Z];rw[j1 C];refine B4 H7 h (fun hf=>?_) (by simp[N4])
      have E:BL=(rest++ []).toArray:=by
       rw[List.append_nil,<-G]
      obtain⟨H',Y⟩:=zC (nx:=nx) A R hf e I (rest:=[]) n (by omega) (by have:=ty.size_pos;have:=Nat.le_mul_of_pos_right n this;omega) (by rw[List.append_nil,I.1,U];exact Nat.le_refl _) true (fun _=>U.symm) (N6 d)
      rw[<-E,U]at Y;exact⟨_,H',bP.use (K.M9 w _) B Y⟩
     ·exact absurd h id
    ·exact absurd h id
   ·exact absurd h id
  ·exact absurd h id
 ·exact absurd h id
omit l9 hm in
theorem JU{c:Call}{x y:Operand}{t:TypeId}(a:c.args.toList=[x,y])(b:c.argTypes.toList=[t,t]):c.args.map ρ= #[ρ x,ρ y]/\c.argTypes= #[t,t]:=by
 refine⟨?_,?_⟩
 ·apply Array.toList_inj.1;simp[a]
 ·apply Array.toList_inj.1;simp[b]
include n0 H7 in
theorem UB(o:Oper){c:Call}{x y:Operand}{t u:TypeId}(ho:o.op=.call c)(hc:c.callee=.builtin .append)(ha:c.args.toList=[x,y])(ht:c.argTypes.toList=[t,u])
  (h:W5 P nx m t u (ev x) (ev y) k):I0 P F K H w m nx k ((execOp ρ o).run P w):=by
 have V:=n0 x;have hy:=n0 y;unfold W5 at h;split at h
 ·rename_i e R hu hu';split at h
  ·rename_i htu;subst htu;split at h
   ·rename_i ty hty;split at h
    ·rename_i hz;split at h
     ·rename_i ys rs hys;obtain⟨i,v,hi,hv,hcz⟩:=Y1 hz.2;obtain⟨i',de,hi',E,_,_⟩:=bQ 8 e ty hty;rw[hi]at hi';cases hi';have hby:i.bytes<=64:=by have:=hz.1;rw[hi]at this;simpa using this
      have PX:v.cells.size=ty.size:=by
       have:=s9.length ty _ _ (I4 (K:=K) ty);rw[<-hcz]at this;simpa using this
      obtain⟨Y,s,ey,B⟩:=uI hm l9.y6 hys hy;obtain⟨e1,e2⟩:=JU (ρ:=ρ) ha ht;have a4m:iR=1099511627776:=rfl;rw[B9 o ho hc,e1,e2];simp only[builtin];have S:ρ x=.slice none 0 0->ys.length<=iR->k (N4 nx ty ys false rs [])->I0 P F K H w m nx k ((do pure (Next.value (<-Builtin.append_ #[t,t] o.type #[ρ x,ρ y])):Sem Next).run P w):=by
       intro ex C hk;rw[ex,ey];rcases Decidable.em (ys=[])with J|J
       ·subst J;have:=eA (P:=P) (w:=w) (ty:=o.type) hu hi none Y 0 0 s (Nat.le_refl _);rw[List.length_nil,j1 this];exact B4 H7 hk (fun L=>⟨K,Gu l9 hm L ty false rs⟩) (by simp[N4])
       ·rcases B with B|⟨b,off,cs,eb,fz,h1,h2,h3⟩
        ·exact absurd B J
        ·subst h1;obtain⟨n,d⟩:=qY h2 h3 J;have z:0<ys.length:=by cases ys with|nil=>exact absurd rfl J|cons a l=>simp
         have hmul:ys.length*i.bytes<=1099511627776*64:=Nat.mul_le_mul (by omega) hby
         have:=run_append_nil (P:=P) w t o.type e i v hu hi hv ⟨b,off,none⟩ ys.length s _ (by rw[n.1,E]) d z (by omega) (by omega)
         rw[j1 this];exact B4 H7 hk (fun L=>⟨K,eB l9 hm L e n v PX _ (grownCap_ge w _ _ _) (lB (by omega)) rs _ rfl⟩) (by simp[N4])
      have G:∀ (l:List ty.den) (base:Option Addr),ρ x=.slice base l.length l.length->(l=[]\/∃b off cs eb fz,base=some ⟨b,off,none⟩/\w.heap[b]? =some (.cells cs eb fz)/\bX K ty l cs off)->
        l.length+ys.length<=iR->0<ys.length->∀rs',k (N4 nx ty (l++ys) false rs' [])->I0 P F K H w m nx k ((do pure (Next.value (<-Builtin.append_ #[t,t] o.type #[ρ x,ρ y])):Sem Next).run P w):=by
       intro l base ex hl C z rs' hk;rw[ex,ey];have J:ys≠ []:=by intro e0;rw[e0]at z;simp at z
       rcases B with B|⟨b,off,cs,eb,fz,h1,h2,h3⟩
       ·exact absurd B J
       ·subst h1;obtain⟨n,d⟩:=qY h2 h3 J;have hmul:(l.length+ys.length)*i.bytes<=1099511627776*64:=Nat.mul_le_mul (by omega) hby
        have I:=growslice_fits (need:=l.length+ys.length) (old:=l.length) (bytes:=i.bytes) (by omega) (by omega)
        have grow:∀ (bx:Addr) (olds:List Value),base=some bx->B5 K ty l olds->(∀j v,olds[j]? =some v->w.cell? (bx.add j)=some v)->I0 P F K H w m nx k ((do pure (Next.value (<-Builtin.append_ #[t,t] o.type #[.slice base l.length l.length,.slice (some ⟨b,off,none⟩) ys.length s])):Sem Next).run P w):=by
           intro bx olds hbx Z hoc;rw[hbx];have:=run_append_grow (P:=P) w t o.type e i v hu hi hv bx l.length l.length olds (by rw[Z.1,E]) hoc ⟨b,off,none⟩ ys.length s _ (by rw[n.1,E]) d (by omega) (by omega) I
           rw[j1 this];refine B4 H7 hk (fun L=>?_) (by simp[N4])
           obtain⟨H',hA⟩:=eB (nx:=nx) l9 hm L e (Z.append n) v PX (grownCap w (l.length+ys.length) l.length e) (by rw[List.length_append];exact grownCap_ge w _ _ _) (lB (by omega)) rs' _ rfl
           rw[List.length_append]at hA;refine⟨K,H',?_⟩;have e3:(olds++u0 cs off (ys.length*ty.size)).toArray=olds.toArray++(u0 cs off (ys.length*ty.size)).toArray:=by simp
           rw[e3]at hA;exact hA
        rcases hl with hl|⟨M,b3e,cs2,eb2,fz2,g1,g2,g3⟩
        ·subst hl;cases base with
         |none=>
          have b16:=z;have a4o:ys.length*i.bytes<=1099511627776*64:=Nat.mul_le_mul (by simp at C;omega) hby
          have:=run_append_nil (P:=P) w t o.type e i v hu hi hv ⟨b,off,none⟩ ys.length s _ (by rw[n.1,E]) d z (by simp at C;omega) (by omega)
          simp only[List.length_nil];rw[j1 this];exact B4 H7 hk (fun L=>⟨K,eB l9 hm L e n v PX _ (grownCap_ge w _ _ _) (lB (by omega)) rs' _ rfl⟩) (by simp[N4])
         |some bx=>exact grow bx [] rfl B5.nil (fun j v hj=>by simp at hj)
        ·rcases Decidable.em (l=[])with hl0|hl0
         ·subst hl0;exact grow _ [] g1 B5.nil (fun j v hj=>by simp at hj)
         ·obtain⟨a8n,a1O⟩:=qY g2 g3 hl0;exact grow _ _ g1 a8n a1O
      split at h
      ·rename_i he;rw[he]at V;simp only[c8]at V;exact S V h.1 h.2
      ·rename_i N he;split at h
       ·rw[he]at V;simp only[c8]at V;exact S V h.1 h.2
       ·exact absurd h id
      ·rename_i N l he;split at h
       ·rename_i ht';subst ht';obtain⟨h1,h2,h3⟩:=h;rw[he]at V;simp only[c8]at V;obtain⟨base,cap,g1,g2,g3,g4⟩:=V;have g3:=g3 rfl;subst g3;refine G l base g1 ?_ h1 h2 rs h3;rcases g4 with g4|⟨b,off,arr,g4,g5,g6⟩
        ·exact .inl g4
        ·obtain⟨eb,fz,hh⟩:=l9.y6.1 b arr g5;exact .inr ⟨b,off,arr,eb,fz,g4,hh,g6⟩
       ·exact absurd h id
      ·rename_i r f he;split at h
       ·rename_i N l T;split at h
        ·rename_i ht';subst ht';obtain⟨C,h⟩:=h;rw[he]at V;simp only[c8]at V;obtain⟨hd,g1,g2,g3⟩:=V;have hcr:=hm.cont r _ .own hd T (by simp) g1
         obtain⟨c1,c2,c3,c4⟩:=hcr;have UC:y7 m [(r,p8.dead)]=S0 m r (.sl N l,.dead):=by simp[y7,bN,T]
         have hmd:j8 F K H w (y7 m [(r,p8.dead)]):=by
          rw[UC];exact hm.flag r _ .own .dead T (by simp) (by simp)
         rcases c4 with⟨c4,c5⟩|⟨b,cs,eb,fz,k1,k2,k3,k4⟩
         ·
           have hl0:l=[]:=List.eq_nil_of_length_eq_zero (by omega)
           subst hl0;have RJ:hd.len=0:=by omega
           rw[g2,c4,c5,RJ,ey];simp only[Option.map_none];rcases Decidable.em (ys=[])with J|J
           ·subst J;have:=eA (P:=P) (w:=w) (ty:=o.type) hu hi none Y 0 0 s (Nat.le_refl _);rw[List.length_nil,j1 this];refine B4 H7 h (fun L=>?_) (by simp[N4])
            obtain⟨H',hA⟩:=Gu (nx:=nx) l9 hmd L N false (r::rs);exact⟨K,H',bP.use (.refl K) (.refl F K) hA⟩
           ·rcases B with B|⟨b,off,cs,eb,fz,h1,h2,h3⟩
            ·exact absurd B J
            ·subst h1;obtain⟨n,d⟩:=qY h2 h3 J;have z:0<ys.length:=by cases ys with|nil=>exact absurd rfl J|cons a l=>simp
             have a4o:ys.length*i.bytes<=1099511627776*64:=Nat.mul_le_mul (by simp at C;omega) hby
             have:=run_append_nil (P:=P) w t o.type e i v hu hi hv ⟨b,off,none⟩ ys.length s _ (by rw[n.1,E]) d z (by simp at C;omega) (by omega)
             rw[j1 this];refine B4 H7 h (fun L=>?_) (by simp[N4])
             obtain⟨H',hA⟩:=eB (nx:=nx) l9 hmd L e n v PX _ (grownCap_ge w ys.length 0 e) (lB (by simp at C;omega)) (r::rs) _ rfl
             exact⟨K,H',bP.use (.refl K) (.refl F K) hA⟩
         ·
           obtain⟨o1,o2,o3,ocl⟩:=hm.own r _ hd b T g1 k1;obtain⟨cs0,e0,o4⟩:=ocl rfl;rw[k2]at o4;cases o4;rw[g2,k1,ey];simp only[Option.map_some];have Jw:hd.len=l.length:=c2;rcases Decidable.em (ys=[])with J|J
           ·subst J;have:=eA (P:=P) (w:=w) (ty:=o.type) hu hi (some ⟨b,0,none⟩) Y hd.len hd.cap s c3.1;rw[List.length_nil,j1 this];refine B4 H7 h (fun L=>?_) (by simp[N4])
            refine⟨K,S0 H nx hd,.refl K,L9 L,?_,?_,?_,l9,.refl F w,.refl F K⟩
            ·intro U D X;by_cases R:U=nx
             ·subst R;simp[N4]
             ·rw[n6 _ _ _ _ R]at X;exact absurd D X
            ·simp only[c8,N4];exact⟨hd,j6 _ _ _,by rw[k1];rfl,by simp⟩
            ·simp only[Q.mm,N4,E8];refine hmd.new nx L _ hd ?_ (fun b' XL=>?_)
             ·rw[List.append_nil];exact⟨c1,c2,c3,.inr ⟨b,cs,eb,(0,0),k1,k2,k3,k4⟩⟩
             ·rw[k1]at XL;cases XL;refine⟨o1,o2,o3,fun _=>⟨cs,eb,k2⟩,fun U c' W3 D X q3=>?_⟩
              rw[UC]at D;by_cases R:U=r
              ·subst R;rw[j6]at D;cases D
              ·rw[n6 _ _ _ _ R]at D;exact R (hm.inj U r c' _ W3 hd b D T X g1 q3 k1)
           ·rcases B with B|⟨by',A,csy,eby,fzy,h1,h2,h3⟩
            ·exact absurd B J
            ·subst h1;obtain⟨n,d⟩:=qY h2 h3 J;by_cases a0o:hd.len+ys.length<=hd.cap
             ·have I:hd.len*i.size+(u0 csy A (ys.length*N.size)).length<=cs.size:=by
               rw[n.1,E,<-Nat.add_mul];exact Nat.le_trans (Nat.mul_le_mul_right _ a0o) k3
              obtain⟨w',hr,hup⟩:=JT (P:=P) (w:=w) (ty:=o.type) hu hi b hd.len hd.cap cs eb k2 ⟨by',A,none⟩ ys.length s _ (by rw[n.1,E]) d (dG n) a0o I
              rw[j1 hr];refine B4 H7 h (fun L=>?_) (by simp[N4])
              let W3:Hd:=⟨some b,N.size,(l++ys).length,hd.cap⟩
              have nY:=hup.kept (F:=F) o1;have hold:∀U c' f' O M,y7 m [(r,p8.dead)] U=some (c',f')->f'≠ .dead->H U=some O->O.base=some M->M≠b:=by
               intro U c' f' O M D X q3 q4 q5;subst q5;rw[UC]at D;by_cases R:U=r
               ·subst R;rw[j6]at D;cases D;exact X rfl
               ·rw[n6 _ _ _ _ R]at D;cases f' with
                |dead=>exact X rfl
                |own=>exact R (hm.inj U r c' _ O hd M D T q3 g1 q4 k1)
                |aQ=>
                 obtain⟨BL,g⟩:=hm.aQ U c' O M D q3 q4;rw[o2]at g;cases g
              have PY:j8 F K H w' (y7 m [(r,p8.dead)]):=hmd.world (fun U c' f' O M D X q3 q4=>hup.other M (hold U c' f' O M D X q3 q4))
              have CP:J0 F K w':=by
               refine⟨⟨fun M cs2 Ux=>?_,fun M p hp=>?_⟩,fun M hb2=>by rw[hup.size];exact l9.lt M hb2,l9.inv,l9.apart⟩
               ·obtain⟨e2',fz2,q⟩:=l9.y6.1 M cs2 Ux;have Gv:M≠b:=by intro R;subst R;rw[o2]at Ux;cases Ux
                exact⟨e2',fz2,by rw[hup.other M Gv];exact q⟩
               ·obtain⟨o',q,hp'⟩:=l9.y6.2 M p hp;have Gv:M≠b:=by intro R;subst R;rw[o3]at hp;cases hp
                exact⟨o',by rw[hup.other M Gv];exact q,hp'⟩
              have Z:=k4.zB (by
               rw[Nat.zero_add]
               exact Nat.le_trans (Nat.mul_le_mul_right _ (by omega)) k3)
              have hsp:(G1 cs (hd.len*i.size) (u0 csy A (ys.length*N.size)))=(u0 cs 0 (l.length*N.size)++u0 csy A (ys.length*N.size)++cs.toList.drop (hd.len*i.size+(u0 csy A (ys.length*N.size)).length)).toArray:=by
               apply Array.toList_inj.1;rw[G2 cs _ _ I];simp[u0,Jw,E]
              refine⟨K,S0 H nx W3,.refl K,L9 L,?_,?_,?_,CP,nY,.refl F K⟩
              ·intro U D X;by_cases R:U=nx
               ·subst R;simp[N4]
               ·rw[n6 _ _ _ _ R]at X;exact absurd D X
              ·simp only[c8,N4];exact⟨W3,j6 _ _ _,by simp[W3,Jw],by simp⟩
              ·simp only[Q.mm,N4,E8];refine PY.new nx L _ W3 ?_ (fun b' XL=>?_)
               ·refine⟨rfl,rfl,by simp[W3];omega,.inr ⟨b,_,eb,(0,0),rfl,hup.here,?_,?_⟩⟩
                ·rw[J7];exact k3
                ·rw[hsp];exact(Z.append n).elems
               ·cases XL;exact⟨o1,o2,o3,fun _=>⟨_,eb,hup.here⟩,fun U c' O D X q3=>hold U c' .own O b D (by simp) X q3 rfl⟩
             ·have Z:=k4.zB (by
               rw[Nat.zero_add]
               exact Nat.le_trans (Nat.mul_le_mul_right _ (by omega)) k3)
              have hoc:∀j u,(u0 cs 0 (l.length*N.size))[j]? =some u->w.cell? ((⟨b,0,none⟩:Addr).add j)=some u:=by
               intro j u hj;have AD:j<l.length*N.size:=by
                rcases Nat.lt_or_ge j (l.length*N.size)with hh|hh
                ·exact hh
                ·rw[List.getElem?_eq_none (by simp[u0];omega)]at hj;cases hj
               rw[O3 AD]at hj;rw[G5,cY k2];exact hj
              have hmul:(hd.len+ys.length)*i.bytes<=1099511627776*64:=Nat.mul_le_mul (by omega) hby
              have I:=growslice_fits (need:=hd.len+ys.length) (old:=hd.cap) (bytes:=i.bytes) (by omega) (by omega)
              have:=run_append_grow (P:=P) w t o.type e i v hu hi hv ⟨b,0,none⟩ hd.len hd.cap _ (by rw[Z.1,E,Jw]) hoc ⟨by',A,none⟩ ys.length s _ (by rw[n.1,E]) d (by omega) (by omega) I
              rw[j1 this];refine B4 H7 h (fun L=>?_) (by simp[N4])
              obtain⟨H',hA⟩:=eB (nx:=nx) l9 hmd L e (Z.append n) v PX (grownCap w (hd.len+ys.length) hd.cap e) (by rw[List.length_append,<-Jw];exact grownCap_ge w _ _ _) (lB (by omega)) (r::rs) _ rfl
              refine⟨K,H',bP.use (.refl K) (.refl F K) ?_⟩;have e3:(u0 cs 0 (l.length*N.size)++u0 csy A (ys.length*N.size)).toArray=(u0 cs 0 (l.length*N.size)).toArray++(u0 csy A (ys.length*N.size)).toArray:=by simp
              rw[e3,List.length_append,<-Jw]at hA;rw[<-Jw];exact hA
        ·exact absurd h id
       ·exact absurd h id
      ·rename_i r lo len he;split at h
       ·rename_i N l g T;split at h
        ·rename_i ht';subst ht';split at h
         ·exact absurd h id
         ·rename_i hg;obtain⟨h1,h2,h3⟩:=h;rw[he]at V;have a8o:jY m N (.sub r lo len true)=some ((l.drop lo).take len,[r]):=by
           simp[jY,T,hg]
          obtain⟨base,cap,D,X⟩:=uI hm l9.y6 a8o V;simp only[c8]at V;obtain⟨hd,a8p,b19,p1,p2,p3,p4,p5,p6,p7⟩:=V;rw[D]at p2;simp only[Value.slice.injEq]at p2;obtain⟨rfl,p2,rfl⟩:=p2;have a4q:cap=len:=p6 (by simp)
          have q1':ρ x=.slice base ((l.drop lo).take len).length ((l.drop lo).take len).length:=by rw[D,p2,a4q]
          refine G ((l.drop lo).take len) base q1' X (by rw[p2];exact h1) h2 (r::rs) ?_
          exact h3
        ·exact absurd h id
       ·exact absurd h id
      ·exact absurd h id
     ·exact absurd h id
    ·exact absurd h id
   ·exact absurd h id
  ·exact absurd h id
 ·exact absurd h id
end
end Go.Abs
end
section
namespace Go.Abs
def gU(P:Program)(f:FuncId)(args:List a7)(a:List c7)(k:a7->List c7->Prop):Prop:=
 ∀ (F:Nat->Prop) (K:j0) (H:Nat->Option Hd) (w:World) (vs:List Value),J0 F K w->c9 K H args vs->j8 F K H w (E8 (fun _=>none) 0 a)->(∀r,a.length<=r->H r=none)->(∀r,r<a.length->∃hd,H r=some hd)->
  Calls P f vs.toArray w (fun e w'=>∃v r b K' H',e=.returned v/\k r b/\K.le K'/\c8 K' H' r v/\j8 F K' H' w' (E8 (fun _=>none) 0 b)/\(∀r,b.length<=r->H' r=none)/\
   J0 F K' w'/\Kept F w w'/\Fix F K K'/\a.length<=b.length/\∀r,r<a.length->H' r=H r)
structure Good(P:Program)(Γ:Env):Prop where
 spec:∀f c,Γ f=some c->∀Bw cs k,c.run Bw cs k->gU P f Bw cs k
 call:∀f c,Γ f=some c->∀args w,(callFunc f args).run P w=.ok (.enter f args) w
theorem u6:∀ (cs:List c7) (m:Mm) (n r:Nat),E8 m n cs r=if h:n<=r/\r<n+cs.length then some (cs[r- n]'(by omega),.own)else m r
 |[],m,n,r=>by
  rw[dif_neg (by simp only[List.length_nil];omega)];rfl
 |c::cs,m,n,r=>by
  simp only[E8];rw[u6 cs];by_cases h:n+1<=r/\r<n+1+cs.length
  ·rw[dif_pos h,dif_pos (by simp;omega)]
   have e:r- n=(r- (n+1))+1:=by omega
   simp only[e,List.getElem_cons_succ]
  ·rw[dif_neg h];by_cases a:r=n
   ·subst a;rw[j6,dif_pos (by simp)]
    simp
   ·rw[n6 _ _ _ _ a,dif_neg (by simp;omega)]
mutual
theorem CQ{K K':j0}{H:Nat->Option Hd}:∀ (a:a7) (v:Value),a.flat=true->c8 K H a v->c8 K' H a v
 |.bool _,_,_,h=>by simpa [c8]using h
 |.int _ _,_,_,h=>by simpa [c8]using h
 |.B6 _ _,_,_,h=>by simp only[c8]at h ⊢;exact h
 |.z8 _,_,_,h=>by simp only[c8]at h ⊢;exact h
 |.agg cs,v,b,h=>by
  simp only[c8]at h ⊢;obtain⟨c,d,e⟩:=h;exact⟨c,d,qZ cs _ (by simpa [a7.flat]using b) e⟩
 |.I9 cs,v,b,h=>by
  simp only[c8]at h ⊢;obtain⟨c,d,e⟩:=h;exact⟨c,d,qZ cs _ (by simpa [a7.flat]using b) e⟩
 |.R3,_,b,_=>by simp[a7.flat]at b
 |.W2,_,b,_=>by simp[a7.flat]at b
 |.R9 _,_,b,_=>by simp[a7.flat]at b
 |.P5 _ _ _,_,b,_=>by simp[a7.flat]at b
 |.sub _ _ _ _,_,b,_=>by simp[a7.flat]at b
 |.ptr _ _,_,b,_=>by simp[a7.flat]at b
 |.P9 _ _ _,_,b,_=>by simp[a7.flat]at b
 |.O2 _,_,b,_=>by simp[a7.flat]at b
 |.L8 _,_,b,_=>by simp[a7.flat]at b
 |.V5 _ _,_,b,_=>by simp[a7.flat]at b
 |.fn _ _ _,_,b,_=>by simp[a7.flat]at b
 |.U0,_,b,_=>by simp[a7.flat]at b
 |.J2,_,b,_=>by simp[a7.flat]at b
 |.z6 _,_,b,_=>by simp[a7.flat]at b
 |.Bu _ _,_,b,_=>by simp[a7.flat]at b
theorem qZ{K K':j0}{H:Nat->Option Hd}:∀ (b:List a7) (vs:List Value),Gm b=true->c9 K H b vs->c9 K' H b vs
 |[],_,_,h=>by simpa [c9]using h
 |a::b,vs,e,h=>by
  simp only[Gm,Bool.and_eq_true]at e;simp only[c9]at h ⊢;obtain⟨c,d,f,g,i⟩:=h;exact⟨c,d,f,CQ a c e.1 g,qZ b d e.2 i⟩
end
theorem CT{K K':j0}:∀ (t:Ty) (x:t.den) (cs:List Value),t.flat=true->s9 K t x cs->s9 K' t x cs
 |.int _,_,_,_,h=>h
 |.bool,_,_,_,h=>h
 |.slice _,_,_,c,_=>by simp[Ty.flat]at c
 |.pair a b,_,_,c,h=>by
  simp only[Ty.flat,Bool.and_eq_true]at c;obtain⟨d,e,f,g,i⟩:=h;exact⟨d,e,f,CT a _ _ c.1 g,CT b _ _ c.2 i⟩
mutual
theorem wE:∀ (ρ:Nat->Nat) (b:List a7),(jD ρ b).length=b.length
 |_,[]=>rfl
 |ρ,a::b=>by simp[jD,wE ρ b]
theorem lC{K:j0}{H H':Nat->Option Hd}{ρ:Nat->Nat}(g:∀r hd,H r=some hd->H' (ρ r)=some hd):∀ (a:a7) (v:Value),c8 K H a v->c8 K H' (a.X5 ρ) v
 |.R3,_,_=>by simp[c8,a7.X5]
 |.bool _,_,h=>by simpa [c8,a7.X5]using h
 |.int _ _,_,h=>by simpa [c8,a7.X5]using h
 |.W2,_,h=>by simpa [c8,a7.X5]using h
 |.R9 _,_,h=>by simpa [c8,a7.X5]using h
 |.U0,_,h=>by simpa [c8,a7.X5]using h
 |.P5 _ _ _,_,h=>by simp only[c8,a7.X5]at h ⊢;exact h
 |.V5 _ _,_,h=>by simp only[c8,a7.X5]at h ⊢;exact h
 |.J2,_,h=>by simp only[c8,a7.X5]at h ⊢;exact h
 |.z6 _,_,h=>by simp only[c8,a7.X5]at h ⊢;exact h
 |.Bu _ _,_,_=>by simp[c8,a7.X5]
 |.B6 r f,v,h=>by
  simp only[c8,a7.X5]at h ⊢;obtain⟨hd,d,e⟩:=h;exact⟨hd,g _ _ d,e⟩
 |.z8 r,v,h=>by
  simp only[c8,a7.X5]at h ⊢;obtain⟨hd,b,d,e⟩:=h;exact⟨hd,b,g _ _ d,e⟩
 |.sub r lo len f,v,h=>by
  simp only[c8,a7.X5]at h ⊢;obtain⟨hd,c,b,d,e⟩:=h;exact⟨hd,c,b,g _ _ d,e⟩
 |.ptr r o,v,h=>by
  simp only[c8,a7.X5]at h ⊢;obtain⟨hd,b,d,e⟩:=h;exact⟨hd,b,g _ _ d,e⟩
 |.P9 r i o,v,h=>by
  simp only[c8,a7.X5]at h ⊢;obtain⟨hd,b,d,e⟩:=h;exact⟨hd,b,g _ _ d,e⟩
 |.O2 r,v,h=>by
  simp only[c8,a7.X5]at h ⊢;obtain⟨hd,b,d,e⟩:=h;exact⟨hd,b,g _ _ d,e⟩
 |.L8 cs,v,h=>by
  simp only[c8,a7.X5]at h ⊢;obtain⟨b,off,arr,d,e,j⟩:=h;refine⟨b,off,arr,d,e,?_⟩;rw[wE];exact Z6 g cs _ j
 |.agg cs,v,h=>by
  simp only[c8,a7.X5]at h ⊢;obtain⟨c,d,e⟩:=h;exact⟨c,d,Z6 g cs _ e⟩
 |.I9 cs,v,h=>by
  simp only[c8,a7.X5]at h ⊢;obtain⟨c,d,e⟩:=h;exact⟨c,d,Z6 g cs _ e⟩
 |.fn f a b,v,h=>by
  simp only[c8,a7.X5]at h ⊢;obtain⟨l,n,d,e,j⟩:=h;exact⟨l,n,d,Z6 g a _ e,Z6 g b _ j⟩
theorem Z6{K:j0}{H H':Nat->Option Hd}{ρ:Nat->Nat}(e:∀r hd,H r=some hd->H' (ρ r)=some hd):∀ (b:List a7) (vs:List Value),c9 K H b vs->c9 K H' (jD ρ b) vs
 |[],_,h=>by simpa [c9,jD]using h
 |a::b,vs,h=>by
  simp only[c9,jD]at h ⊢;obtain⟨c,d,f,g,i⟩:=h;exact⟨c,d,f,lC e a c g,Z6 e b d i⟩
end
theorem U5(ρ:Nat->Nat):∀ (cs:List c7),(cW ρ cs).length=cs.length
 |[]=>rfl
 |c::cs=>by simp[cW,U5 ρ cs]
theorem rA(ρ:Nat->Nat):∀ (cs:List c7) (i:Nat) (h:i<cs.length),(cW ρ cs)[i]'(by rw[U5];exact h)=cs[i].X5 ρ
 |[],i,h=>by simp at h
 |c::cs,0,h=>rfl
 |c::cs,i+1,h=>by simp only[cW,List.getElem_cons_succ];exact rA ρ cs i (by simpa using h)
theorem aU(n:Nat)(cs:List c7):(yS n cs).length=cs.length:=U5 _ cs
theorem NM(n:Nat)(cs:List c7)(i:Nat)(h:i<cs.length):(yS n cs)[i]'(by rw[aU];exact h)=cs[i].shift n:=rA _ cs i h
mutual
theorem PZ{K:j0}{H H':Nat->Option Hd}:∀ (a:a7) (v:Value),a.PM=true->c8 K H a v->c8 K H' a v
 |.R3,_,_,_=>by simp[c8]
 |.bool _,_,_,h=>by simpa [c8]using h
 |.int _ _,_,_,h=>by simpa [c8]using h
 |.W2,_,_,h=>by simpa [c8]using h
 |.R9 _,_,_,h=>by simpa [c8]using h
 |.U0,_,_,h=>by simpa [c8]using h
 |.P5 _ _ _,_,_,h=>by simp only[c8]at h ⊢;exact h
 |.V5 _ _,_,_,h=>by simp only[c8]at h ⊢;exact h
 |.J2,_,_,h=>by simp only[c8]at h ⊢;exact h
 |.z6 _,_,_,h=>by simp only[c8]at h ⊢;exact h
 |.Bu _ _,_,d,_=>by simp[a7.PM]at d
 |.B6 _ _,_,d,_=>by simp[a7.PM]at d
 |.z8 _,_,d,_=>by simp[a7.PM]at d
 |.sub _ _ _ _,_,d,_=>by simp[a7.PM]at d
 |.ptr _ _,_,d,_=>by simp[a7.PM]at d
 |.P9 _ _ _,_,d,_=>by simp[a7.PM]at d
 |.O2 _,_,d,_=>by simp[a7.PM]at d
 |.L8 cs,v,d,h=>by
  simp only[c8]at h ⊢;obtain⟨b,off,arr,e,g,i⟩:=h;exact⟨b,off,arr,e,g,gV cs _ (by simpa [a7.PM]using d) i⟩
 |.agg cs,v,d,h=>by
  simp only[c8]at h ⊢;obtain⟨c,e,g⟩:=h;exact⟨c,e,gV cs _ (by simpa [a7.PM]using d) g⟩
 |.I9 cs,v,d,h=>by
  simp only[c8]at h ⊢;obtain⟨c,e,g⟩:=h;exact⟨c,e,gV cs _ (by simpa [a7.PM]using d) g⟩
 |.fn f a b,v,d,h=>by
  simp only[a7.PM,Bool.and_eq_true]at d;simp only[c8]at h ⊢;obtain⟨j,l,e,g,i⟩:=h;exact⟨j,l,e,gV a _ d.1 g,gV b _ d.2 i⟩
theorem gV{K:j0}{H H':Nat->Option Hd}:∀ (b:List a7) (vs:List Value),HK b=true->c9 K H b vs->c9 K H' b vs
 |[],_,_,h=>by simpa [c9]using h
 |a::b,vs,e,h=>by
  simp only[HK,Bool.and_eq_true]at e;simp only[c9]at h ⊢;obtain⟨c,d,f,g,i⟩:=h;exact⟨c,d,f,PZ a c e.1 g,gV b d e.2 i⟩
end
theorem lD:∀ (cs:List c7) (i:Nat) (h:i<cs.length),U2 cs=true->U2 [cs[i]]=true
 |[],i,h,_=>by simp at h
 |.sl t l::cs,0,h,d=>by simp only[U2,Bool.and_eq_true,List.getElem_cons_zero]at d ⊢;exact⟨d.1,trivial⟩
 |.box c::cs,0,h,d=>by simp only[U2,Bool.and_eq_true,List.getElem_cons_zero]at d ⊢;exact⟨d.1,trivial⟩
 |.mp mk l clk::cs,0,h,d=>by simp[U2]
 |.it m a b c::cs,_,h,d=>by simp[U2]at d
 |.bx _ _ _ _ _::cs,_,h,d=>by simp[U2]at d
 |.F8 _::cs,_,h,d=>by simp[U2]at d
 |.any::cs,_,h,d=>by simp[U2]at d
 |.sl t l::cs,i+1,h,d=>by
  simp only[U2,Bool.and_eq_true]at d;simp only[List.getElem_cons_succ];exact lD cs i (by simpa using h) d.2
 |.box c::cs,i+1,h,d=>by
  simp only[U2,Bool.and_eq_true]at d;simp only[List.getElem_cons_succ];exact lD cs i (by simpa using h) d.2
 |.mp mk l clk::cs,i+1,h,d=>by
  simp only[U2]at d;simp only[List.getElem_cons_succ];exact lD cs i (by simpa using h) d
theorem Gw{K:j0}{H H':Nat->Option Hd}{w:World}{ρ:Nat->Nat}{hd:Hd}{c:c7}(g:∀r hd,H r=some hd->H' (ρ r)=some hd)(h:o8 K H w hd c):o8 K H' w hd (c.X5 ρ):=by
 cases c with
 |box cells=>
  obtain⟨b,cs,e,i,a,d,f⟩:=h;exact⟨b,cs,e,i,a,d,Z6 g cells _ f⟩
 |bx p t n l q=>
  obtain⟨j,g2,b,cs,e,i,A,B,C,a,d,f,s,u,v⟩:=h;exact⟨j,g2,b,cs,e,i,A,B,C,a,d,f,Z6 g p _ s,u,Z6 g q _ v⟩
 |sl t l=>exact h
 |mp mk l clk=>exact h
 |it m x seen y=>
  obtain⟨a,d,f,b,D,s,u,v⟩:=h;refine⟨a,d,f,b,D,s,u,fun r z=>?_⟩
  cases m with
  |none=>cases z
  |some E=>
   cases z;obtain⟨G,j,g2⟩:=v E rfl;exact⟨G,g _ _ j,g2⟩
 |F8 o=>exact BM h
 |any=>exact h
theorem NN{K:j0}{H H':Nat->Option Hd}{w:World}{n:Nat}{hd:Hd}{c:c7}(a:∀r hd,H r=some hd->H' (r+n)=some hd)(h:o8 K H w hd c):o8 K H' w hd (c.shift n):=Gw a h
theorem wF(c:c7)(ρ:Nat->Nat)(h:(c.X5 ρ).isCells=true):c.isCells=true:=by cases c<;>first|exact h|cases h
theorem Gx{K K':j0}{H:Nat->Option Hd}{w:World}{hd:Hd}{c:c7}(d:U2 [c]=true)(h:o8 K H w hd c):o8 K' H w hd c:=by
 cases c with
 |box cells=>
  obtain⟨b,cs,e,f,g,j,r⟩:=h;exact⟨b,cs,e,f,g,j,qZ cells _ (by simpa [U2]using d) r⟩
 |sl t l=>
  obtain⟨g,j,r,s⟩:=h;refine⟨g,j,r,?_⟩;rcases s with s|⟨b,cs,e,f,u,g2,v,x⟩
  ·exact .inl s
  ·exact .inr ⟨b,cs,e,f,u,g2,v,fun i hi=>CT t _ _ (by simpa [U2]using d) (x i hi)⟩
 |mp mk l clk=>exact h
 |it m a b c=>simp[U2]at d
 |bx p t n l q=>simp[U2]at d
 |F8 o=>simp[U2]at d
 |any=>simp[U2]at d
def oA(H a:Nat->Option Hd)(n len:Nat):Nat->Option Hd:=fun r=>if n<=r/\r<n+len then a (r- n)else H r
section
variable {P:Program} {F:Nat->Prop} {K:j0} {H:Nat->Option Hd} {w:World} {m:Mm} {nx:Nat}
theorem AF{a:Nat->Option Hd}{n len:Nat}(c:∀r,len<=r->a r=none):∀r hd,a r=some hd->oA H a n len (r+n)=some hd:=by
 intro r hd h;have d:r<len:=by
  rcases Nat.lt_or_ge r len with b|b
  ·exact b
  ·rw[c r b]at h;cases h
 simp only[oA];rw[if_pos (by omega)]
 simpa using h
theorem zD{a:Nat->Option Hd}{n len:Nat}(b:∀i,i<len->H (n+i)=none):bY H (oA H a n len):=by
 intro r hd h;simp only[oA];by_cases c:n<=r/\r<n+len
 ·have:=b (r- n) (by omega)
  rw[show n+(r- n)=r by omega]at this
  rw[this]at h;cases h
 ·rw[if_neg c];exact h
theorem j8.join{u:Nat->Option Hd}{e:List c7}(h:j8 F K H w m)(A:j8 F K u w (E8 (fun _=>none) 0 e))(S:∀r,e.length<=r->u r=none)(T:∀i,i<e.length->H (nx+i)=none)
  {N:Nat}(q:∀r c f hd b,m r=some (c,f)->f≠ .dead->H r=some hd->hd.base=some b->b<N)(I2:∀r c hd b,E8 (fun _=>none) 0 e r=some (c,.own)->u r=some hd->hd.base=some b->N<=b):
  j8 F K (oA H u nx e.length) w (E8 m nx (yS nx e)):=by
 have B:=AF (H:=H) (n:=nx) S;have C:bY H (oA H u nx e.length):=zD T;have look:∀ {r c f hd},E8 m nx (yS nx e) r=some (c,f)->oA H u nx e.length r=some hd->
   (∃s,nx<=r/\r<nx+e.length/\E8 (fun _=>none) 0 e (r- nx)=some (s,.own)/\c=s.shift nx/\f=.own/\u (r- nx)=some hd)\/(¬(nx<=r/\r<nx+e.length)/\m r=some (c,f)/\H r=some hd):=by
  intro r c f hd d j;rw[u6]at d;simp only[oA]at j;by_cases l:nx<=r/\r<nx+e.length
  ·rw[dif_pos (by rw[aU];exact l)]at d
   rw[if_pos l]at j;simp only[Option.some.injEq,Prod.mk.injEq]at d;refine .inl ⟨e[r- nx]'(by omega),l.1,l.2,?_,?_,d.2.symm,j⟩
   ·rw[u6,dif_pos (by omega)];simp
   ·rw[<-d.1,NM]
  ·rw[dif_neg (by rw[aU];exact l)]at d
   rw[if_neg l]at j;exact .inr ⟨l,d,j⟩
 refine⟨?_,?_,?_,?_⟩
 ·intro r c f hd d j t;rcases look d t with⟨s,_,_,a,rfl,_,g2⟩|⟨_,a,g2⟩
  ·exact NN B (A.cont _ s .own hd a (by simp) g2)
  ·exact(h.cont r c f hd a j g2).mono (.refl K) C (fun _ _=>rfl)
 ·intro r c hd b d j t;rcases look d j with⟨s,_,_,a,rfl,_,g2⟩|⟨_,a,g2⟩
  ·obtain⟨U,V,k3,k4⟩:=A.own _ s hd b a g2 t;exact⟨U,V,k3,fun l=>k4 (wF s _ l)⟩
  ·exact h.own r c hd b a g2 t
 ·intro r c hd b d j t;rcases look d j with⟨s,_,_,a,rfl,g,g2⟩|⟨_,a,g2⟩
  ·cases g
  ·exact h.aQ r c hd b a g2 t
 ·intro I J L M o p b d j t O y z;rcases look d t with⟨R,X,Y,a,rfl,_,g2⟩|⟨X,a,g2⟩
  ·rcases look j O with⟨D,E,G,v,rfl,_,x⟩|⟨E,v,x⟩
   ·have:=A.inj _ _ R D o p b a v g2 x y z;omega
   ·have a1:=I2 _ R o b a g2 y;have Z:=q J M .own p b v (by simp) x z
    omega
  ·rcases look j O with⟨D,E,G,v,rfl,_,x⟩|⟨E,v,x⟩
   ·have a1:=I2 _ D p b v x z;have Z:=q I L .own o b a (by simp) g2 y
    omega
   ·exact h.inj I J L M o p b a v g2 x y z
variable {k:Q->Prop} {ev:Operand->a7} {ρ:Operand->Value} {Γ:Env}
theorem bG(P:Program):∀ (ts:List TypeId) (b:List a7) (vs:List Value),c9 K H b vs->c9 K H (K8 P ts b) vs
 |[],b,vs,h=>by cases b<;>simpa [K8]using h
 |t::ts,[],vs,h=>by simpa [K8]using h
 |t::ts,a::b,vs,h=>by
  obtain⟨c,cs,rfl,d,e⟩:=h.inv;exact .cons (Z5 d) (bG P ts b cs e)
theorem a1Q(hG:Good P Γ)(y:J0 F K w)(hm:j8 F K H w m)(n0:∀x,c8 K H (ev x) (ρ x))(H7:∀q,k q->∀i,i<q.new.length->H (nx+i)=none)
  (o:Oper){c:Call}{g:Operand}{f:FuncId}{first cap:List a7}(ho:o.op=.call c)(hc:c.callee=.value g)(hg:ev g=.fn (.func f) first cap)
  (h:sY Γ nx m f (first++K8 P c.argTypes.toList (c.args.toList.map ev)++cap) k):I0 P F K H w m nx k ((execOp ρ o).run P w):=by
 unfold sY at h;split at h
 ·rename_i vs E ct hv hct;split at h
  rotate_left
  ·exact h.elim
  rename_i hnm;have Yp:=n0 g;rw[hg]at Yp;simp only[c8]at Yp;obtain⟨fi,ca,e1,T,h2⟩:=Yp;have wG:c9 K H (first++K8 P c.argTypes.toList (c.args.toList.map ev)++cap) (fi++c.args.map ρ++ca).toList:=by
   have:=c9.append (c9.append T (bG P c.argTypes.toList _ _ (dZ n0 c.args.toList))) h2;simpa using this
  have pD:(execOp ρ o).run P w=.ok (.enter f (fi++c.args.map ρ++ca)) w:=by
   simp only[execOp,ho,resolve,hc,e1,Deferred.ofValue,Sem.run_bind,Sem.run_pure,Result.andThen_ok,invoke];exact hG.call f ct hct _ _
  rw[pD];refine⟨rfl,?_⟩;have U:∀r f,(r,f)∈E->f≠ .dead/\∃c,m r=some (c,f)/\c.isCells=true:=(dD m 6).2 _ _ _ hv
  let Kp:=K.plus w (R8 H E)
  have hB:∀r f hd b cs e fz,(r,f)∈E->H r=some hd->hd.base=some b->w.heap[b]? =some (.cells cs e fz)->Kp.cells b=some cs:=
   fun r f hd b cs e fz T h2 h3 h4=>gT (dC T h2 h3) y.y6 h4
  have PX:=gV (H':=fun _=>none) _ _ hnm.1 ((kY hm (K.M9 w (R8 H E)) H (.refl H) 6).2 _ _ _ _ hv hB wG).1
  obtain⟨X,lE⟩:=y.frozen hm E U;obtain⟨hmF,_⟩:=hm.freeze y.y6 E U
  let Y:Nat->Prop:=fun b=>b<w.heap.size/\K.inv b=none
  have G:∀b,F b->Y b:=fun b t=>⟨y.lt b t,by
   cases hi:K.inv b with
   |none=>rfl
   |some p=>exact absurd t (y.inv b p hi)⟩
  have a4s:∀b p,Kp.inv b=some p->¬Y b:=by
   intro b p hp t;have T:K.inv b=some p:=hp;rw[t.2]at T;cases T
  have NO:J0 Y Kp w:=⟨X.y6,fun b t=>t.1,a4s,X.apart⟩
  have HZ:j8 Y Kp (fun _=>none) w (E8 (fun _=>none) 0 []):=by
   refine⟨?_,?_,?_,?_⟩
   ·intro r c f hd h;cases h
   ·intro r c hd b h;cases h
   ·intro r c hd b h;cases h
   ·intro r j c c' hd W3 b h;cases h
  have I:=hG.spec f ct hct vs [] _ h Y Kp (fun _=>none) w (fi++c.args.map ρ++ca).toList NO PX HZ (fun _ _=>rfl) (fun r hr=>absurd hr (Nat.not_lt_zero _))
  rw[show(fi++c.args.map ρ++ca).toList.toArray=fi++c.args.map ρ++ca from rfl]at I;refine Calls.mono I ?_;rintro e w' ⟨v,r,J,K',HR,rfl,hk,C,Z,z,hz,A,u,L,_⟩;have hf:∀i,i<J.length->H (nx+i)=none:=fun i hi=>H7 _ hk i (by simpa [aU]using hi)
  have hsh:=AF (H:=H) (n:=nx) hz;have d:∀r c f hd b,m r=some (c,f)->f≠ .dead->H r=some hd->hd.base=some b->Y b:=by
   intro r c f hd b a l q3 q4;refine⟨U4 hm a l q3 q4,?_⟩;cases f with
   |dead=>exact absurd rfl l
   |own=>exact(hm.own r c hd b a q3 q4).2.2.1
   |aQ=>
    obtain⟨cs,g⟩:=hm.aQ r c hd b a q3 q4;cases hi:K.inv b with
    |none=>rfl
    |some p=>have:=y.apart b p hi;rw[g]at this;cases this
  have M:∀r c hd b,E8 (fun _=>none) 0 J r=some (c,.own)->HR r=some hd->hd.base=some b->w.heap.size<=b:=by
   intro r c hd b a l q3;obtain⟨g1,g2,g3,g4⟩:=z.own r c hd b a l q3;rcases Nat.lt_or_ge b w.heap.size with h'|h'
   ·refine absurd ⟨h',?_⟩ g1;cases hi:K.inv b with
    |none=>rfl
    |some p=>
     have:=C.inv b p hi;rw[g3]at this;cases this
   ·exact h'
  have D:Kept F w w':=u.mono G;have I2:∀j,H j=none->oA H HR nx J.length j≠none->nx<=j/\j<nx+(yS nx J).length:=by
   intro j a l;simp only[oA]at l;by_cases a4t:nx<=j/\j<nx+J.length
   ·rw[aU];exact a4t
   ·rw[if_neg a4t]at l;exact absurd a l
  by_cases O:(r.flat && U2 J)=true
  ·
    rw[if_pos O]at hk;simp only[Bool.and_eq_true]at O;have R:j8 F K HR w' (E8 (fun _=>none) 0 J):=by
     refine⟨?_,?_,?_,?_⟩
     ·intro j c' f' hd a l q3;refine Gx ?_ (z.cont j c' f' hd a l q3);rw[u6]at a;split at a
      ·rename_i Yq;simp only[Option.some.injEq,Prod.mk.injEq]at a;rw[<-a.1];exact lD J _ _ O.2
      ·cases a
     ·intro j c' hd b a l q3;obtain⟨g1,g2,g3,g4⟩:=z.own j c' hd b a l q3;refine⟨fun t=>g1 (G b t),?_,?_,g4⟩
      ·cases Yq:K.cells b with
       |none=>rfl
       |some cs=>
        have:=C.cells b cs ((K.M9 w _).cells b cs Yq);rw[g2]at this;cases this
      ·cases hi:K.inv b with
       |none=>rfl
       |some p=>have:=C.inv b p hi;rw[g3]at this;cases this
     ·intro j c' hd b a l q3;rw[u6]at a;split at a
      ·cases a
      ·cases a
     ·exact z.inj
    have S:J0 F K w':=by
     refine⟨⟨fun b cs t=>A.y6.1 b cs (C.cells b cs ((K.M9 w _).cells b cs t)),fun b p t=>A.y6.2 b p (C.inv b p t)⟩,fun b t=>Nat.lt_of_lt_of_le (y.lt b t) u.size,y.inv,y.apart⟩
    have V:j8 F K H w' m:=hm.world (fun j c' f' hd b a l q3 q4=>u.block b (d j c' f' hd b a l q3 q4))
    refine⟨v,_,K,oA H HR nx J.length,rfl,hk,.refl K,zD hf,I2,lC hsh r v (CQ r v O.1 Z),?_,S,D,.refl F K⟩;exact V.join R hz hf (fun j c' f' hd b a l q3 q4=>(d j c' f' hd b a l q3 q4).1) M
  ·rw[if_neg O]at hk;have a4u:∀j c' hd b,y7 m (J9 E) j=some (c',.own)->H j=some hd->hd.base=some b->Y b:=by
    intro j c' hd b a l q3;rw[fD]at a;cases s:m j with
    |none=>rw[s]at a;cases a
    |some x=>
     obtain⟨c2,g2⟩:=x;rw[s]at a;simp only[Option.some.injEq,Prod.mk.injEq]at a;refine d j c2 g2 hd b s ?_ l q3;intro e;subst e;have:=a.2;split at this
     ·cases this
     ·cases this
   have V:j8 F Kp H w' (y7 m (J9 E)):=hmF.world (fun j c' f' hd b a l q3 q4=>by
    refine u.block b ?_;rw[fD]at a;cases s:m j with
    |none=>rw[s]at a;cases a
    |some x=>
     obtain⟨c2,g2⟩:=x;rw[s]at a;simp only[Option.some.injEq,Prod.mk.injEq]at a;refine d j c2 g2 hd b s ?_ q3 q4;intro e;subst e;by_cases B:(j,p8.own)∈E
     ·obtain⟨_,c3,UD,_⟩:=U j _ B;rw[s]at UD;cases UD
     ·rw[if_neg B]at a
      exact l a.2.symm)
   have XM:j8 F K' H w' (y7 m (J9 E)):=V.Ry C (fun j c' hd b a l q3=>by
    have t:=a4u j c' hd b a l q3;obtain⟨_,g2,g3,_⟩:=V.own j c' hd b a l q3;have:=L b t;rw[g2,g3]at this
    exact this)
   have R:j8 F K' HR w' (E8 (fun _=>none) 0 J):=by
    refine⟨z.cont,?_,z.aQ,z.inj⟩;intro j c' hd b a l q3;obtain⟨g1,g2,g3,g4⟩:=z.own j c' hd b a l q3;exact⟨fun t=>g1 (G b t),g2,g3,g4⟩
   have S:J0 F K' w':=by
    refine⟨A.y6,fun b t=>Nat.lt_of_lt_of_le (y.lt b t) u.size,fun b p t hF=>A.inv b p t (G b hF),A.apart⟩
   have CU:Fix F K K':=fun b t=>by
    have T:=lE b t;have h2:=L b (G b t);exact⟨h2.1.trans T.1,h2.2.trans T.2⟩
   refine⟨v,_,K',oA H HR nx J.length,rfl,hk,(K.M9 w _).trans C,zD hf,I2,lC hsh r v Z,?_,S,D,CU⟩;refine XM.join R hz hf (N:=w.heap.size) (fun j c' f' hd b a l q3 q4=>?_) M
   rcases Nat.lt_or_ge b w.heap.size with h'|h'
   ·exact h'
   ·exfalso;rw[fD]at a;cases s:m j with
    |none=>rw[s]at a;cases a
    |some x=>
     obtain⟨c2,g2⟩:=x;rw[s]at a;simp only[Option.some.injEq,Prod.mk.injEq]at a;have:Y b:=by
      refine d j c2 g2 hd b s ?_ q3 q4;intro e;subst e;by_cases B:(j,p8.own)∈E
      ·obtain⟨_,c3,UD,_⟩:=U j _ B;rw[s]at UD;cases UD
      ·rw[if_neg B]at a;exact l a.2.symm
     have:=this.1;omega
 ·exact absurd h id
end
end Go.Abs
end
section
namespace Go.Abs
section
variable {P:Program} {w:World}
theorem uJ{t:TypeId}(h:oS P t=true):∃kt b f i d,P.underlying t=some (.map kt b)/\P.underlying kt=some (.struct #[f])/\f.offset=0/\f.name≠ "_" /\P.underlying f.type=some (.int d)/\P.info? b=some i/\i.zero=some (.int .i64 0)/\aR P kt 1=true:=by
 unfold oS at h;split at h
 ·rename_i kt b k;simp only[Bool.and_eq_true]at h;obtain⟨⟨m,a⟩,c⟩:=h;split at a
  ·rename_i n e;obtain⟨l⟩:=n;unfold Ua at a;split at a
   ·rename_i f g;simp only[Bool.and_eq_true,decide_eq_true_eq]at a;obtain⟨⟨a1,o⟩,j⟩:=a;split at j
    ·rename_i d p;split at c
     ·rename_i i hi;split at c
      ·rename_i q;simp only at g;subst g;exact⟨kt,b,f,i,d,k,e,a1,o,p,hi,q,m⟩
      ·cases c
     ·cases c
    ·cases j
   ·cases a
  ·cases a
 ·cases h
theorem CV{kt:TypeId}{f:Field}{d:IntKind}(e:P.underlying kt=some (.struct #[f]))(g:f.offset=0)(h:f.name≠ "_")(b:P.underlying f.type=some (.int d))(em:Bool)(a:Int)(n:Nat):
  (Instr.checkKey em (n+1+1) kt (.agg #[.int .i64 a])).run P w=.ok () w:=by
 have c:Q1 P f.type=false:=by simp[Q1,b]
 have i:(part f.type #[.int .i64 a] f.offset).run P w=.ok (.int .i64 a) w:=by
  simp only[part,Sem.run_bind,W7 b,Result.andThen_ok,c,g];simp
 have j:(Instr.checkKey em (n+1) f.type (.int .i64 a)).run P w=.ok () w:=by
  simp[Instr.checkKey,run_underlying b]
 rw[Instr.checkKey];simp[run_underlying e,h,Sem.run_bind,i,j]
theorem dH{kt:TypeId}{f:Field}{b:IntKind}(c:P.underlying kt=some (.struct #[f]))(d:f.offset=0)(e:f.name≠ "_")(g:P.underlying f.type=some (.int b))(em:Bool)(a:Int):
 (Instr.checkKey em 10000 kt (.agg #[.int .i64 a])).run P w=.ok () w:=CV c d e g em a 9998
theorem kC{kt:TypeId}(c:aR P kt 1=true)(a b:Int):(Op.equal kt (.agg #[.int .i64 a]) (.agg #[.int .i64 b])).run P w=.ok (a==b) w:=by
 unfold aR at c;split at c
 ·rename_i fs f;simp only[Bool.and_eq_true,Bool.not_eq_true',decide_eq_true_eq]at c;obtain⟨⟨⟨g,g2⟩,i⟩,h⟩:=c;have d:P.fieldsOf kt=fs:=by simp[Program.fieldsOf,f]
  have e:=aT (P:=P) (w:=w) 9998 #[.int .i64 a] #[.int .i64 b] fs.toList 0 [(.i64,a,b)] h (by simpa using g) (by simp) (by simp)
  unfold Op.equal Op.maxDepth;rw[run_equalIn_struct w 9999 kt _ _ (by rw[d];exact f) g2,d,e]
  simp
 ·cases c
theorem mN{kt:TypeId}(k:aR P kt 1=true){c:Int->Int}(a:Int):∀ (d:List MapEntry) (i:Nat),(∀e∈d,∃a,e.key=.agg #[.int .i64 a]/\e.val=.int .i64 (c a))->
  (Instr.findAsking kt (.agg #[.int .i64 a]) d i).run P w=.ok none w\/∃j e,(Instr.findAsking kt (.agg #[.int .i64 a]) d i).run P w=.ok (some (i+j,.int .i64 (c a))) w/\d[j]? =some e/\e.key=.agg #[.int .i64 a]
 |[],i,_=>.inl (by simp[Instr.findAsking])
 |e::d,i,h=>by
  obtain⟨b,l,m⟩:=h e (by simp)
  unfold Instr.findAsking;rw[l];simp only[Sem.run_bind,kC k,Result.andThen_ok];cases f:(a==b)with
  |true=>
   have:a=b:=by simpa using f
   subst this;exact .inr ⟨0,e,by simp[m],rfl,l⟩
  |false=>
   rcases mN k a d (i+1) (fun e n=>h e (List.mem_cons_of_mem _ n))with g|⟨j,o,g,p,q⟩
   ·exact .inl (by simpa using g)
   ·exact .inr ⟨j+1,o,by simpa [Nat.add_assoc,Nat.add_comm 1 j]using g,by simpa using p,q⟩
theorem eL{kt:TypeId}{f:Field}(b:P.underlying kt=some (.struct #[f]))(x:Value)(a:List MapEntry):(Instr.findKey kt x a).run P w=(Instr.findAsking kt x a).run P w:=
 run_findKey_eq w (by simp[b]) x a
theorem C0{b:Nat}{c:Array MapEntry}{a:Nat}(h:w.heap[b]? =some (.map c a)):(getObj b).run P w=.ok (.map c a) w:=by
 simp[getObj,Sem.run,h]
theorem CW{t:TypeId}(y:oS P t=true){d:Int->Int}{b:Nat}{o:Obj}(z:w.heap[b]? =some o)(A:Z3 d o)(a:Int):
  ∃c:Bool,∀w2:World,w2.heap=w.heap->(Instr.lookup t (.map (some b)) (.agg #[.int .i64 a]) true).run P w2=.ok (.tuple #[.int .i64 (cond c (d a) 0),.bool c]) w2:=by
 obtain⟨kt,L,f,i,M,B,s,C,D,E,F,G,u⟩:=uJ y;obtain⟨n,g,rfl,p⟩:=A;have q:∀ (c:Bool),(∀w2:World,(Instr.findAsking kt (.agg #[.int .i64 a]) n.toList).run P w2=.ok none w2/\c=false\/(∃j,(Instr.findAsking kt (.agg #[.int .i64 a]) n.toList).run P w2=.ok (some (j,.int .i64 (d a))) w2)/\c=true)->
   ∀w2:World,w2.heap=w.heap->(Instr.lookup t (.map (some b)) (.agg #[.int .i64 a]) true).run P w2=.ok (.tuple #[.int .i64 (cond c (d a) 0),.bool c]) w2:=by
  intro c hh w2 H;have r:w2.heap[b]? =some (.map n g):=by rw[H];exact z
  unfold Instr.lookup;simp only[Sem.run_bind,run_underlying B,Result.andThen_ok,C0 r,Sem.run_pure,dH s C D E,eL s];rcases hh w2 with⟨h,rfl⟩|⟨⟨j,h⟩,rfl⟩
  ·rw[h];simp[aJ F G]
  ·rw[h];simp
 have k:∀ (l:List MapEntry) (i:Nat),(∀e∈l,∃a,e.key=.agg #[.int .i64 a]/\e.val=.int .i64 (d a))->∃c:Bool,∀w2:World,(Instr.findAsking kt (.agg #[.int .i64 a]) l i).run P w2=.ok none w2/\c=false\/(∃j,(Instr.findAsking kt (.agg #[.int .i64 a]) l i).run P w2=.ok (some (j,.int .i64 (d a))) w2)/\c=true:=by
  intro l
  induction l with
  |nil=>intro i _;exact⟨false,fun w2=>.inl ⟨by simp[Instr.findAsking],rfl⟩⟩
  |cons e l I=>
   intro i v;obtain⟨b',x,J⟩:=v e (by simp)
   cases m:(a==b')with
   |true=>
    have:a=b':=by simpa using m
    subst this;refine⟨true,fun w2=>.inr ⟨⟨i,?_⟩,rfl⟩⟩
    unfold Instr.findAsking;rw[x];simp[Sem.run_bind,kC u,J]
   |false=>
    obtain⟨c,hh⟩:=I (i+1) (fun e K=>v e (List.mem_cons_of_mem _ K))
    refine⟨c,fun w2=>?_⟩
    unfold Instr.findAsking;rw[x];simp only[Sem.run_bind,kC u,Result.andThen_ok,m];simpa using hh w2
 obtain⟨c,hh⟩:=k n.toList 0 p;exact⟨c,q c hh⟩
theorem E9{b:Nat}{d a:Array MapEntry}{c c':Nat}(h:w.heap[b]? =some (.map d c)):(setObj b (.map a c')).run P w=.ok () (w.putObj b (.map a c')):=by
 simp[setObj,Sem.run,h,World.putObj]
theorem Ia(a:Int)(w:World):(Instr.keyThatStays (.agg #[.int .i64 a]) (.agg #[.int .i64 a])).run P w=.ok (.agg #[.int .i64 a]) w:=by
 have:Instr.sameBits 10000 (.agg #[.int .i64 a]) (.agg #[.int .i64 a])=true:=by simp[Instr.sameBits]
 simp[Instr.keyThatStays,this]
theorem wH{t:TypeId}(r:oS P t=true){c:Int->Int}{b:Nat}{o:Obj}(m:w.heap[b]? =some o)(s:Z3 c o)(a:Int):
  ∃o',Z3 c o'/\(Instr.mapUpdate t (.map (some b)) (.agg #[.int .i64 a]) (.int .i64 (c a))).run P w=.ok () (w.putObj b o'):=by
 obtain⟨kt,E,f,i,F,u,q,v,x,y,G,H,z⟩:=uJ r;obtain⟨l,d,rfl,g⟩:=s;unfold Instr.mapUpdate;simp only[Sem.run_bind,run_underlying u,Result.andThen_ok,C0 m,dH q v x y,eL q];rcases mN (w:=w) z a l.toList 0 g with h|⟨j,e,h,A,B⟩
 ·refine⟨.map (l.push {key:=.agg #[.int .i64 a],val:=.int .i64 (c a),born:=d}) (d+1),⟨_,_,rfl,fun e k=>?_⟩,?_⟩
  ·simp only[Array.toList_push,List.mem_append,List.mem_singleton]at k;rcases k with k|rfl
   ·exact g e k
   ·exact⟨a,rfl,rfl⟩
  ·rw[h];simp[E9 m]
 ·have p:l[j]? =some e:=by simpa using A
  refine⟨.map (l.modify j fun e=> {e with key:=.agg #[.int .i64 a],val:=.int .i64 (c a)}) d,⟨_,_,rfl,fun I k=>?_⟩,?_⟩
  ·obtain⟨n,C,rfl⟩:=List.getElem_of_mem k;have D:n<l.size:=by simpa using C
   rw[Array.getElem_toList,Array.getElem_modify];split
   ·exact⟨a,rfl,rfl⟩
   ·exact g _ (by simp)
  ·rw[h];simp[p,B,Sem.run_bind,Ia,E9 m]
theorem CX{t u ty:TypeId}(p:oS P t=true){d:Int->Int}{b:Nat}{o:Obj}(k:w.heap[b]? =some o)(q:Z3 d o)(a:Int):
  ∃o',Z3 d o'/\(Builtin.delete_ #[t,u] ty #[.map (some b),.agg #[.int .i64 a]]).run P w=.ok (.tuple #[]) (w.putObj b o'):=by
 obtain⟨kt,D,f,i,E,r,m,s,v,x,F,G,y⟩:=uJ p;obtain⟨l,c,rfl,g⟩:=q;unfold Builtin.delete_;have z:(#[t,u]:Array TypeId)[0]? =some t:=rfl;have A:(#[Value.map (some b),.agg #[.int .i64 a]]:Array Value)[0]? =some (.map (some b)):=rfl;have B:(#[Value.map (some b),.agg #[.int .i64 a]]:Array Value)[1]? =some (.agg #[.int .i64 a]):=rfl;simp only[z,A,B,Sem.run_bind,run_underlying r,Result.andThen_ok,C0 k,dH m s v x,eL m];rcases mN (w:=w) y a l.toList 0 g with h|⟨j,e,h,H,I⟩
 ·refine⟨.map l c,⟨_,_,rfl,g⟩,?_⟩;rw[h];simp[E9 k]
 ·refine⟨.map (l.eraseIdxIfInBounds j) c,⟨_,_,rfl,fun C n=>g C ?_⟩,?_⟩
  ·simp only[Array.toList_eraseIdxIfInBounds]at n;exact List.mem_of_mem_eraseIdx n
  ·rw[h];simp[E9 k]
end
end Go.Abs
end
