/- Part 6 of the road to this seat's statements: lemmas about a small interpreter over the model's code, and about the functions that it is used on. No condition of its own. -/
import Derived.Test.YtmpngboelipooaaGreatProg
import Derived.Test.YtmpngboelipooaaGreatW5
set_option linter.all false
section
namespace Go.Abs
open Go.Proofs
theorem YP{P:Program}{cl:Nat}(hf:∀xs w,(callFunc cl xs).run P w=.ok (.enter cl xs) w)(z:∀ (b:Nat) (es:Array MapEntry) (t:Nat) (w:World),w.heap[b]? =some (.map es t)->Calls P cl #[.map (some b)] w fun e w'=>e=.returned (.map (some w.heap.size))/\w'=w.alloc (.map es t)):pG P cl:=by
 intro ks vs l clk;refine⟨hf,?_⟩;intro F K H w xs j A hm B L;have M:([HO.m ks vs l clk].map c7.z5).length=1:=rfl;rw[M]at B L;obtain⟨hd,v⟩:=L 0 (by omega)
 have N:G4 (fun _=>none) 0 ([HO.m ks vs l clk].map c7.z5) 0=some (.z5 (.m ks vs l clk),.own):=by rw[s9];rfl
 have C:=hm.cont 0 _ .own hd N (by simp) v
 obtain⟨b,es,D,O,h3⟩:=C;have hv:xs=[.map (some b)]:=by
  obtain⟨x,X,rfl,h,R⟩:=A;cases (show X=[]from R)
  .have hb:u6 K H (.c (kD 0)) x:=aR (x:=.c (kD 0)) h;rcases hb with⟨e,_⟩|⟨e,_⟩|z
   .cases e
   .cases e
   .obtain⟨d,a,S,g2,g3,_⟩:=z.isMap (by decide)
    have:mR (kD 0)=0:=rfl;rw[this,v]at S;cases S;rw[D]at g2;cases g2;rw[g3]
 subst hv;refine(z b es clk w O).mono (fun e w' ⟨he,hw⟩=>?_)
 subst hw;have Y:=s8 O;have n:∀a,a<w.heap.size->(w.alloc (.map es clk)).heap[a]? =w.heap[a]? :=fun a i=>by
  show(w.heap.push (.map es clk))[a]? =_;rw[rh i,ba i]
 have K8:(w.alloc (.map es clk)).heap[w.heap.size]? =some (.map es clk):=by
  show(w.heap.push (.map es clk))[w.heap.size]? =_;simp
 have Z:H 1=none:=B 1 (by omega)
 let bN:Hd:=⟨some w.heap.size,0,0,0⟩
 have T:aY H (N9 H 1 bN):=M3 Z;have k:∀r x,G4 (fun _=>none) 0 ([HO.m ks vs l clk,HO.m ks vs l clk].map c7.z5) r=some x->(r=0\/r=1)/\x=(.z5 (.m ks vs l clk),.own):=fun r x q=>by
  rw[s9]at q;split at q
  .rename_i s
   match r,s,q with
   |0,_,q=>exact⟨.inl rfl,by simpa using q.symm⟩
   |1,_,q=>exact⟨.inr rfl,by simpa using q.symm⟩
   |r+2,s,_=>exact absurd s.2 (by simp)
  .cases q
 obtain⟨o1,o2,o3,_⟩:=hm.own 0 _ hd b N v D;have y:N9 H 1 bN 0=some hd:=by rw[m7 _ _ _ _ (by omega)];exact v
 have u:N9 H 1 bN 1=some bN:=j8 _ _ _;have E:∀r d a,(r=0\/r=1)->N9 H 1 bN r=some d->d.base=some a->(r=0/\a=b/\d=hd)\/(r=1/\a=w.heap.size/\d=bN):=fun r d a s G J=>by
  rcases s with rfl|rfl
  .rw[y]at G;cases G;rw[D]at J;cases J;exact .inl ⟨rfl,rfl,rfl⟩
  .rw[u]at G;cases G;cases J;exact .inr ⟨rfl,rfl,rfl⟩
 obtain⟨nK1,nK2⟩:=j.w8.new (aw w.heap.size);refine⟨.map (some w.heap.size),I1 (.c (kD 1)),_,K,N9 H 1 bN,he,⟨rfl,rfl⟩,.refl K,?_,⟨?_,?_,?_,?_⟩,fun r s=>?_,⟨⟨fun a cs i=>?_,fun a p i=>?_⟩,fun a i=>?_,j.inv,j.apart⟩,⟨rfl,rfl,rfl,?_,fun a i=>n a (j.lt a i),aw _⟩,.refl F K,by simp,fun r s=>?_⟩
 .show b9 K (N9 H 1 bN) (I1 (.c (kD 1))) _;have:u6 K (N9 H 1 bN) (.c (kD 1)) (.map (some w.heap.size)):=.inr (.inr (.map 1 bN _ (by omega) u rfl))
  exact this.I1
 .intro r c f d I U q3;obtain⟨s,q⟩:=k r _ I;cases q;rcases s with rfl|rfl
  .rw[y]at q3;cases q3;exact n9.mono (.refl K) T (fun a e=>n a (by rw[D]at e;cases e;exact Y)) ⟨b,es,D,O,h3⟩
  .rw[u]at q3;cases q3;have:=n9.mono (w':=w) (.refl K) T (fun _ _=>rfl) (show n9 K H w hd (.z5 (.m ks vs l clk))from⟨b,es,D,O,h3⟩)
   obtain⟨b2,es2,G,J,e3⟩:=this;rw[D]at G;cases G;rw[O]at J;cases J;exact⟨w.heap.size,es,rfl,K8,e3⟩
 .intro r c d a I U q3;obtain⟨s,q⟩:=k r _ I;cases q;rcases E r d a s U q3 with⟨_,rfl,_⟩|⟨_,rfl,_⟩
  .exact⟨o1,o2,o3,fun z=>by cases z⟩
  .exact⟨fun hF=>absurd (j.lt _ hF) (pn _),nK1,nK2,fun z=>by cases z⟩
 .intro r c d a I U q3;obtain⟨_,q⟩:=k r _ I;cases q
 .intro r r' c c' d V a I U q3 q4 q5 q6;rcases E r d a (k r _ I).1 q3 q5 with⟨rfl,e,_⟩|⟨rfl,e,_⟩<;>rcases E r' V a (k r' _ U).1 q4 q6 with⟨rfl,e',_⟩|⟨rfl,e',_⟩<;>first|rfl|omega
 .rw[m7 _ _ _ _ (by simp at s;omega)]
  exact B r (by simp at s;omega)
 .obtain⟨e,fz,g⟩:=j.w8.1 a cs i;exact⟨e,fz,by rw[n a (s8 g)];exact g⟩
 .obtain⟨o,S,g2⟩:=j.w8.2 a p i;exact⟨o,by rw[n a (s8 S)];exact S,g2⟩
 .show a<(w.heap.push _).size;rw[pw];have:=j.lt a i;omega
 .show w.heap.size<=(w.heap.push _).size;rw[pw];omega
 .have:r=0:=by simp at s;omega
  subst this;exact m7 _ _ _ _ (by omega)
end Go.Abs
namespace Go.Proofs
open Go.Shelf
def Tryz.La:Go.Shelf.Ren:=⟨fun|5=>196|7=>217|n=>n,fun|23=>184|25=>68|3=>2|n=>n,fun|n=>n⟩
theorem Tryz.NO:Go.Proofs.SlLaysW.n5 Tryz.prog Tryz.La:= {
 mixed:=by kernel_rfl
 f5:=⟨Tryz.f196.name,by decide,Tryz.func196.trans (congrArg some (by kernel_rfl))⟩
 f7:=Tryz.func217.trans (congrArg some (by kernel_rfl))
 t4:=Tryz.underlying4
 a4:=Tryz.isAgg4
 z4:=Tryz.sizeOf4
 v4:=Tryz.zeroValue4
 t20:=Tryz.underlying20
 a20:=Tryz.isAgg20
 z20:=Tryz.sizeOf20
 v20:=Tryz.zeroValue20
 t23:=Tryz.underlying184
 a23:=Tryz.isAgg184
 z23:=Tryz.sizeOf184
 v23:=Tryz.zeroValue184}
theorem Z3:Go.Abs.pG Tryz.prog 196:=Go.Abs.YP (Go.Abs.eC Tryz.func196 (c:=Go.Abs.lE Tryz.prog 196) (by kernel_rfl) (by decide)) (fun b es a w d=>AnyW.maps_Clone Tryz.NO b es a w d)
end Go.Proofs
end
section
open Go Go.Abs Go.Proofs
theorem m4:Tryz.prog.follows .mixedOrders=true:=by decide+kernel
def SX:List (Nat×Nat×Nat):=[(52,66,2),(134,64,1048576)]
def WW:WT:=[(142,57,[(1,0,2000003),(3,1,0)]),(140,33,[(1,2,5)]),(66,98,[(1,0,5)]),(69,96,[]),(67,72,[])]
end
section
open Go Go.Abs Go.Proofs
namespace Go.Abs.T2
def NP:Nat->Code->Code
 |0,c=>c
 |k+1,.seq _ y=>NP k y
 |_+1,c=>c
noncomputable def NQ:Code:=(Tryz.f3.body).getD .skip
noncomputable def Ap:Code:=NP 8 NQ
noncomputable def GL:Code:=NP 5 Ap
noncomputable section
def isZ(o:HO):Bool:=@HO.rec (fun _=>Bool) (fun _ _=>false) (fun _ _ _ _=>false) (fun _ _ _ _=>false) (fun _ _ _ _=>false) true o
def UM(v:BV)(n:Nat):Bool:=@BV.rec (fun _=>Bool) (fun c=>Nat.beq c n) (fun _ _=>false) (fun _=>false) false v
def Z4:List Nat->Nat:=@List.rec Nat (fun _=>Nat) 0 (fun n _ a=>Nat.add n (Nat.mul cB a))
def uP:List Nat->List Nat:=@List.rec Nat (fun _=>List Nat) [] (fun n _ a=>G5 n::a)
def Lc:List Nat->Nat:=@List.rec Nat (fun _=>Nat) 0 (fun n _ a=>Nat.add n a)
def YQ:List Nat->Nat:=@List.rec Nat (fun _=>Nat) 1 (fun b _ a=>Nat.add b (Nat.mul 2 a))
def pS:List Bool->List Nat:=@List.rec Bool (fun _=>List Nat) [] (fun b _ a=>iB b 0 1::a)
def b2a:List Nat->List Nat:=@List.rec Nat (fun _=>List Nat) [] (fun b _ a=>0::b::a)
def a78:List Nat->List Nat:=@List.rec Nat (fun _=>List Nat) [] (fun _ _ a=>1::1::a)
def b2b:List Nat->List Nat:=@List.rec Nat (fun _=>List Nat) [] (fun _ _ a=>0::1::a)
def GM(a p b:List Nat):Nat:=Nat.mod (Nat.mul 1000003 (Nat.mul 7919 (Nat.add (YQ a) (Nat.mul 32 (Nat.add (YQ p) (Nat.mul 32 (YQ b))))))) 4294967291
def UN(l:List Nat)(n:Nat):List (Nat×List Nat):=[(3,uP [0,n,0,n]),(4,[pJ (Nat.mul 10 n) 0 n 2 0,pJ (Nat.add (Nat.mul 10 n) 2) 0 n 2 0]),(5,[pJ 3 0 2 2 1,pJ (Nat.sub (Nat.mul 10 n) 2) 0 n 2 0,pJ 4 0 2 1 1]),
 (Nat.sub (Nat.mul 10 n) 2,uP (a78 l)),(Nat.mul 10 n,uP (b2a l)),(Nat.add (Nat.mul 10 n) 2,uP (b2b l))]
def isObj(o:HO)(l:List Nat):Bool:=@HO.rec (fun _=>Bool) (fun s n=>iB (Nat.beq s (B8 l)) (Nat.beq (Nat.div n cB) (Z4 l)) false) (fun _ _ _ _=>false) (fun _ _ _ _=>false) (fun _ _ _ _=>false) false o
def YR(nx:Nat)(D:m8):List (Nat×List Nat)->Bool:=@List.rec (Nat×List Nat) (fun _=>Bool) true (fun p _ a=>iB (isObj (m6 nx D p.1) p.2) a false)
def UO(nx:Nat):List (Nat×List Nat)->m8->(m8->Rn)->Rn:=@List.rec (Nat×List Nat) (fun _=>m8->(m8->Rn)->Rn) (fun D k=>k D) (fun p _ a D k=>fN (bH (Z4 p.2)) fun n=>fN (B8 p.2) fun s=>fN p.1 fun r=>aK nx D r (.c s n) fun D=>a D k)
def zs(n:Nat):List HO:=@Nat.rec (fun _=>List HO) [] (fun _ a=>.z::a) n
def a42:KC:=fun e E A _ _ _=>pM e (.er 910 0) (fun _=>.er 911 0) (iB (UM (o8 E A 4) 17) (.ok (.c 1) []) (.er 912 0))
def a79(R:z0)(Fu:Nat)(b:List Bool)(a:Nat):Rn:=
 news (zs (Nat.add 7 (Nat.mul 10 (B8 b)))) 0 .e fun nx D=>UO nx (UN (pS b) (B8 b)) D fun D=>
 fN (GM (pS b) [] [a]) fun d=>G3 5 (.c (G5 (B8 b))) d [] fun E A=>G3 9 (.c (bO 5 0)) E A fun E A=>G3 11 (.c (G5 a)) E A fun E A=>
 xV GL Tryz.prog Fu R (Td Fu Tryz.prog R) none E A nx D 0 a42
def okR(r:Rn):Bool:=@Rn.rec (fun _=>Bool) (fun _ _=>false) (fun v l=>iB (UM v 1) (@List.rec HO (fun _=>Bool) true (fun _ _ _=>false) l) false) r
def W4:KE:=.mk 5 [] [] (.c 17) []
def RR:z0:=IB [W4] (Yv WW SX 196 100000 Tryz.prog 60)
def TL(x:List Bool×Nat):Bool:=okR (a79 RR 100000 x.1 x.2)
end
def a1I:Nat->List (List Bool)
 |0=>[[]]
 |n+1=>(a1I n).flatMap fun l=>[true::l,false::l]
def UP(l:List Bool):Nat:=(l.filter (!·)).length
def dH(n:Nat):List (List Bool×Nat):=(a1I n).flatMap fun l=>(List.range (UP l+1)).map fun k=>(l,k)
end Go.Abs.T2
end
section
open Go Go.Abs Go.Proofs
namespace Go.Abs.T2
noncomputable section
def YS(q:Nat)(b:pX):Nat->Code->Program->Nat->z0->kF->Nat->z7->Nat->m8->Nat->KS->Rn:=@Nat.rec (fun _=>Code->Program->Nat->z0->kF->Nat->z7->Nat->m8->Nat->KS->Rn) (fun _ _ _ _ _ E A nx D p k=>k E A nx D p)
 (fun _ d c P Fu R I E A nx D p k=>@Option.rec (Code×Code) (fun _=>Rn) (.er 920 0) (fun a=>Qd q b a.1 P Fu R I none E A nx D p fun e E A nx D p=>pM e (d a.2 P Fu R I E A nx D p k) (fun _=>.er 921 0) (.er 922 0)) (match c with|.seq x y=>some (x,y)|_=>none))
def YT:List Bool->Nat->Bool:=@List.rec Bool (fun _=>Nat->Bool) (fun _=>false) (fun b _ a i=>@Nat.rec (fun _=>Bool) b (fun j _=>a j) i)
def isU(v:BV):Bool:=@BV.rec (fun _=>Bool) (fun _=>false) (fun _ _=>false) (fun _=>false) true v
def SA(E:Nat)(A:z7):List Nat->Bool:=@List.rec Nat (fun _=>Bool) true (fun t _ a=>iB (isU (o8 E A t)) a false)
def Ld:List Nat:=[76,77,78,79,80,81,82,83,84,85,86]
def a43(v:BV)(k:Nat->Rn):Rn:=@BV.rec (fun _=>Rn) (fun c=>fN (Nat.sub (n8 c) cZ) fun i=>iB (Nat.beq c (G5 i)) (k i) (.er 901 0)) (fun _ _=>.er 900 0) (fun _=>.er 900 1) (.er 900 2) v
def a1J(a:List Bool):pX:=fun _ _ _ _ _ E A nx D p k=>a43 (o8 E A 12) fun i=>iB (Nat.ble (Nat.succ i) (B8 a)) (iB (SA E A Ld) (iB (UM (o8 E A 2) (bO 0 0)) (iB (isZ (m6 nx D 0)) (G3 87 (.c (I3 (YT a i))) E A fun E A=>k .normal E A nx D p) (.er 906 0)) (.er 905 0)) (.er 903 0)) (.er 904 0)
def YU(b:List Bool)(a:Nat):KS:=fun E A nx D _=>iB (iB (Nat.beq nx (Nat.add 7 (Nat.mul 10 (B8 b)))) (iB (UM (o8 E A 5) (G5 (B8 b))) (iB (UM (o8 E A 9) (bO 5 0)) (iB (UM (o8 E A 11) (G5 a)) (YR nx D (UN (pS b) (B8 b))) false) false) false) false) (.ok (.c 1) []) (.er 930 0)
def a8a(R:z0)(Fu:Nat)(b:List Bool)(p a:List Nat):Rn:=
 news [.z,.c (B8 a) (bH (Z4 (uP a))),.c (B8 p) (bH (Z4 (uP p)))] 0 .e fun nx D=>
 fN (GM (pS b) p a) fun d=>G3 2 (.c (bO 0 0)) d [] fun E A=>G3 5 (.c (G5 (B8 b))) E A fun E A=>G3 6 (.c (pJ 1 0 (B8 b) 1 0)) E A fun E A=>G3 8 (.c (pJ 2 0 (B8 b) 1 0)) E A fun E A=>
 YS 19 (a1J b) 5 Ap Tryz.prog Fu R (Td Fu Tryz.prog R) E A nx D 0 (YU b (Lc a))
def Le:Nat->(List Bool->List Nat->List Nat->Bool)->Bool:=@Nat.rec (fun _=>(List Bool->List Nat->List Nat->Bool)->Bool) (fun f=>f [] [] []) (fun _ c f=>c fun a p b=>
 iB (f (true::a) (0::p) (0::b)) (iB (f (false::a) (0::p) (0::b)) (iB (f (false::a) (0::p) (1::b)) (iB (f (false::a) (1::p) (0::b)) (f (false::a) (1::p) (1::b)) false) false) false) false)
def LL(a:List Bool)(p b:List Nat):Bool:=okR (a8a RR 100000 a p b)
end
end Go.Abs.T2
end
section
open Go.Proofs
set_option maxRecDepth 100000
set_option linter.unusedVariables false
namespace Go.Abs.T2
def a8c(n lo a:Int)(k:a7->List c7->Prop):Prop:=
  br ((decide (n>=lo))==true)
 (k (rB (decide (n<=a))) [])
 (k (rB false) [])
theorem b2e(n lo a:Int)(k:a7->List c7->Prop):awpF (u0 []) Tryz.prog kt 14 false Tryz.f14 (UQ.args (n,lo,a,())) (UQ.N4 (n,lo,a,())) k=a8c n lo a k:=by kernel_rfl
theorem b2f:(Tryz.f14.body.map Code.j5).getD true=true:=by kernel_rfl
def vc4(h li ga fa:Int)(i:List Hr)(k:a7->List c7->Prop):Prop:=
  br ((decide ((i.length:Int)<(1:Int)))==false)
 (br (decide ((i.length:Int)>(12:Int)))
 (k (rI 6) [])
 ((UQ.p (li,(0:Int),(40:Int),()))/\
 br ((Bool.not (pV li (0:Int) (40:Int)))==false)
 ((UQ.p (h,(0:Int),li,()))/\
 br ((Bool.not (pV h (0:Int) li))==false)
 ((UQ.p (ga,(1:Int),(40:Int),()))/\
 br ((Bool.not (pV ga (1:Int) (40:Int)))==false)
 ((UQ.p (fa,(1:Int),(40:Int),()))/\
 br (Bool.not (pV fa (1:Int) (40:Int)))
 (k (rI 3) [])
 (LP ((0:Int),h,li,ga,fa,i,()) (fun j (a,b,c,d,e,f,())=>
 br (decide (a<(f.length:Int)))
 (∃g:0<=a/\a.toNat<f.length,
 (UQ.p ((f[a.toNat]'g.2).1.1,(0:Int),(f[a.toNat]'g.2).1.2,()))/\
 br ((Bool.not (pV (f[a.toNat]'g.2).1.1 (0:Int) (f[a.toNat]'g.2).1.2))==false)
 ((UQ.p ((f[a.toNat]'g.2).1.2,(0:Int),(40:Int),()))/\
 br ((Bool.not (pV (f[a.toNat]'g.2).1.2 (0:Int) (40:Int)))==false)
 ((UQ.p ((f[a.toNat]'g.2).2,(1:Int),(100:Int),()))/\
 br (Bool.not (pV (f[a.toNat]'g.2).2 (1:Int) (100:Int)))
 (k (rI 3) [])
 ((fI (a+1))/\
 (j ((a+1),b,c,d,e,f,()))))
 (k (rI 3) []))
 (k (rI 3) []))
 (k (rI 0) []))))
 (k (rI 3) []))
 (k (rI 3) []))
 (k (rI 3) [])))
 (k (rI 6) [])
theorem eq4(a li ga fa:Int)(b:List Hr)(k:a7->List c7->Prop):awpF (u0 [(14,X8 [UQ])]) Tryz.prog kt 4 false Tryz.f4 (v4.args (a,li,ga,fa,b,())) (v4.N4 (a,li,ga,fa,b,())) k=vc4 a li ga fa b k:=by kernel_rfl
theorem tx4:(Tryz.f4.body.map Code.j5).getD true=true:=by kernel_rfl
def a8d(b li ga fa:Int)(c:List Hr)(heat a g:Int)(k:a7->List c7->Prop):Prop:=
  br (g==(1:Int))
 ((fI ((ite (a>heat) a heat)+ga))/\
 (k (rI ((ite (a>heat) a heat)+ga)) []))
 ((fI (heat- fa))/\
 (k (rI (ite ((heat- fa)>a) (heat- fa) a)) []))
theorem b2g(b li ga fa:Int)(c:List Hr)(heat a g:Int)(k:a7->List c7->Prop):awpF (u0 []) Tryz.prog kt 10 false Tryz.f10 (v10.args (b,li,ga,fa,c,heat,a,g,())) (v10.N4 (b,li,ga,fa,c,heat,a,g,())) k=a8d b li ga fa c heat a g k:=by kernel_rfl
theorem b2h:(Tryz.f10.body.map Code.j5).getD true=true:=by kernel_rfl
def vc7(l li ga fa:Int)(n:List Hr)(bits:Int)(k:a7->List c7->Prop):Prop:=
  LP (bits,l,(0:Int),l,li,ga,fa,n,([]:List Int),()) (fun m (a,b,c,d,e,f,g,i,j,())=>
 br (decide (c<(i.length:Int)))
 (∃h:0<=c/\c.toNat<i.length,
 ((0:Int)<=c)/\
 (fI (aZ Go.BinOp.and Go.IntKind.u16 (AA Go.IntKind.u16 a c) (1:Int)))/\
 (v10.p (d,e,f,g,i,b,(i[c.toNat]'h.2).1.2,(1:Int),()))/\
 br (decide ((l7 f g b (i[c.toNat]'h.2).1.2 (1:Int))>e))
 (((j.length+(List.length [(0:Int)]))<=At)/\
 (v10.p (d,e,f,g,i,b,(i[c.toNat]'h.2).1.2,(0:Int),()))/\
 (fI (c+1))/\
 (m (a,(l7 f g b (i[c.toNat]'h.2).1.2 (0:Int)),(c+1),d,e,f,g,i,(j++ [(0:Int)]),())))
 (((j.length+(List.length [aZ Go.BinOp.and Go.IntKind.u16 (AA Go.IntKind.u16 a c) (1:Int)]))<=At)/\
 (v10.p (d,e,f,g,i,b,(i[c.toNat]'h.2).1.2,(aZ Go.BinOp.and Go.IntKind.u16 (AA Go.IntKind.u16 a c) (1:Int)),()))/\
 (fI (c+1))/\
 (m (a,(l7 f g b (i[c.toNat]'h.2).1.2 (aZ Go.BinOp.and Go.IntKind.u16 (AA Go.IntKind.u16 a c) (1:Int))),(c+1),d,e,f,g,i,(j++ [aZ Go.BinOp.and Go.IntKind.u16 (AA Go.IntKind.u16 a c) (1:Int)]),()))))
 (k (.O1 0 false) [.sl tI j]))
theorem eq7(a li ga fa:Int)(b:List Hr)(bits:Int)(k:a7->List c7->Prop):awpF (u0 [(10,X8 [v10])]) Tryz.prog kt 7 false Tryz.f7 (v7.args (a,li,ga,fa,b,bits,())) (v7.N4 (a,li,ga,fa,b,bits,())) k=vc7 a li ga fa b bits k:=by kernel_rfl
theorem tx7:(Tryz.f7.body.map Code.j5).getD true=true:=by kernel_rfl
def vc9(d li ga fa:Int)(c:List Hr)(f:List Int)(k:a7->List c7->Prop):Prop:=
  (v4.p (d,li,ga,fa,c,()))/\
 br ((G6 d li ga fa c) !=0)
 ((v4.p (d,li,ga,fa,c,()))/\
 (k (rI (G6 d li ga fa c)) []))
 (br ((f.length:Int) !=(c.length:Int))
 (k (rI 15) [])
 (LP (f,(0:Int),()) (fun g (a,b,())=>
 br (decide (b<(a.length:Int)))
 (∃h:0<=b/\b.toNat<a.length,
 br (((a[b.toNat]'h.2) !=0)==true)
 (∃e:0<=b/\b.toNat<a.length,
 br ((a[b.toNat]'e.2) !=(1:Int))
 (k (rI 3) [])
 ((fI (b+1))/\
 (g (a,(b+1),()))))
 ((fI (b+1))/\
 (g (a,(b+1),()))))
 (k (rI 0) []))))
theorem eq9(a li ga fa:Int)(b:List Hr)(c:List Int)(k:a7->List c7->Prop):awpF (u0 [(4,X8 [v4])]) Tryz.prog kt 9 false Tryz.f9 (v9.args (a,li,ga,fa,b,c,())) (v9.N4 (a,li,ga,fa,b,c,())) k=vc9 a li ga fa b c k:=by kernel_rfl
theorem tx9:(Tryz.f9.body.map Code.j5).getD true=true:=by kernel_rfl
def a3b(n lo a:Int)(k:a7->List c7->Prop):Prop:=
  br ((decide (n<lo))==false)
 (k (rB (decide (n>a))) [])
 (k (rB true) [])
theorem a8e(n lo a:Int)(k:a7->List c7->Prop):awpF (u0 []) Tryz.prog kt 195 false Tryz.f195 (QE.args (n,lo,a,())) (QE.N4 (n,lo,a,())) k=a3b n lo a k:=by kernel_rfl
theorem a8f:(Tryz.f195.body.map Code.j5).getD true=true:=by kernel_rfl
def a3c(l:List Int)(lo g:Int)(k:a7->List c7->Prop):Prop:=
  LP (l,lo,g,(l.length:Int),(0:Int),()) (fun K4 (a,b,c,d,e,())=>
 br (decide (e<d))
 (∃f:0<=e/\e.toNat<a.length,
 (QE.p ((a[e.toNat]'f.2),b,c,()))/\
 br (bZ b c (a[e.toNat]'f.2))
 (k (rI e) [])
 ((fI (e+1))/\
 (K4 (a,b,c,d,(e+1),()))))
 (k (rI (-(1:Int):Int)) []))
theorem a8g(l:List Int)(lo a:Int)(k:a7->List c7->Prop):awpF (u0 [(195,X8 [QE])]) Tryz.prog kt 138 false Tryz.f138 (QF.args (l,lo,a,())) (QF.N4 (l,lo,a,())) k=a3c l lo a k:=by kernel_rfl
theorem a8h:(Tryz.f138.body.map Code.j5).getD true=true:=by kernel_rfl
def a8i(l:List Int)(lo a:Int)(k:a7->List c7->Prop):Prop:=
  (QF.p (l,lo,a,()))/\
 (k (rB (decide ((indexOf (bZ lo a) l)>=(0:Int)))) [])
theorem b2i(l:List Int)(lo a:Int)(k:a7->List c7->Prop):awpF (u0 [(138,X8 [QF])]) Tryz.prog kt 63 false Tryz.f63 (v63.args (l,lo,a,())) (v63.N4 (l,lo,a,())) k=a8i l lo a k:=by kernel_rfl
theorem b2j:(Tryz.f63.body.map Code.j5).getD true=true:=by kernel_rfl
def a3d(lo a:Int)(l:List Int)(k:a7->List c7->Prop):Prop:=
  (v63.p (l,lo,a,()))/\
 (k (rB (Bool.not (I8 lo a l))) [])
theorem a8j(lo a:Int)(l:List Int)(k:a7->List c7->Prop):awpF (u0 [(63,X8 [v63])]) Tryz.prog kt 132 false Tryz.f132 (uR.args (lo,a,l,())) (uR.N4 (lo,a,l,())) k=a3d lo a l k:=by kernel_rfl
theorem a8k:(Tryz.f132.body.map Code.j5).getD true=true:=by kernel_rfl
def a3e(a b c:Int)(k:a7->List c7->Prop):Prop:=
  (uR.p ((0:Int),(40:Int),[a,b],()))/\
 br ((Bool.not (Bool.not (I8 (0:Int) (40:Int) [a,b])))==false)
 (br ((decide (a>b))==false)
 ((uR.p ((1:Int),(100:Int),[c],()))/\
 (k (rB (Bool.not (Bool.not (I8 (1:Int) (100:Int) [c])))) []))
 (k (rB true) []))
 (k (rB true) [])
theorem a8l(a b c:Int)(k:a7->List c7->Prop):awpF (u0 [(132,X8 [uR])]) Tryz.prog kt 192 false Tryz.f192 (QG.args (a,b,c,())) (QG.N4 (a,b,c,())) k=a3e a b c k:=by kernel_rfl
theorem a8m:(Tryz.f192.body.map Code.j5).getD true=true:=by kernel_rfl
def a3f(e:List Hr)(k:a7->List c7->Prop):Prop:=
  LP (e,(e.length:Int),(0:Int),()) (fun K2 (a,b,c,())=>
 br (decide (c<b))
 (∃d:0<=c/\c.toNat<a.length,
 (QG.p ((a[c.toNat]'d.2).1.1,(a[c.toNat]'d.2).1.2,(a[c.toNat]'d.2).2,()))/\
 br (U9 (((a[c.toNat]'d.2).1.1,(a[c.toNat]'d.2).1.2),(a[c.toNat]'d.2).2))
 (k (rI c) [])
 ((fI (c+1))/\
 (K2 (a,b,(c+1),()))))
 (k (rI (-(1:Int):Int)) []))
theorem a8n(a:List Hr)(k:a7->List c7->Prop):awpF (u0 [(192,X8 [QG])]) Tryz.prog kt 216 false Tryz.f216 (QH.args (a,())) (QH.N4 (a,())) k=a3f a k:=by kernel_rfl
theorem a8o:(Tryz.f216.body.map Code.j5).getD true=true:=by kernel_rfl
def a3g(a:List Hr)(k:a7->List c7->Prop):Prop:=
  (QH.p (a,()))/\
 (k (rB (decide ((indexOf U9 a)>=(0:Int)))) [])
theorem a8p(a:List Hr)(k:a7->List c7->Prop):awpF (u0 [(216,X8 [QH])]) Tryz.prog kt 193 false Tryz.f193 (QI.args (a,())) (QI.N4 (a,())) k=a3g a k:=by kernel_rfl
theorem a8q:(Tryz.f193.body.map Code.j5).getD true=true:=by kernel_rfl
def a3h(b li ga fa:Int)(a:List Hr)(k:a7->List c7->Prop):Prop:=
  (uR.p ((1:Int),(12:Int),[(a.length:Int)],()))/\
 br (Bool.not (Bool.not (I8 (1:Int) (12:Int) [(a.length:Int)])))
 (k (rI 6) [])
 ((uR.p ((0:Int),(40:Int),[b,li],()))/\
 br ((Bool.not (Bool.not (I8 (0:Int) (40:Int) [b,li])))==false)
 (br ((decide (b>li))==false)
 ((uR.p ((1:Int),(40:Int),[ga,fa],()))/\
 br ((Bool.not (Bool.not (I8 (1:Int) (40:Int) [ga,fa])))==false)
 ((QI.p (a,()))/\
 br (List.any a U9)
 (k (rI 3) [])
 (k (rI 0) []))
 (k (rI 3) []))
 (k (rI 3) []))
 (k (rI 3) []))
theorem a8r(a li ga fa:Int)(b:List Hr)(k:a7->List c7->Prop):awpF (u0 [(132,X8 [uR]),(193,X8 [QI])]) Tryz.prog kt 129 false Tryz.f129 (QJ.args (a,li,ga,fa,b,())) (QJ.N4 (a,li,ga,fa,b,())) k=a3h a li ga fa b k:=by kernel_rfl
theorem a8s:(Tryz.f129.body.map Code.j5).getD true=true:=by kernel_rfl
def a3i(n:Int)(k:a7->List c7->Prop):Prop:=
  br ((decide (n<(0:Int)))==false)
 (k (rB (decide (n>(1:Int)))) [])
 (k (rB true) [])
theorem a8t(n:Int)(k:a7->List c7->Prop):awpF (u0 []) Tryz.prog kt 131 false Tryz.f131 (QK.args (n,())) (QK.N4 (n,())) k=a3i n k:=by kernel_rfl
theorem a8u:(Tryz.f131.body.map Code.j5).getD true=true:=by kernel_rfl
def a3j(l:List Int)(k:a7->List c7->Prop):Prop:=
  LP (l,(l.length:Int),(0:Int),()) (fun K2 (a,b,c,())=>
 br (decide (c<b))
 (∃d:0<=c/\c.toNat<a.length,
 (QK.p ((a[c.toNat]'d.2),()))/\
 br (B7 (a[c.toNat]'d.2))
 (k (rI c) [])
 ((fI (c+1))/\
 (K2 (a,b,(c+1),()))))
 (k (rI (-(1:Int):Int)) []))
theorem a8v(l:List Int)(k:a7->List c7->Prop):awpF (u0 [(131,X8 [QK])]) Tryz.prog kt 194 false Tryz.f194 (QL.args (l,())) (QL.N4 (l,())) k=a3j l k:=by kernel_rfl
theorem a8w:(Tryz.f194.body.map Code.j5).getD true=true:=by kernel_rfl
def a3k(l:List Int)(k:a7->List c7->Prop):Prop:=
  (QL.p (l,()))/\
 (k (rB (decide ((indexOf B7 l)>=(0:Int)))) [])
theorem a8x(l:List Int)(k:a7->List c7->Prop):awpF (u0 [(194,X8 [QL])]) Tryz.prog kt 130 false Tryz.f130 (QM.args (l,())) (QM.N4 (l,())) k=a3k l k:=by kernel_rfl
theorem a8y:(Tryz.f130.body.map Code.j5).getD true=true:=by kernel_rfl
def a8z(c li ga fa:Int)(d:List Hr)(b:Int)(heat a g:Int)(k:a7->List c7->Prop):Prop:=
  br (g==(1:Int))
 ((fI ((ite (a>heat) a heat)+ga))/\
 (k (rI ((ite (a>heat) a heat)+ga)) []))
 ((fI (heat- fa))/\
 (k (rI (ite ((heat- fa)>a) (heat- fa) a)) []))
theorem b2k(c li ga fa:Int)(d:List Hr)(a:Int)(heat b g:Int)(k:a7->List c7->Prop):awpF (u0 []) Tryz.prog kt 55 false Tryz.f55 (QN.args (c,li,ga,fa,d,a,heat,b,g,())) (QN.N4 (c,li,ga,fa,d,a,heat,b,g,())) k=a8z c li ga fa d a heat b g k:=by kernel_rfl
theorem b2l:(Tryz.f55.body.map Code.j5).getD true=true:=by kernel_rfl
end Go.Abs.T2
end
section
open Go.Proofs
set_option maxRecDepth 100000
set_option linter.unusedVariables false
namespace Go.Abs.T2
theorem m4:Tryz.prog.follows .mixedOrders=true:=by kernel_rfl
theorem iC{α:Type}(p:α->Bool):∀ (l:List α),(∀x∈l,p x=false)->indexOf p l= -1
 |[],_=>rfl
 |x::l,h=>by
  unfold indexOf;rw[h x (by simp),iC p l (fun y a=>h y (al _ a))]
  simp
theorem iD{α:Type}(p:α->Bool):∀ (l:List α) (i:Nat) (a:i<l.length),(∀x∈l.take i,p x=false)->p l[i]=true->indexOf p l=(i:Int)
 |x::l,0,_,_,h=>by
  unfold indexOf;simp only[js]at h;rw[h];rfl
 |x::l,i+1,a,b,c=>by
  unfold indexOf;rw[b x (by simp),iD p l i (by simpa using a) (fun y d=>b y (by simp[d])) (by simpa using c)]
  simp only[dq,dw];rw[ai (by omega)]
  omega
theorem xD{α:Type}(p:α->Bool)(l:List α):decide (indexOf p l>=0)=l.any p:=by
 induction l with
 |nil=>simp[indexOf]
 |cons x l a=>
  unfold indexOf;rw[jv];cases d:p x with
  |true=>simp
  |false=>
   simp only[dq,dw,qk];rw[<-a];by_cases h:indexOf p l<0
   .rw[aj h];have:¬indexOf p l>=0:=by omega
    simp[this]
   .rw[ai h];have b:indexOf p l>=0:=by omega
    have c:indexOf p l+1>=0:=by omega
    simp[b,c]
theorem Y3{α:Type}(p:α->Bool)(l:List α)(i:Nat)(b:i<l.length)(h:∀x∈l.take i,p x=false)(c:p l[i]=false):∀x∈l.take (i+1),p x=false:=by
 intro x a;rw[fp b,cj]at a;rcases a with a|a
 .exact h x a
 .simp only[cb]at a;subst a;exact c
theorem mx(a b:Int):(if b>a then b else a)=max a b:=by rw[fh];split<;>split<;>omega
theorem SC{n lo hi:Int}:pV n lo hi=true↔lo<=n/\n<=hi:=by simp[pV]
theorem k14(d:Good Tryz.prog (u0 [])):UQ.Kept Tryz.prog 14:=by
 rintro⟨n,lo,a,⟨⟩⟩ c k b;change Int at n lo a;refine W0 m4 d Tryz.func14 b2f (Eq.mpr (b2e n lo a k) ?_);replace b:k (rB (pV n lo a)) []:=b;unfold a8c;rw[SB];refine⟨fun h=>?_,fun h=>?_⟩
 .have:pV n lo a=decide (n<=a):=by simp only[pV,pg];simp at h;omega
  rwa [this]at b
 .have:pV n lo a=false:=by simp only[pV,gi];simp at h;omega
  rwa [this]at b
theorem k4(C:Good Tryz.prog (u0 [(14,X8 [UQ])])):v4.Kept Tryz.prog 4:=by
 rintro⟨c,li,ga,fa,a,⟨⟩⟩ A k b;change Int at c li ga fa;change List Hr at a;refine W0 m4 C Tryz.func4 tx4 (Eq.mpr (eq4 c li ga fa a k) ?_);replace b:k (rI (G6 c li ga fa a)) []:=b;unfold vc4;have d:a.length<1\/12<a.length->G6 c li ga fa a=6:=fun h=>by unfold G6;rw[aj h]
 have q:¬(a.length<1\/12<a.length)->(pV li 0 40=false\/pV c 0 li=false\/pV ga 1 40=false\/pV fa 1 40=false)->G6 c li ga fa a=3:=fun e r=>by unfold G6;rw[ai e,aj r]
 rw[sN];refine⟨fun e=>?_,fun e=>?_⟩
 rotate_left
 .rw[d (.inl (by simp at e;omega))]at b;exact b
 rw[m5];refine⟨fun r=>?_,fun r=>?_⟩
 .rw[d (.inr (by omega))]at b;exact b
 have f:¬(a.length<1\/12<a.length):=by simp at e;omega
 refine⟨trivial,?_⟩;rw[sN];refine⟨fun g=>⟨trivial,?_⟩,fun g=>?_⟩
 rotate_left
 .rw[q f (.inl (by simpa using g))]at b;exact b
 rw[sN];refine⟨fun l=>⟨trivial,?_⟩,fun l=>?_⟩
 rotate_left
 .rw[q f (.inr (.inl (by simpa using l)))]at b;exact b
 rw[sN];refine⟨fun m=>⟨trivial,?_⟩,fun m=>?_⟩
 rotate_left
 .rw[q f (.inr (.inr (.inl (by simpa using m))))]at b;exact b
 refine P9 (fun n=>?_) (fun n=>?_)
 .rw[q f (.inr (.inr (.inr (by simpa using n))))]at b;exact b
 have g:pV li 0 40=true:=by simpa using g
 have l:pV c 0 li=true:=by simpa using l
 have m:pV ga 1 40=true:=by simpa using m
 have n:pV fa 1 40=true:=by simpa using n
 have rest:G6 c li ga fa a=if a.any eE then 3 else 0:=by
  unfold G6;rw[ai f,ai (by rw[g,l,m,n];simp)]
 have s:∀h∈a,eE h=true->G6 c li ga fa a=3:=fun h t u=>by
  rw[rest,aj (ij.2 ⟨h,t,u⟩)]
 refine Loop.upto (fun i=>((i:Int),c,li,ga,fa,a,())) (fun i=>∀y∈a.take i,eE y=false) a.length rfl (by simp) ?_ ?_
 .intro j D v o p;dsimp only;rw[m5];refine⟨fun _=>?_,fun h=>absurd v (by omega)⟩
  try simp only[cu]
  have t:=cf v;have w:eE a[j]=true->k (rI 3) []:=fun u=>by rw[s _ t u]at b;exact b
  refine⟨⟨by omega,by omega⟩,trivial,?_⟩
  rw[sN];refine⟨fun x=>⟨trivial,?_⟩,fun x=>w (by unfold eE;rw[x];rfl)⟩
  rw[sN];refine⟨fun g2=>⟨trivial,?_⟩,fun g2=>w (by unfold eE;rw[g2];simp)⟩
  refine P9 (fun z=>w (by unfold eE;rw[z];simp)) (fun z=>⟨B5 (by omega) (by omega),p (Y3 _ _ _ v o ?_)⟩)
  unfold eE;rw[x,g2,z];rfl
 .intro K B;dsimp only;rw[m5];refine⟨fun h=>absurd h (by omega),fun _=>?_⟩
  rw[la]at B;have:a.any eE=false:=by
   rw[ib];intro y E;rw[B y E];decide
  rw[rest,this]at b;exact b
theorem k10(m:Good Tryz.prog (u0 [])):v10.Kept Tryz.prog 10:=by
 rintro⟨d,li,ga,fa,e,heat,a,g,⟨⟩⟩ b k c;change Int at d li ga fa;change List Hr at e;change Int at heat a g;refine W0 m4 m Tryz.func10 b2h (Eq.mpr (b2g d li ga fa e heat a g k) ?_);replace c:k (rI (l7 ga fa heat a g)) []:=c;unfold a8d;obtain⟨f,i,j,l⟩:=b;have f:0<=ga/\ga<=1000:=f;have i:0<=fa/\fa<=1000:=i;have j: -1000<=heat/\heat<=1000:=j;have l: -1000<=a/\a<=1000:=l;rw[mx,mx];refine P9 (fun h=>⟨B5 (by omega) (by omega),?_⟩) (fun h=>⟨B5 (by omega) (by omega),?_⟩)
 .have:l7 ga fa heat a g=max heat a+ga:=by unfold l7;rw[aj (by simpa using h)]
  rwa [this]at c
 .have:l7 ga fa heat a g=max a (heat- fa):=by unfold l7;rw[ai (by simpa using h)]
  rwa [this]at c
theorem k55(n:Good Tryz.prog (u0 [])):QN.Kept Tryz.prog 55:=by
 rintro⟨e,li,ga,fa,f,b,heat,a,g,⟨⟩⟩ c k d;change Int at e li ga fa;change List Hr at f;change Int at b;change Int at heat a g;refine W0 m4 n Tryz.func55 b2l (Eq.mpr (b2k e li ga fa f b heat a g k) ?_);replace d:k (rI (l7 ga fa heat a g)) []:=d;unfold a8z;obtain⟨i,j,l,m⟩:=c;have i:0<=ga/\ga<=1000:=i;have j:0<=fa/\fa<=1000:=j;have l: -1000<=heat/\heat<=1000:=l;have m: -1000<=a/\a<=1000:=m;rw[mx,mx];refine P9 (fun h=>⟨B5 (by omega) (by omega),?_⟩) (fun h=>⟨B5 (by omega) (by omega),?_⟩)
 .have:l7 ga fa heat a g=max heat a+ga:=by unfold l7;rw[aj (by simpa using h)]
  rwa [this]at d
 .have:l7 ga fa heat a g=max a (heat- fa):=by unfold l7;rw[ai (by simpa using h)]
  rwa [this]at d
theorem b2m(d:Good Tryz.prog (u0 [])):QE.Kept Tryz.prog 195:=by
 rintro⟨n,lo,a,⟨⟩⟩ c k b;change Int at n lo a;refine W0 m4 d Tryz.func195 a8f (Eq.mpr (a8e n lo a k) ?_);replace b:k (rB (bZ lo a n)) []:=b;unfold a3b;rw[GO];refine⟨fun h=>?_,fun h=>?_⟩
 .have:bZ lo a n=decide (n>a):=by simp only[bZ,pg];omega
  rwa [this]at b
 .have:bZ lo a n=true:=by simp[bZ,h]
  rwa [this]at b
theorem b2n(m:Good Tryz.prog (u0 [(195,X8 [QE])])):QF.Kept Tryz.prog 138:=by
 rintro⟨l,lo,b,⟨⟩⟩ c k e;change List Int at l;change Int at lo b;refine W0 m4 m Tryz.func138 a8h (Eq.mpr (a8g l lo b k) ?_);replace e:k (rI (indexOf (bZ lo b) l)) []:=e;unfold a3c;have n:l.length<=1152921504606846976:=c;refine Loop.upto (fun i=>(l,lo,b,((l.length:Nat):Int),(i:Int),())) (fun i=>∀y∈l.take i,bZ lo b y=false) l.length rfl (by simp) ?_ ?_
 .intro j o f a d;dsimp only;rw[m5];refine⟨fun _=>?_,fun h=>absurd f (by omega)⟩
  try simp only[cu]
  refine⟨⟨by omega,by omega⟩,trivial,?_⟩
  refine P9 (fun h=>?_) (fun h=>⟨B5 (by omega) (by omega),d (Y3 _ _ _ f a h)⟩)
  have:indexOf (bZ lo b) l=(j:Int):=iD _ l j f a h;rwa [this]at e
 .intro K g;dsimp only;rw[m5];refine⟨fun h=>absurd h (by omega),fun _=>?_⟩
  rw[la]at g;have:indexOf (bZ lo b) l= -1:=iC _ l g;rwa [this]at e
theorem k63(d:Good Tryz.prog (u0 [(138,X8 [QF])])):v63.Kept Tryz.prog 63:=by
 rintro⟨l,lo,a,⟨⟩⟩ b k c;change List Int at l;change Int at lo a;refine W0 m4 d Tryz.func63 b2j (Eq.mpr (b2i l lo a k) ?_);replace c:k (rB (I8 lo a l)) []:=c;unfold a8i;refine⟨b,?_⟩;have:decide (indexOf (bZ lo a) l>=0)=I8 lo a l:=xD _ l;rwa [this]
theorem b2o(d:Good Tryz.prog (u0 [(63,X8 [v63])])):uR.Kept Tryz.prog 132:=by
 rintro⟨lo,b,l,⟨⟩⟩ a k c;change Int at lo b;change List Int at l;refine W0 m4 d Tryz.func132 a8k (Eq.mpr (a8j lo b l k) ?_);replace c:k (rB (Bool.not (I8 lo b l))) []:=c;unfold a3d;exact⟨a,c⟩
theorem b2p(i:Good Tryz.prog (u0 [(132,X8 [uR])])):QG.Kept Tryz.prog 192:=by
 rintro⟨a,b,c,⟨⟩⟩ g k d;change Int at a b c;refine W0 m4 i Tryz.func192 a8m (Eq.mpr (a8l a b c k) ?_);replace d:k (rB (U9 ((a,b),c))) []:=d;unfold a3e;refine⟨by show(2:Nat)<=CX;decide,?_⟩
 rw[rf,sN];have e:U9 ((a,b),c)=(I8 0 40 [a,b]||decide (a>b)||I8 1 100 [c]):=rfl;rw[e]at d;refine⟨fun h=>?_,fun h=>?_⟩
 .rw[sN];refine⟨fun f=>⟨by show(1:Nat)<=CX;decide,?_⟩,fun f=>?_⟩
  .rw[h,f,qk,qk]at d;rw[rf];exact d
  .rw[h,f,qk,su]at d;exact d
 .rw[h,su,su]at d;exact d
theorem b2q(l:Good Tryz.prog (u0 [(192,X8 [QG])])):QH.Kept Tryz.prog 216:=by
 rintro⟨a,⟨⟩⟩ c k e;change List Hr at a;refine W0 m4 l Tryz.func216 a8o (Eq.mpr (a8n a k) ?_);replace e:k (rI (indexOf U9 a)) []:=e;unfold a3f;have m:a.length<=1000:=c;refine Loop.upto (fun i=>(a,((a.length:Nat):Int),(i:Int),())) (fun i=>∀y∈a.take i,U9 y=false) a.length rfl (by simp) ?_ ?_
 .intro j n f b d;dsimp only;rw[m5];refine⟨fun _=>?_,fun h=>absurd f (by omega)⟩
  try simp only[cu]
  refine⟨⟨by omega,by omega⟩,trivial,?_⟩
  refine P9 (fun h=>?_) (fun h=>⟨B5 (by omega) (by omega),d (Y3 _ _ _ f b h)⟩)
  have:indexOf U9 a=(j:Int):=iD _ a j f b h;rwa [this]at e
 .intro K g;dsimp only;rw[m5];refine⟨fun h=>absurd h (by omega),fun _=>?_⟩
  rw[la]at g;have:indexOf U9 a= -1:=iC _ a g;rwa [this]at e
theorem b2r(d:Good Tryz.prog (u0 [(216,X8 [QH])])):QI.Kept Tryz.prog 193:=by
 rintro⟨a,⟨⟩⟩ b k c;change List Hr at a;refine W0 m4 d Tryz.func193 a8q (Eq.mpr (a8p a k) ?_);replace c:k (rB (a.any U9)) []:=c;unfold a3g;refine⟨b,?_⟩;have:decide (indexOf U9 a>=0)=a.any U9:=xD _ a;rwa [this]
theorem b2s(m:Good Tryz.prog (u0 [(132,X8 [uR]),(193,X8 [QI])])):QJ.Kept Tryz.prog 129:=by
 rintro⟨d,li,ga,fa,b,⟨⟩⟩ e k f;change Int at d li ga fa;change List Hr at b;refine W0 m4 m Tryz.func129 a8s (Eq.mpr (a8r d li ga fa b k) ?_);replace f:k (rI (P0 d li ga fa b)) []:=f;unfold a3h;have h:b.length<=1000:=e;have a:I8 1 12 [(b.length:Int)]=false->(I8 0 40 [d,li]||decide (d>li)||I8 1 40 [ga,fa]||b.any U9)=true->k (rI 3) []:=fun c g=>by
  have:P0 d li ga fa b=3:=by unfold P0;rw[c,ai (by decide),aj g]
  rwa [this]at f
 refine⟨by show(1:Nat)<=CX;decide,?_⟩
 simp only[rf];refine P9 (fun c=>?_) (fun c=>⟨by show(2:Nat)<=CX;decide,?_⟩)
 .have:P0 d li ga fa b=6:=by unfold P0;rw[c];rfl
  rwa [this]at f
 rw[sN];refine⟨fun g=>?_,fun g=>a c (by rw[g];simp)⟩
 rw[sN];refine⟨fun i=>⟨by show(2:Nat)<=CX;decide,?_⟩,fun i=>a c (by rw[i];simp)⟩
 rw[sN];refine⟨fun j=>⟨h,?_⟩,fun j=>a c (by rw[j];simp)⟩
 refine P9 (fun l=>a c (by rw[l];simp)) (fun l=>?_)
 have:P0 d li ga fa b=0:=by unfold P0;rw[c,g,i,j,l];rfl
 rwa [this]at f
theorem b2t(c:Good Tryz.prog (u0 [])):QK.Kept Tryz.prog 131:=by
 rintro⟨n,⟨⟩⟩ b k a;change Int at n;refine W0 m4 c Tryz.func131 a8u (Eq.mpr (a8t n k) ?_);replace a:k (rB (B7 n)) []:=a;unfold a3i;rw[GO];refine⟨fun h=>?_,fun h=>?_⟩
 .have:B7 n=decide (n>1):=by simp only[B7,pg];omega
  rwa [this]at a
 .have:B7 n=true:=by simp[B7,h]
  rwa [this]at a
theorem b2u(g:Good Tryz.prog (u0 [(131,X8 [QK])])):QL.Kept Tryz.prog 194:=by
 rintro⟨l,⟨⟩⟩ b k d;change List Int at l;refine W0 m4 g Tryz.func194 a8w (Eq.mpr (a8v l k) ?_);replace d:k (rI (indexOf B7 l)) []:=d;unfold a3j;have m:l.length<=1000:=b;refine Loop.upto (fun i=>(l,((l.length:Nat):Int),(i:Int),())) (fun i=>∀y∈l.take i,B7 y=false) l.length rfl (by simp) ?_ ?_
 .intro j n e a c;dsimp only;rw[m5];refine⟨fun _=>?_,fun h=>absurd e (by omega)⟩
  try simp only[cu]
  refine⟨⟨by omega,by omega⟩,trivial,?_⟩
  refine P9 (fun h=>?_) (fun h=>⟨B5 (by omega) (by omega),c (Y3 _ _ _ e a h)⟩)
  have:indexOf B7 l=(j:Int):=iD _ l j e a h;rwa [this]at d
 .intro K f;dsimp only;rw[m5];refine⟨fun h=>absurd h (by omega),fun _=>?_⟩
  rw[la]at f;have:indexOf B7 l= -1:=iC _ l f;rwa [this]at d
theorem b2v(c:Good Tryz.prog (u0 [(194,X8 [QL])])):QM.Kept Tryz.prog 130:=by
 rintro⟨l,⟨⟩⟩ a k b;change List Int at l;refine W0 m4 c Tryz.func130 a8y (Eq.mpr (a8x l k) ?_);replace b:k (rB (l.any B7)) []:=b;unfold a3k;refine⟨a,?_⟩;have:decide (indexOf B7 l>=0)=l.any B7:=xD _ l;rwa [this]
theorem k9(o:Good Tryz.prog (u0 [(4,X8 [v4])])):v9.Kept Tryz.prog 9:=by
 rintro⟨e,li,ga,fa,hs,a,⟨⟩⟩ f k b;change Int at e li ga fa;change List Hr at hs;change List Int at a;refine W0 m4 o Tryz.func9 tx9 (Eq.mpr (eq9 e li ga fa hs a k) ?_);replace b:k (rI (cF e li ga fa hs a)) []:=b;unfold vc9;have p:a.length<=1000:=f;refine⟨trivial,P9 (fun h=>⟨trivial,?_⟩) (fun h=>P9 (fun l=>?_) (fun l=>?_))⟩
 .have:cF e li ga fa hs a=G6 e li ga fa hs:=by unfold cF;rw[aj (by simpa using h)]
  rwa [this]at b
 .have:cF e li ga fa hs a=15:=by unfold cF;rw[ai (by simpa using h),aj (by simp at l;omega)]
  rwa [this]at b
 have rest:cF e li ga fa hs a=if a.any B7 then 3 else 0:=by unfold cF;rw[ai (by simpa using h),ai (by simp at l;omega)]
 refine Loop.upto (fun i=>(a,(i:Int),())) (fun i=>∀y∈a.take i,B7 y=false) a.length rfl (by simp) ?_ ?_
 .intro j q g c d;dsimp only;rw[m5];refine⟨fun _=>?_,fun h=>absurd g (by omega)⟩
  try simp only[cu]
  have r:=cf g;refine⟨⟨by omega,by omega⟩,?_⟩
  rw[SB];refine⟨fun m=>⟨⟨by omega,by omega⟩,P9 (fun g2=>?_) (fun g2=>⟨B5 (by omega) (by omega),d (Y3 _ _ _ g c ?_)⟩)⟩,fun m=>⟨B5 (by omega) (by omega),d (Y3 _ _ _ g c ?_)⟩⟩
  .have:a.any B7=true:=ij.2 ⟨_,r,by simp[B7];simp at m g2;omega⟩
   rw[rest,this]at b;exact b
  .simp[B7];simp at g2;omega
  .simp[B7];simp at m;omega
 .intro K n;dsimp only;rw[m5];refine⟨fun h=>absurd h (by omega),fun _=>?_⟩
  rw[la]at n;have:a.any B7=false:=by
   rw[ib];intro y s;rw[n y s];decide
  rw[rest,this]at b;exact b
end Go.Abs.T2
end
section
open Go.Proofs
set_option maxRecDepth 100000
set_option linter.unusedVariables false
namespace Go.Abs.T2
def a8A(h li ga fa:Int)(j:List Hr)(ps:List (List Int))(k:a7->List c7->Prop):Prop:=
  (QJ.p (h,li,ga,fa,j,()))/\
 br ((P0 h li ga fa j) !=0)
 (k (.M1 [.s6 gE,rI (P0 h li ga fa j)]) [])
 (LP (ps,(ps.length:Int),(0:Int),h,li,ga,fa,j,()) (fun m (a,b,c,d,e,f,g,i,())=>
 br (decide (c<b))
 (∃l:0<=c/\c.toNat<a.length,
 br ((((List.length (a[c.toNat]'l.2)):Nat):Int) !=(i.length:Int))
 (k (.M1 [.s6 gE,rI 15]) [])
 ((QM.p ((a[c.toNat]'l.2),()))/\
 br (List.any (a[c.toNat]'l.2) B7)
 (k (.M1 [.s6 gE,rI 3]) [])
 ((fI (c+1))/\
 (m (a,b,(c+1),d,e,f,g,i,())))))
 (k (.M1 [(a7.G7 [rI d,rI e,rI f,rI g,.imm tH i false,rI 0]),rI 0]) [])))
theorem b2w(a li ga fa:Int)(b:List Hr)(ps:List (List Int))(k:a7->List c7->Prop):awpF (u0 [(129,X8 [QJ]),(130,X8 [QM])]) Tryz.prog kt 50 false Tryz.f50 (ZS.args (a,li,ga,fa,b,ps,())) (ZS.N4 (a,li,ga,fa,b,ps,())) k=a8A a li ga fa b ps k:=by kernel_rfl
theorem b2x:(Tryz.f50.body.map Code.j5).getD true=true:=by kernel_rfl
def a3l(y li ga fa:Int)(z:List Hr)(v:Int)(A:List Int)(w:Bool)(B:Int)(k:a7->List c7->Prop):Prop:=
  LP (y,li,ga,fa,z,v,A,w,y,y,li,ga,fa,z,v,B,([]:List Int),()) (fun x (a,b,c,d,e,f,g,i,j,l,m,n,o,p,q,r,s,())=>
 br (decide (r<(g.length:Int)))
 (∃t:0<=r/\r.toNat<e.length,
 br (i)
 (∃h:0<=r/\r.toNat<e.length,
 (fI ((e[r.toNat]'h.2).1.2+f))/\
 ∃u:0<=r/\r.toNat<g.length,
 (QN.p (l,m,n,o,p,q,j,((e[r.toNat]'h.2).1.2+f),(g[r.toNat]'u.2),()))/\
 ((s.length+(List.length [l7 n o j ((e[r.toNat]'h.2).1.2+f) (g[r.toNat]'u.2)]))<=At)/\
 (fI (r+1))/\
 (x (a,b,c,d,e,f,g,i,(l7 n o j ((e[r.toNat]'h.2).1.2+f) (g[r.toNat]'u.2)),l,m,n,o,p,q,(r+1),(s++ [l7 n o j ((e[r.toNat]'h.2).1.2+f) (g[r.toNat]'u.2)]),())))
 (∃h:0<=r/\r.toNat<g.length,
 (QN.p (l,m,n,o,p,q,j,(e[r.toNat]'t.2).1.1,(g[r.toNat]'h.2),()))/\
 ((s.length+(List.length [l7 n o j (e[r.toNat]'t.2).1.1 (g[r.toNat]'h.2)]))<=At)/\
 (fI (r+1))/\
 (x (a,b,c,d,e,f,g,i,(l7 n o j (e[r.toNat]'t.2).1.1 (g[r.toNat]'h.2)),l,m,n,o,p,q,(r+1),(s++ [l7 n o j (e[r.toNat]'t.2).1.1 (g[r.toNat]'h.2)]),()))))
 (k (.O1 0 false) [.sl tI s]))
theorem a8B(c li ga fa:Int)(d:List Hr)(a:Int)(e:List Int)(b:Bool)(f:Int)(k:a7->List c7->Prop):awpF (u0 [(55,X8 [QN])]) Tryz.prog kt 133 false Tryz.f133 (QO.args (c,li,ga,fa,d,a,e,b,f,())) (QO.N4 (c,li,ga,fa,d,a,e,b,f,())) k=a3l c li ga fa d a e b f k:=by kernel_rfl
theorem a8C:(Tryz.f133.body.map Code.j5).getD true=true:=by kernel_rfl
def a8D(c li ga fa:Int)(d:List Hr)(a:Int)(e:List Int)(b:Bool)(f:Int)(k:a7->List c7->Prop):Prop:=
  (QO.p (c,li,ga,fa,d,a,e,b,f,()))/\
 (uR.p ((0:Int),li,(lM c ga fa a d e b f.toNat),()))/\
 (k (rB (Bool.not (I8 (0:Int) li (lM c ga fa a d e b f.toNat)))) [])
theorem b2y(c li ga fa:Int)(d:List Hr)(a:Int)(e:List Int)(b:Bool)(f:Int)(k:a7->List c7->Prop):awpF (u0 [(133,X8 [QO]),(132,X8 [uR])]) Tryz.prog kt 51 false Tryz.f51 (ZT.args (c,li,ga,fa,d,a,e,b,f,())) (ZT.N4 (c,li,ga,fa,d,a,e,b,f,())) k=a8D c li ga fa d a e b f k:=by kernel_rfl
theorem b2z:(Tryz.f51.body.map Code.j5).getD true=true:=by kernel_rfl
def a8E(a li ga fa:Int)(b:List Hr)(c:List Int)(k:a7->List c7->Prop):Prop:=
  (ZS.p (a,li,ga,fa,b,[c],()))/\
 br (decide ((I4 a li ga fa b [c])=0))
 ((ZT.p (a,li,ga,fa,b,(0:Int),c,true,(0:Int),()))/\
 br (Bool.not (lB a li ga fa (0:Int) b c true (Int.toNat (0:Int))))
 (k (.M1 [.s6 gE,rI 18]) [])
 (k (.M1 [(a7.G7 [rI a,rI li,rI ga,rI fa,.imm tH b false,rI 0]),rI 0]) []))
 (br ((I4 a li ga fa b [c]) !=0)
 (k (.M1 [.s6 gE,rI (I4 a li ga fa b [c])]) [])
 (False/\
 False))
theorem b2A(a li ga fa:Int)(b:List Hr)(c:List Int)(k:a7->List c7->Prop):awpF (u0 [(50,X8 [ZS]),(51,X8 [ZT])]) Tryz.prog kt 22 false Tryz.f22 (v22.args (a,li,ga,fa,b,c,())) (v22.N4 (a,li,ga,fa,b,c,())) k=a8E a li ga fa b c k:=by kernel_rfl
theorem b2B:(Tryz.f22.body.map Code.j5).getD true=true:=by kernel_rfl
def vc8(n li ga fa:Int)(o:List Hr)(l:List Int)(k:a7->List c7->Prop):Prop:=
  (v22.p (n,li,ga,fa,o,l,()))/\
 br (decide ((J5 n li ga fa o l)=0))
 (LP ((0:Int),l,(l.length:Int),(0:Int),n,li,ga,fa,o,()) (fun q (a,b,c,d,e,f,g,i,j,())=>
 br (decide (d<c))
 (∃m:0<=d/\d.toNat<b.length,
 ∃h:0<=d/\d.toNat<j.length,
 (fI ((j[d.toNat]'h.2).2*(b[d.toNat]'m.2)))/\
 (fI (a+((j[d.toNat]'h.2).2*(b[d.toNat]'m.2))))/\
 (fI (d+1))/\
 (q ((a+((j[d.toNat]'h.2).2*(b[d.toNat]'m.2))),b,c,(d+1),e,f,g,i,j,())))
 (k (.M1 [rI a,rI 0]) [])))
 (br ((J5 n li ga fa o l) !=0)
 (k (.M1 [rI 0,rI (J5 n li ga fa o l)]) [])
 (LP ((0:Int),l,(l.length:Int),(0:Int),n,li,ga,fa,o,()) (fun q (a,b,c,d,e,f,g,i,j,())=>
 br (decide (d<c))
 (∃m:0<=d/\d.toNat<b.length,
 ∃h:0<=d/\d.toNat<j.length,
 (fI ((j[d.toNat]'h.2).2*(b[d.toNat]'m.2)))/\
 (fI (a+((j[d.toNat]'h.2).2*(b[d.toNat]'m.2))))/\
 (fI (d+1))/\
 (q ((a+((j[d.toNat]'h.2).2*(b[d.toNat]'m.2))),b,c,(d+1),e,f,g,i,j,())))
 (k (.M1 [rI a,rI 0]) []))))
theorem eq8(a li ga fa:Int)(b:List Hr)(c:List Int)(k:a7->List c7->Prop):awpF (u0 [(22,X8 [v22])]) Tryz.prog kt 8 false Tryz.f8 (v8.args (a,li,ga,fa,b,c,())) (v8.N4 (a,li,ga,fa,b,c,())) k=vc8 a li ga fa b c k:=by kernel_rfl
theorem tx8:(Tryz.f8.body.map Code.j5).getD true=true:=by kernel_rfl
def a8F(d li ga fa:Int)(e:List Hr)(a:Int)(b heat c:Int)(k:a7->List c7->Prop):Prop:=
 (k (.fn (Go.Fn.func (54:Nat)) [] [(a7.G7 [(a7.G7 [rI d,rI li,rI ga,rI fa,.imm tH e false,rI a])]),(a7.G7 [rI b,rI heat]),.G7 [rI c]]) [])
theorem b2C(d li ga fa:Int)(e:List Hr)(a:Int)(b heat c:Int)(k:a7->List c7->Prop):awpF (u0 []) Tryz.prog kt 20 false Tryz.f20 (v20.args (d,li,ga,fa,e,a,b,heat,c,())) (v20.N4 (d,li,ga,fa,e,a,b,heat,c,())) k=a8F d li ga fa e a b heat c k:=by kernel_rfl
theorem b2D:(Tryz.f20.body.map Code.j5).getD true=true:=by kernel_rfl
def a8G(E li ga fa:Int)(B:List Hr)(x:Int)(h heat C:Int)(k:a7->List c7->Prop):Prop:=
  ∃A:0<=h/\h.toNat<B.length,
 LP (E,li,ga,fa,B,x,h,heat,C,(0:Int),E,li,ga,fa,B,x,h,heat,C,(B[h.toNat]'A.2).1.1,(B[h.toNat]'A.2).1.2,(B[h.toNat]'A.2).2,([]:List (Int×(Int×Int))),()) (fun D (a,b,c,d,e,f,g,i,j,l,m,n,o,p,q,r,s,t,u,v,w,y,z,())=>
 br (decide (l<(2:Int)))
 ((fI (y*l))/\
 (QN.p (a,b,c,d,e,f,i,w,l,()))/\
 br ((decide ((l7 c d i w l)<=j))==true)
 (((z.length+(List.length ((l,(y*l),(l7 c d i w l))::([]:List (Int×(Int×Int))))))<=At)/\
 (fI (l+1))/\
 (D (a,b,c,d,e,f,g,i,j,(l+1),m,n,o,p,q,r,s,t,u,v,w,y,(z++((l,(y*l),(l7 c d i w l))::([]:List (Int×(Int×Int))))),())))
 ((fI (l+1))/\
 (D (a,b,c,d,e,f,g,i,j,(l+1),m,n,o,p,q,r,s,t,u,v,w,y,z,()))))
 (k (.O1 0 false) [.sl ZR z]))
theorem b2E(d li ga fa:Int)(e:List Hr)(a:Int)(b heat c:Int)(k:a7->List c7->Prop):awpF (u0 [(55,X8 [QN])]) Tryz.prog kt 53 false Tryz.f53 (v53.args (d,li,ga,fa,e,a,b,heat,c,())) (v53.N4 (d,li,ga,fa,e,a,b,heat,c,())) k=a8G d li ga fa e a b heat c k:=by kernel_rfl
theorem b2F:(Tryz.f53.body.map Code.j5).getD true=true:=by kernel_rfl
def a8H(e li ga fa:Int)(d:List Hr)(b:Int)(a heat c:Int)(k:a7->List c7->Prop):Prop:=
  (v53.p (e,li,ga,fa,d,b,a,heat,c,()))/\
 (k (.O1 0 false) [.sl ZR (N5 ga fa heat (V2 d a) c)])
theorem b2G(d li ga fa:Int)(e:List Hr)(a:Int)(b heat c:Int)(k:a7->List c7->Prop):awpF (u0 [(53,X8 [v53])]) Tryz.prog kt 19 false Tryz.f19 (v19.args (d,li,ga,fa,e,a,b,heat,c,())) (v19.N4 (d,li,ga,fa,e,a,b,heat,c,())) k=a8H d li ga fa e a b heat c k:=by kernel_rfl
theorem b2H:(Tryz.f19.body.map Code.j5).getD true=true:=by kernel_rfl
def a3m(Z li ga fa:Int)(hs:List Hr)(H:Int)(I:Int)(next:List Int)(k:a7->List c7->Prop):Prop:=
  (next.length<=(16777216:Nat))/\
 (fI (li+1))/\
 LP (Z,li,ga,fa,hs,H,I,(li+1),(0:Int),next,([]:List (Nat×((Int×Int)×Int))),(0:Nat),()) (fun K9 (a,b,c,d,e,f,g,i,j,l,m,n,())=>
 br (decide (j<i))
 (∀J:(List (Nat×((Int×Int)×Int))),
 ∀b12:(J=(qI (Ty.pair tI tI) m n (g,j) (-(1:Int):Int))),
 ∀x:Nat,
 ∀R:(x=(uG (Ty.pair tI tI) m n (g,j))),
 (v20.p (a,b,c,d,e,f,g,j,b,()))/\
 ∃h:0<=g/\g.toNat<e.length,
 LP (a,b,c,d,e,f,g,j,b,(0:Int),a,b,c,d,e,f,g,i,j,a,b,c,d,e,f,g,j,b,(e[g.toNat]'h.2).1.1,(e[g.toNat]'h.2).1.2,(e[g.toNat]'h.2).2,l,g,j,J,x,()) (fun K (a,b,c,d,e,f,g,i,j,l,m,n,o,p,q,r,s,t,u,v,w,y,z,a1,T,U,V,X,Y,A,D,B,E,F,G,P,())=>
 br (decide (l<(2:Int)))
 ((fI (D*l))/\
 (QN.p (a,b,c,d,e,f,i,A,l,()))/\
 br ((decide ((l7 c d i A l)<=j))==true)
 ((((0:Int)<=(l7 c d i A l))/\((Int.toNat (l7 c d i A l))<(42:Nat)))/\
 ∃C:((Int.toNat (l7 c d i A l))<B.length),
 (fI ((D*l)+(B[(Int.toNat (l7 c d i A l))]'C)))/\
 ∀L:(List (Nat×((Int×Int)×Int))),
 ∀b20:(L=(qI (Ty.pair tI tI) G P (E,F) (ite (((D*l)+(B[(Int.toNat (l7 c d i A l))]'C))>(lD (Ty.pair tI tI) G (E,F))) ((D*l)+(B[(Int.toNat (l7 c d i A l))]'C)) (lD (Ty.pair tI tI) G (E,F))))),
 ∀M:Nat,
 ∀b22:(M=(uG (Ty.pair tI tI) G P (E,F))),
 (fI (l+1))/\
 (K (a,b,c,d,e,f,g,i,j,(l+1),m,n,o,p,q,r,s,t,u,v,w,y,z,a1,T,U,V,X,Y,A,D,B,E,F,L,M,())))
 ((fI (l+1))/\
 (K (a,b,c,d,e,f,g,i,j,(l+1),m,n,o,p,q,r,s,t,u,v,w,y,z,a1,T,U,V,X,Y,A,D,B,E,F,G,P,()))))
 ((fI (u+1))/\
 (K9 (m,n,o,p,q,r,s,t,(u+1),B,G,P,())))))
 ((YY.p (m,n,()))/\
 LP (n,[],n,m,n,m,n,()) (fun N (a,b,c,d,e,f,g,())=>
 ((∀O:(Nat×((Int×Int)×Int)),((Membership.mem f O)->(O.1<a)))/\(a<=c))/\
 (∀x:((mleft (Ty.pair tI tI) f b)=([]:List (Nat×((Int×Int)×Int)))),
 (k (.B9 0) [.mp mB d e]))/\
 ∀x:(Nat×((Int×Int)×Int)),
 ∀R:(Membership.mem (mleft (Ty.pair tI tI) f b) x),
 ((g=g)/\(List.Nodup (List.map (fun S=>S.1) f)))/\
 ∃h:(Nat×((Int×Int)×Int)),
 ((Membership.mem f h)/\((List.getLast? (b++ [x.1]))=(Option.some h.1)))/\
 br (decide (h.2.2<(0:Int)))
 (N (a,(b++ [x.1]),g,(lR (Ty.pair tI tI) (h.2.1.1,h.2.1.2) d),e,f,g,()))
 (N (a,(b++ [x.1]),g,d,e,f,g,())))))
theorem a8I(c li ga fa:Int)(d:List Hr)(a:Int)(b:Int)(next:List Int)(k:a7->List c7->Prop):awpG (u0 [(196,mkG [YY]),(20,X8 [v20]),(55,X8 [QN])]) Tryz.prog kt 134 Tryz.f134 (QQ.args (c,li,ga,fa,d,a,b,next,())) (QQ.N4 (c,li,ga,fa,d,a,b,next,())) k=a3m c li ga fa d a b next k:=by kernel_rfl
theorem a8J:(Tryz.f134.body.map Code.j5).getD true=true:=by kernel_rfl
def a8K(y li ga fa:Int)(h:List Hr)(v:Int)(k:a7->List c7->Prop):Prop:=
  (fI ((h.length:Int)+1))/\
 (((0:Int)<=((h.length:Int)+1))/\((((h.length:Int)+1)=((h.length:Int)+1))/\(((h.length:Int)+1)<=(1048576:Int))))/\
 (((0:Nat)=(0:Nat))/\(((0:Int)<=(h.length:Int))/\((Int.toNat (h.length:Int))<(Int.toNat ((h.length:Int)+1)))))/\
 (((0:Nat)=(0:Nat))/\((((Int.toNat (h.length:Int))*(42:Nat))+(42:Nat))<=(List.length (List.replicate ((Int.toNat ((h.length:Int)+1))*(42:Nat)) (Int.ofNat 0)))))/\
 ((((Int.toNat (h.length:Int))*(42:Nat))+(42:Nat))<=(List.length (List.replicate ((Int.toNat ((h.length:Int)+1))*(42:Nat)) (Int.ofNat 0))))/\
 LP (y,li,ga,fa,h,v,(0:Nat),(Int.toNat ((h.length:Int)+1)),(h.length:Int),(0:Int),(((List.take ((Int.toNat (h.length:Int))*(42:Nat)) (List.replicate ((Int.toNat ((h.length:Int)+1))*(42:Nat)) (Int.ofNat 0)))++(List.replicate (42:Nat) (Int.ofNat 0)))++(List.drop (((Int.toNat (h.length:Int))*(42:Nat))+(42:Nat)) (List.replicate ((Int.toNat ((h.length:Int)+1))*(42:Nat)) (Int.ofNat 0)))),()) (fun z (a,b,c,d,e,f,g,i,j,l,m,())=>
 br (decide (l<j))
 ((fI ((e.length:Int) - (1:Int)))/\
 (fI (((e.length:Int) - (1:Int)) - l))/\
 (fI ((((e.length:Int) - (1:Int)) - l)+1))/\
 ((g=(0:Nat))/\(((0:Int)<=((((e.length:Int) - (1:Int)) - l)+1))/\((Int.toNat ((((e.length:Int) - (1:Int)) - l)+1))<i)))/\
 ((0:Nat)=(0:Nat))/\
 ((((Int.toNat ((((e.length:Int) - (1:Int)) - l)+1))*(42:Nat))+(42:Nat))<=m.length)/\
 (QQ.p (a,b,c,d,e,f,(((e.length:Int) - (1:Int)) - l),(List.take (42:Nat) (List.drop ((Int.toNat ((((e.length:Int) - (1:Int)) - l)+1))*(42:Nat)) m)),()))/\
 LP (a,b,c,d,e,f,g,i,(((e.length:Int) - (1:Int)) - l),j,l,m,(Int.toNat (b+1)),[],(Int.toNat (b+1)),(pI b c d (((e.length:Int) - (1:Int)) - l) (V2 e (((e.length:Int) - (1:Int)) - l)) (List.take (42:Nat) (List.drop ((Int.toNat ((((e.length:Int) - (1:Int)) - l)+1))*(42:Nat)) m))),(Int.toNat (b+1)),()) (fun A (a,b,c,d,e,f,g,i,j,l,m,n,o,p,q,r,s,())=>
 ((∀w:(Nat×((Int×Int)×Int)),((Membership.mem r w)->(w.1<o)))/\(o<=q))/\
 (∀u:((mleft (Ty.pair tI tI) r p)=([]:List (Nat×((Int×Int)×Int)))),
 (fI (m+1))/\
 (z (a,b,c,d,e,f,g,i,l,(m+1),n,())))/\
 ∀u:(Nat×((Int×Int)×Int)),
 ∀B:(Membership.mem (mleft (Ty.pair tI tI) r p) u),
 ((s=s)/\(List.Nodup (List.map (fun x=>x.1) r)))/\
 ∃t:(Nat×((Int×Int)×Int)),
 ((Membership.mem r t)/\((List.getLast? (p++ [u.1]))=(Option.some t.1)))/\
 ((g=(0:Nat))/\(0<=j/\j.toNat<i))/\
 (((0:Int)<=t.2.1.2)/\((Int.toNat t.2.1.2)<(42:Nat)))/\
 ∃C:(((j.toNat*(42:Nat))+(Int.toNat t.2.1.2))<n.length),
 (A (a,b,c,d,e,f,g,i,j,l,m,(List.set n ((j.toNat*(42:Nat))+(Int.toNat t.2.1.2)) t.2.2),o,(p++ [u.1]),s,r,s,()))))
 (k (.sub 0 g i true) [.sl tI m]))
theorem b2I(b li ga fa:Int)(c:List Hr)(a:Int)(k:a7->List c7->Prop):awpG (u0 [(134,X8 [QQ])]) Tryz.prog kt 52 Tryz.f52 (v52.args (b,li,ga,fa,c,a,())) (v52.N4 (b,li,ga,fa,c,a,())) k=a8K b li ga fa c a k:=by kernel_rfl
theorem b2J:(Tryz.f52.body.map Code.j5).getD true=true:=by kernel_rfl
def a8L(b li ga fa:Int)(a:List Hr)(k:a7->List c7->Prop):Prop:=
  (ZS.p (b,li,ga,fa,a,([]:List (List Int)),()))/\
 br (decide ((I4 b li ga fa a ([]:List (List Int)))=0))
 ((((0:Int)<=(a.length:Int))/\(((a.length:Int)=(a.length:Int))/\((a.length:Int)<=((At:Nat):Int))))/\
 (ZT.p (b,li,ga,fa,a,(0:Int),(List.replicate (Int.toNat (a.length:Int)) (Int.ofNat 0)),true,(0:Int),()))/\
 br (Bool.not (lB b li ga fa (0:Int) a (List.replicate (Int.toNat (a.length:Int)) (Int.ofNat 0)) true (Int.toNat (0:Int))))
 (k (.M1 [.s6 gE,.R2 Ty.bool,rI 13]) [])
 ((v52.p (b,li,ga,fa,a,(0:Int),()))/\
 (k (.M1 [(a7.G7 [rI b,rI li,rI ga,rI fa,.imm tH a false,rI 0]),.sub 0 (0:Nat) (a.length+(1:Nat)) true,rI 0]) [.sl tI (qA li ga fa a)])))
 (br ((I4 b li ga fa a ([]:List (List Int))) !=0)
 (k (.M1 [.s6 gE,.R2 Ty.bool,rI (I4 b li ga fa a ([]:List (List Int)))]) [])
 ((((0:Int)<=(a.length:Int))/\(((a.length:Int)=(a.length:Int))/\((a.length:Int)<=((At:Nat):Int))))/\
 False/\
 False))
theorem b2K(a li ga fa:Int)(b:List Hr)(k:a7->List c7->Prop):awpG (u0 [(50,X8 [ZS]),(51,X8 [ZT]),(52,mkG [v52])]) Tryz.prog kt 17 Tryz.f17 (v17.args (a,li,ga,fa,b,())) (v17.N4 (a,li,ga,fa,b,())) k=a8L a li ga fa b k:=by kernel_rfl
theorem b2L:(Tryz.f17.body.map Code.j5).getD true=true:=by kernel_rfl
end Go.Abs.T2
end
section
open Go.Proofs
set_option maxRecDepth 100000
set_option linter.unusedVariables false
namespace Go.Abs.T2
theorem k50(s:Good Tryz.prog (u0 [(129,X8 [QJ]),(130,X8 [QM])])):ZS.Kept Tryz.prog 50:=by
 rintro⟨c,li,ga,fa,b,ps,⟨⟩⟩ d k r;change Int at c li ga fa;change List Hr at b;change List (List Int)at ps;refine W0 m4 s Tryz.func50 b2x (Eq.mpr (b2w c li ga fa b ps k) ?_);unfold a8A;obtain⟨f,t,g⟩:=d;change b.length<=1000 at f;change ps.length<=10 at t;change ∀p∈ps,p.length<=1000 at g;have n:I4 c li ga fa b ps=0->k (.M1 [.G7 [rI c,rI li,rI ga,rI fa,.imm tH b false,rI 0],rI 0]) []:=fun h=>((m5 _ _ _).1 r).1 h
 have o:∀e,I4 c li ga fa b ps=e->e≠0->k (.M1 [.s6 gE,rI e]) []:=fun e h u=>by subst h;exact((m5 _ _ _).1 r).2 u
 refine⟨f,?_⟩;rw[BS];refine⟨fun h=>?_,fun h=>?_⟩
 .exact o _ (by unfold I4;rw[aj h]) h
 have rest:I4 c li ga fa b ps=cA b.length ps:=by unfold I4;rw[ai (by simpa using h)]
 refine Loop.upto (fun i=>(ps,((ps.length:Nat):Int),(i:Int),c,li,ga,fa,b,())) (fun i=>cA b.length ps=cA b.length (ps.drop i)) ps.length rfl rfl ?_ ?_
 .intro j v q a m;dsimp only;rw[m5];refine⟨fun _=>?_,fun h=>absurd q (by omega)⟩
  try simp only[cu]
  have w:=cf q;have e:ps.drop j=ps[j]::ps.drop (j+1):=(ia q);rw[e]at a;have x:∀p l,cA b.length (p::l)=if p.length≠b.length then 15 else if p.any B7 then 3 else cA b.length l:=fun _ _=>rfl
  rw[x]at a;refine⟨⟨by omega,by omega⟩,?_⟩
  rw[BS];refine⟨fun y=>o 15 (by rw[rest,a,aj (by omega)]) (by decide),fun y=>⟨g _ w,P9 (fun g2=>o 3 ?_ (by decide)) (fun g2=>⟨B5 (by omega) (by omega),m ?_⟩)⟩⟩
  .rw[rest,a,ai (by omega),aj g2]
  .rw[a,ai (by omega),ai (by rw[g2];simp)]
 .intro K z;dsimp only;rw[m5];refine⟨fun h=>absurd h (by omega),fun _=>?_⟩
  exact n (by rw[rest,z,qu];rfl)
theorem BT(ga fa a:Int)(b:Bool):∀ (l:List (Hr×Int)) (s:List Int×Int),(l.foldl (bM ga fa a b) s).1.length=s.1.length+l.length
 |[],s=>rfl
 |x::l,s=>by
  rw[lz,BT ga fa a b l];simp only[bM,bu,bq,eh];omega
theorem SD{c li ga fa b heat a g:Int}{d:List Hr}(e:0<=ga/\ga<=1000)(f:0<=fa/\fa<=1000)(h: -1000<=heat/\heat<=1000)(i: -1000<=a/\a<=1000):
 QN.p (c,(li,(ga,(fa,(d,(b,(heat,(a,(g,()))))))))):=⟨e,f,h,i⟩
theorem b2M(C:Good Tryz.prog (u0 [(55,X8 [QN])])):QO.Kept Tryz.prog 133:=by
 rintro⟨f,li,ga,fa,d,a,c,b,t,⟨⟩⟩ n k s;change Int at f li ga fa;change List Hr at d;change Int at a;change List Int at c;change Bool at b;change Int at t;refine W0 m4 C Tryz.func133 a8C (Eq.mpr (a8B f li ga fa d a c b t k) ?_);unfold a3l;obtain⟨D,o,p⟩:=n;change c.length=d.length at o;change 0<=t at p;obtain⟨w,E,F,G,H,I,x⟩:=D;change 0<=f/\f<=40 at w;change 0<=li/\li<=40 at E;change 1<=ga/\ga<=40 at F;change 1<=fa/\fa<=40 at G;change 0<=a/\a<=40 at H;change d.length<=12 at I;change ∀h∈d,(0<=h.1.1/\h.1.1<=40)/\(0<=h.1.2/\h.1.2<=40)/\(1<=h.2/\h.2<=100)at x;obtain⟨N,rfl⟩:=od p;replace s:k (.O1 0 false) [.sl tI (lM f ga fa a d c b N)]:=s
 let S:=fun(i:Nat)=>(((d.zip c).drop N).take i).foldl (bM ga fa a b) ([],f)
 have J:∀j (h:j<c.length- N),S (j+1)=bM ga fa a b (S j) (d[N+j]'(by omega),c[N+j]'(by omega)):=fun j h=>by
  show(((d.zip c).drop N).take (j+1)).foldl _ _=bM _ _ _ _ ((((d.zip c).drop N).take j).foldl _ _) _;rw[fp (by simp;omega),ou]
  simp
 have L:lM f ga fa a d c b N=(S (c.length- N)).1:=by
  show _=((((d.zip c).drop N).take (c.length- N)).foldl (bM ga fa a b) ([],f)).1;rw[bj (by simp;omega)]
  rfl
 have M:∀j,j<=c.length- N->(S j).1.length=j:=fun j h=>by
  show((((d.zip c).drop N).take j).foldl (bM ga fa a b) ([],f)).1.length=j;rw[BT];simp;omega
 refine Loop.upto (fun i=>(f,li,ga,fa,d,a,c,b,(S i).2,f,li,ga,fa,d,a,((N+i:Nat):Int),(S i).1,())) (fun i=>0<=(S i).2/\(S i).2<=80+40*(i:Int)) (c.length- N) rfl ⟨w.1,by show f<=_;omega⟩ ?_ ?_
 .intro j O y z l;dsimp only;rw[m5];refine⟨fun _=>?_,fun h=>absurd y (by omega)⟩
  try simp only[cu]
  have u:N+j<d.length:=by omega
  have P:=x _ (cf u);have e:=J j y;have A:=M j (by omega)
  have B:∀r g,0<=r->r<=80->0<=l7 ga fa (S j).2 r g/\l7 ga fa (S j).2 r g<=80+40*((j+1:Nat):Int):=fun r g R m=>by
   unfold l7;rw[fh,fh];split<;>split<;>omega
  refine⟨⟨by omega,u⟩,P9 (fun v=>⟨⟨by omega,u⟩,B5 (by omega) (by omega),⟨by omega,by omega⟩,SD ⟨by omega,by omega⟩ ⟨by omega,by omega⟩ ⟨by omega,by omega⟩ ⟨by omega,by omega⟩,?_,B5 (by omega) (by omega),?_⟩) (fun v=>⟨⟨by omega,by omega⟩,SD ⟨by omega,by omega⟩ ⟨by omega,by omega⟩ ⟨by omega,by omega⟩ ⟨by omega,by omega⟩,?_,B5 (by omega) (by omega),?_⟩)⟩
  .rw[A];simp only[bq,eh,At];omega
  .have m:S (j+1)=((S j).1++ [l7 ga fa (S j).2 (d[N+j].1.2+a) c[N+j]],l7 ga fa (S j).2 (d[N+j].1.2+a) c[N+j]):=by
    rw[e];unfold bM;simp only[v,di]
   have q:=l (by rw[m];exact B _ _ (by omega) (by omega))
   rw[m]at q;exact q
  .rw[A];simp only[bq,eh,At];omega
  .have m:S (j+1)=((S j).1++ [l7 ga fa (S j).2 d[N+j].1.1 c[N+j]],l7 ga fa (S j).2 d[N+j].1.1 c[N+j]):=by
    rw[e];unfold bM;simp only[v,dq,dw]
   have q:=l (by rw[m];exact B _ _ (by omega) (by omega))
   rw[m]at q;exact q
 .intro K T;dsimp only;rw[m5];refine⟨fun h=>absurd h (by omega),fun _=>?_⟩
  rw[L]at s;exact s
theorem k51(i:Good Tryz.prog (u0 [(133,X8 [QO]),(132,X8 [uR])])):ZT.Kept Tryz.prog 51:=by
 rintro⟨e,li,ga,fa,d,a,f,b,g,⟨⟩⟩ c k j;change Int at e li ga fa;change List Hr at d;change Int at a;change List Int at f;change Bool at b;change Int at g;refine W0 m4 i Tryz.func51 b2z (Eq.mpr (b2y e li ga fa d a f b g k) ?_);unfold a8D;refine⟨c,?_,j⟩;show(lM e ga fa a d f b g.toNat).length<=1152921504606846976;obtain⟨l,h,m⟩:=c;have n:d.length<=12:=l.2.2.2.2.2.1;unfold lM;rw[BT];simp;omega
theorem X3{lo hi:Int}:∀ {l:List Int},I8 lo hi l=false->∀x∈l,lo<=x/\x<=hi:=fun h x a=>by
 unfold I8 at h;rw[ib]at h;have:=h x a;simp[bZ]at this;omega
theorem DT{c li ga fa:Int}{a:List Hr}(h:P0 c li ga fa a=0):okB c li ga fa a 0/\1<=a.length/\c<=li/\∀h∈a,h.1.1<=h.1.2:=by
 unfold P0 at h;split at h
 .cases h
 rename_i d;split at h
 .cases h
 rename_i e;simp only[gp,ke,nf,gi]at d e;obtain⟨⟨⟨a1,r⟩,f⟩,g⟩:=e;have s:=X3 d _ (ar ..);have k:=X3 a1 c (by simp)
 have l:=X3 a1 li (by simp)
 have m:=X3 f ga (by simp)
 have n:=X3 f fa (by simp)
 have i:∀h∈a,((0<=h.1.1/\h.1.1<=40)/\(0<=h.1.2/\h.1.2<=40)/\(1<=h.2/\h.2<=100))/\h.1.1<=h.1.2:=fun h b=>by
  rw[ib]at g;have:=g h b;unfold U9 at this;simp only[gp,ke,nf,gi]at this;obtain⟨⟨j,t⟩,o⟩:=this;have p:=X3 j h.1.1 (by simp)
  have q:=X3 j h.1.2 (by simp)
  have u:=X3 o h.2 (by simp)
  exact⟨⟨p,q,by omega⟩,by omega⟩
 exact⟨⟨k,l,m,n,⟨by decide,by decide⟩,by omega,fun h b=>(i h b).1⟩,by omega,by omega,fun h b=>(i h b).2⟩
theorem NV{c li ga fa:Int}{a:List Hr}{b:List Int}(h:I4 c li ga fa a [b]=0):P0 c li ga fa a=0/\b.length=a.length/\b.any B7=false:=by
 unfold I4 at h;split at h
 .exact absurd h ‹_›
 rename_i d;unfold cA at h;split at h
 .cases h
 split at h
 .cases h
 rename_i e f;exact⟨by simpa using d,by simpa using e,by simpa using f⟩
theorem k22(o:Good Tryz.prog (u0 [(50,X8 [ZS]),(51,X8 [ZT])])):v22.Kept Tryz.prog 22:=by
 rintro⟨c,li,ga,fa,a,d,⟨⟩⟩ b k m;change Int at c li ga fa;change List Hr at a;change List Int at d;refine W0 m4 o Tryz.func22 b2B (Eq.mpr (b2A c li ga fa a d k) ?_);unfold a8E;have i:a.length<=1000:=b.1;have j:d.length<=1000:=b.2;have l:J5 c li ga fa a d=0->k (.M1 [.G7 (GP c li ga fa a 0),rI 0]) []:=fun h=>((m5 _ _ _).1 m).1 h
 have n:∀e,J5 c li ga fa a d=e->e≠0->k (.M1 [.s6 gE,rI e]) []:=fun e h q=>by subst h;exact((m5 _ _ _).1 m).2 q
 refine⟨⟨i,by show(1:Nat)<=10;decide,fun p r=>by rw[cb.1 r];exact j⟩,?_⟩
 rw[m5];refine⟨fun h=>?_,fun h=>?_⟩
 .obtain⟨s,f,t⟩:=NV h;refine⟨⟨(DT s).1,f,by show(0:Int)<=0;decide⟩,?_⟩
  rw[YX];refine⟨fun g=>n 18 ?_ (by decide),fun g=>l ?_⟩
  .unfold J5;rw[ai (by rw[h];simp),ai (by rw[show lB c li ga fa 0 a d true 0=false from g];simp)]
  .unfold J5;rw[ai (by rw[h];simp),aj (show lB c li ga fa 0 a d true 0=true from g)]
 .rw[BS];exact⟨fun f=>n _ (by unfold J5;rw[aj f]) f,fun f=>absurd f h⟩
theorem YZ{a li ga fa:Int}{b:List Hr}{c:List Int}(h:J5 a li ga fa b c=0):I4 a li ga fa b [c]=0/\lB a li ga fa 0 b c true 0=true:=by
 unfold J5 at h;split at h
 .exact absurd h ‹_›
 split at h
 .rename_i d e;exact⟨by simpa using d,e⟩
 .cases h
theorem k8(t:Good Tryz.prog (u0 [(22,X8 [v22])])):v8.Kept Tryz.prog 8:=by
 rintro⟨d,li,ga,fa,b,a,⟨⟩⟩ f k c;change Int at d li ga fa;change List Hr at b;change List Int at a;refine W0 m4 t Tryz.func8 tx8 (Eq.mpr (eq8 d li ga fa b a k) ?_);replace c:k (.M1 [rI (if J5 d li ga fa b a=0 then QP b a else 0),rI (J5 d li ga fa b a)]) []:=c
 unfold vc8;refine⟨f,?_⟩;rw[m5];refine⟨fun h=>?_,fun h=>?_⟩
 rotate_left
 .rw[BS];rw[ai h]at c;exact⟨fun n=>c,fun n=>absurd n h⟩
 rw[aj h,h]at c;obtain⟨u,n,l⟩:=NV (YZ h).1;obtain⟨⟨C,D,E,F,G,p,v⟩,-⟩:=DT u
 let S:=fun(i:Nat)=>(((b.zip a).take i).map fun x=>x.1.2*x.2).sum
 have w:∀j (h:j<a.length),S (j+1)=S j+(b[j]'(by omega)).2*a[j]:=fun j h=>by
  show(((b.zip a).take (j+1)).map _).sum=(((b.zip a).take j).map _).sum+_;rw[fp (by simp;omega)]
  simp
 have y:QP b a=S a.length:=by
  show _=(((b.zip a).take a.length).map _).sum;rw[bj (by simp;omega)];rfl
 refine Loop.upto (fun i=>(S i,a,((a.length:Nat):Int),(i:Int),d,li,ga,fa,b,())) (fun i=>0<=S i/\S i<=100*(i:Int)) a.length rfl ⟨by show(0:Int)<=0;decide,by show(0:Int)<=0;decide⟩ ?_ ?_
 .intro j z o q m;dsimp only;rw[m5];refine⟨fun _=>?_,fun h=>absurd o (by omega)⟩
  try simp only[cu]
  have r:j<b.length:=by omega
  obtain⟨-,-,A⟩:=v _ (cf r);change 1<=b[j].2/\b[j].2<=100 at A;have B:a[j]=0\/a[j]=1:=by
   rw[ib]at l;have:=l _ (cf o);simp[B7]at this;omega
  have e:=w j o;have s:0<=b[j].2*a[j]/\b[j].2*a[j]<=100:=by rcases B with g|g<;>rw[g]<;>omega
  have p:b.length<=12:=p;refine⟨⟨by omega,by omega⟩,⟨by omega,r⟩,B5 (by omega) (by omega),B5 (by omega) (by omega),B5 (by omega) (by omega),?_⟩
  have l:=m (by rw[e];omega)
  rw[e]at l;exact l
 .intro K H;dsimp only;rw[m5];refine⟨fun h=>absurd h (by omega),fun _=>?_⟩
  rw[y]at c;exact c
theorem k20(g:Good Tryz.prog (u0 [])):v20.Kept Tryz.prog 20:=by
 rintro⟨d,li,ga,fa,e,a,b,heat,c,⟨⟩⟩ f k h;change Int at d li ga fa;change List Hr at e;change Int at a;change Int at b heat c;refine W0 m4 g Tryz.func20 b2D (Eq.mpr (b2C d li ga fa e a b heat c k) ?_);unfold a8F;exact h
theorem k53(v:Good Tryz.prog (u0 [(55,X8 [QN])])):v53.Kept Tryz.prog 53:=by
 rintro⟨p,li,ga,fa,d,c,a,heat,b,⟨⟩⟩ l k m;change Int at p li ga fa;change List Hr at d;change Int at c;change Int at a heat b;refine W0 m4 v Tryz.func53 b2F (Eq.mpr (b2E p li ga fa d c a heat b k) ?_);unfold a8G;obtain⟨w,hh,q⟩:=l;obtain⟨E,F,x,y,G,I,z⟩:=w;change 1<=ga/\ga<=40 at x;change 1<=fa/\fa<=40 at y;change 0<=a/\a.toNat<d.length at hh;change 0<=heat/\heat<=40 at q;replace m:k (.O1 0 false) [.sl ZR (N5 ga fa heat (V2 d a) b)]:=m;have A:V2 d a=d[a.toNat]'hh.2:=by
  unfold V2;rw[cw,ag hh.2];rfl
 obtain⟨B,m2,r⟩:=z _ (cf hh.2);rw[A]at m;refine⟨hh,?_⟩;generalize d[a.toNat]'hh.2=H at m B m2 r;change 0<=H.1.2/\H.1.2<=40 at m2;change 1<=H.2/\H.2<=100 at r
 let S:=fun(i:Nat)=>((([0,1]:List Int).take i).map (gR ga fa heat H)).filter fun s=>decide (s.2.2<=b)
 refine Loop.upto (fun i=>(p,li,ga,fa,d,c,a,heat,b,(i:Int),p,li,ga,fa,d,c,a,heat,b,H.1.1,H.1.2,H.2,S i,())) (fun i=>(S i).length<=i) 2 rfl (by simp[S]) ?_ ?_
 .intro j C D t f;dsimp only;rw[m5];refine⟨fun _=>?_,fun h=>absurd D (by omega)⟩
  try simp only[cu]
  have n:j=0\/j=1:=by omega
  have e:S (j+1)=S j++(if decide (l7 ga fa heat H.1.2 (j:Int)<=b)then [((j:Int),H.2*(j:Int),l7 ga fa heat H.1.2 (j:Int))]else []):=by
   rcases n with rfl|rfl
   .simp only[S,gR,List.take,List.map,il,List.filter_nil];split<;>simp_all
   .simp only[S,gR,List.take,List.map,il,List.filter_nil];split<;>split<;>simp_all
  have u:0<=H.2*(j:Int)/\H.2*(j:Int)<=100:=by rcases n with rfl|rfl<;>simp<;>omega
  refine⟨B5 (by omega) (by omega),SD ⟨by omega,by omega⟩ ⟨by omega,by omega⟩ ⟨by omega,by omega⟩ ⟨by omega,by omega⟩,?_⟩
  rw[SB];refine⟨fun g=>⟨?_,B5 (by omega) (by omega),?_⟩,fun g=>⟨B5 (by omega) (by omega),?_⟩⟩
  .simp only[bq,eh,At];omega
  .rw[g,aj rfl]at e;have o:=f (by rw[e];simp;omega)
   rw[e]at o;exact o
  .rw[g,ai (by simp),bf]at e
   have o:=f (by rw[e];omega)
   rw[e]at o;exact o
 .intro K J;dsimp only;rw[m5];refine⟨fun h=>absurd h (by omega),fun _=>?_⟩
  exact m
theorem k19(g:Good Tryz.prog (u0 [(53,X8 [v53])])):v19.Kept Tryz.prog 19:=by
 rintro⟨e,li,ga,fa,f,a,b,heat,c,⟨⟩⟩ d k h;change Int at e li ga fa;change List Hr at f;change Int at a;change Int at b heat c;refine W0 m4 g Tryz.func19 b2H (Eq.mpr (b2G e li ga fa f a b heat c k) ?_);unfold a8H;exact⟨d,h⟩
end Go.Abs.T2
end
section
open Go.Proofs
set_option maxRecDepth 100000
set_option linter.unusedVariables false
namespace Go.Abs.T2
def a8M(a1 e a g f b:Int)(lo len:Nat)(i:Int)(tab:List Int)(k:a7->List c7->Prop):Prop:=
  (fI (i+1))/\
 ((lo=(0:Nat))/\(((0:Int)<=(i+1))/\((Int.toNat (i+1))<len)))/\
 (((0:Int)<=a)/\(a.toNat<(42:Nat)))/\
 ∃c:((((Int.toNat (i+1))*(42:Nat))+a.toNat)<tab.length),
 (fI (e+(tab[(((Int.toNat (i+1))*(42:Nat))+a.toNat)]'c)))/\
 (fI (i+1))/\
 ((lo=(0:Nat))/\(((0:Int)<=(i+1))/\((Int.toNat (i+1))<len)))/\
 (((0:Int)<=b)/\(b.toNat<(42:Nat)))/\
 ∃d:((((Int.toNat (i+1))*(42:Nat))+b.toNat)<tab.length),
 (fI (f+(tab[(((Int.toNat (i+1))*(42:Nat))+b.toNat)]'d)))/\
 (k (rB (decide ((e+(tab[(((Int.toNat (i+1))*(42:Nat))+a.toNat)]'c))>(f+(tab[(((Int.toNat (i+1))*(42:Nat))+b.toNat)]'d))))) [.box [.sub 2 lo len true],.box [rI i],.sl tI tab])
theorem b2O(a1 a b c d e:Int)(lo len:Nat)(i:Int)(tab:List Int)(k:a7->List c7->Prop):awpG (u0 []) Tryz.prog kt 21 Tryz.f21 (v21.args (a1,a,b,c,d,e,lo,len,i,tab,())) (v21.N4 (a1,a,b,c,d,e,lo,len,i,tab,())) k=a8M a1 a b c d e lo len i tab k:=by kernel_rfl
theorem b2P:(Tryz.f21.body.map Code.j5).getD true=true:=by kernel_rfl
def a8N(l:List NR)(lo len:Nat)(i:Int)(tab:List Int)(k:a7->List c7->Prop):Prop:=
  (((0:Int)<=(0:Int))/\((Int.toNat (0:Int))<l.length))/\
 ∃r:((Int.toNat (0:Int))<l.length),
 (((0:Int)<=(1:Int))/\((1:Int)<=(l.length:Int)))/\
 LP ((Int.toNat (1:Int)),(l.length- (Int.toNat (1:Int))),(((l.length- (Int.toNat (1:Int))):Nat):Int),(0:Int),lo,len,i,(0:Int),(0:Int),(0:Int),(l[(Int.toNat (0:Int))]'r).1,(l[(Int.toNat (0:Int))]'r).2.1,(l[(Int.toNat (0:Int))]'r).2.2,l,tab,()) (fun s (a,b,c,d,e,f,g,i,j,l,m,n,o,p,q,())=>
 br (decide (d<c))
 ((0<=d/\d.toNat<b)/\
 ∃h:((a+d.toNat)<p.length),
 (v21.p ((p[(a+d.toNat)]'h).1,(p[(a+d.toNat)]'h).2.1,(p[(a+d.toNat)]'h).2.2,m,n,o,e,f,g,q,()))/\
 br (decide ((Y7 q g ((p[(a+d.toNat)]'h).1,(p[(a+d.toNat)]'h).2.1,(p[(a+d.toNat)]'h).2.2))>(Y7 q g (m,n,o))))
 ((fI (d+1))/\
 (s (a,b,c,(d+1),e,f,g,i,j,l,(p[(a+d.toNat)]'h).1,(p[(a+d.toNat)]'h).2.1,(p[(a+d.toNat)]'h).2.2,p,q,())))
 ((fI (d+1))/\
 (s (a,b,c,(d+1),e,f,g,i,j,l,m,n,o,p,q,()))))
 (k (.agg [rI m,rI n,rI o]) [.sl ZR p,.box [.sub 3 e f true],.box [rI g],.sl tI q]))
theorem b2Q(l:List NR)(lo len:Nat)(i:Int)(tab:List Int)(k:a7->List c7->Prop):awpG (u0 [(21,mkG [v21])]) Tryz.prog kt 18 Tryz.f18 (v18.args (l,lo,len,i,tab,())) (v18.N4 (l,lo,len,i,tab,())) k=a8N l lo len i tab k:=by kernel_rfl
theorem b2R:(Tryz.f18.body.map Code.j5).getD true=true:=by kernel_rfl
def vc6(q li ga fa:Int)(h:List Hr)(k:a7->List c7->Prop):Prop:=
  (v17.p (q,li,ga,fa,h,()))/\
 br (decide ((F8 q li ga fa h)=0))
 ((((0:Nat)=(0:Nat))/\(((0:Int)<=(0:Int))/\((Int.toNat (0:Int))<(h.length+(1:Nat)))))/\
 ((0:Nat)=(0:Nat))/\
 ((((Int.toNat (0:Int))*(42:Nat))+(42:Nat))<=(List.length (qA li ga fa h)))/\
 ((List.length (List.take (42:Nat) (List.drop ((Int.toNat (0:Int))*(42:Nat)) (qA li ga fa h))))=(eY Tryz.prog (58:Nat)))/\
 ((List.length (List.replicate (42:Nat) (Int.ofNat 0)))=(eY Tryz.prog (58:Nat)))/\
 br ((List.take (42:Nat) (List.drop ((Int.toNat (0:Int))*(42:Nat)) (qA li ga fa h)))==(List.replicate (42:Nat) (Int.ofNat 0)))
 ((((0:Int)<=(h.length:Int))/\(((h.length:Int)=(h.length:Int))/\((h.length:Int)<=((At:Nat):Int))))/\
 (k (.M1 [.O1 0 false,rI 0]) [.sl tI (List.replicate (Int.toNat (h.length:Int)) (Int.ofNat 0))]))
 (LP (q,li,ga,fa,h,(0:Int),q,(h.length:Int),(0:Int),(0:Nat),(h.length+(1:Nat)),([]:List Int),(qA li ga fa h),()) (fun r (a,b,c,d,e,f,g,i,j,l,m,n,o,())=>
 br (decide (j<i))
 ((v20.p (a,b,c,d,e,f,j,g,b,()))/\
 (v19.p (a,b,c,d,e,f,j,g,b,()))/\
 (v18.p ((N5 c d g (V2 e j) b),l,m,j,o,()))/\
 (((0:Int)<=j)/\((j<=(n.length:Int))/\(j=j)))/\
 ((j.toNat+(List.length [(dG o j (N5 c d g (V2 e j) b)).1]))<=At)/\
 ((0:Nat)<(List.length [(dG o j (N5 c d g (V2 e j) b)).1]))/\
 (fI (j+1))/\
 (r (a,b,c,d,e,f,(dG o j (N5 c d g (V2 e j) b)).2.2,i,(j+1),l,m,((List.take j.toNat (List.drop (0:Nat) n))++ [(dG o j (N5 c d g (V2 e j) b)).1]),o,())))
 (k (.M1 [.O1 0 false,rI 0]) [.sl tI n]))))
 (br ((F8 q li ga fa h) !=0)
 (k (.M1 [.O1 0 false,rI (F8 q li ga fa h)]) [.sl tI ([]:List Int)])
 (False))
theorem eq6(a li ga fa:Int)(b:List Hr)(k:a7->List c7->Prop):awpF (u0 [(17,mkG [v17]),(18,mkP v18),(20,X8 [v20]),(19,X8 [v19])]) Tryz.prog kt 6 false Tryz.f6 (v6.args (a,li,ga,fa,b,())) (v6.N4 (a,li,ga,fa,b,())) k=vc6 a li ga fa b k:=by kernel_rfl
theorem tx6:(Tryz.f6.body.map Code.j5).getD true=true:=by kernel_rfl
end Go.Abs.T2
end
section
open Go.Proofs
set_option maxRecDepth 100000
set_option linter.unusedVariables false
namespace Go.Abs.T2
theorem DU{l:List Int}{lo hi:Int}(h:YW lo hi l){i:Nat}(a:i<l.length):lo<=l[i]/\l[i]<=hi:=h _ (cf a)
theorem getD_eq{l:List Int}{i:Nat}(h:i<l.length):l.getD i 0=l[i]:=by
 rw[cw,ag h];rfl
theorem k21(u:Good Tryz.prog (u0 [])):v21.Kept Tryz.prog 21:=by
 rintro⟨a1,c,a,h,d,b,lo,len,i,tab,⟨⟩⟩ e k j;change Int at a1 c a h d b;change Nat at lo len;change Int at i;change List Int at tab;refine Gn m4 u Tryz.func21 b2P (Eq.mpr (b2O a1 c a h d b lo len i tab k) ?_);unfold a8M;obtain⟨⟨l,f,m⟩,⟨n,g,o⟩,p,v,q,w,x,r⟩:=e;change 0<=c/\c<=1000000 at l;change 0<=a at f;change a<42 at m;change 0<=d/\d<=1000000 at n;change 0<=b at g;change b<42 at o;change lo=0 at p;change 0<=i at v;change (i+1).toNat<len at q;change len<=1000 at w;change len*42<=tab.length at x;change YW (-1000000) 1000000 tab at r;replace j:k (rB (decide (Y7 tab i (a1,c,a)>Y7 tab i (h,d,b)))) (cT lo len i tab):=j;have s:(i+1).toNat*42+a.toNat<tab.length:=by omega
 have t:(i+1).toNat*42+b.toNat<tab.length:=by omega
 have A:=DU r s;have B:=DU r t;have y:Y7 tab i (a1,c,a)=c+tab[(i+1).toNat*42+a.toNat]:=by
  unfold Y7;rw[getD_eq s]
 have z:Y7 tab i (h,d,b)=d+tab[(i+1).toNat*42+b.toNat]:=by
  unfold Y7;rw[getD_eq t]
 rw[y,z]at j;exact⟨B5 (by omega) (by omega),⟨p,by omega,q⟩,⟨f,by omega⟩,s,B5 (by omega) (by omega),B5 (by omega) (by omega),⟨p,by omega,q⟩,⟨g,by omega⟩,t,B5 (by omega) (by omega),j⟩
theorem k18(w:Good Tryz.prog (u0 [(21,mkG [v21])])):v18.Kept Tryz.prog 18:=by
 rintro⟨l,lo,len,i,tab,⟨⟩⟩ d k p;change List NR at l;change Nat at lo len;change Int at i;change List Int at tab;refine Gn m4 w Tryz.func18 b2R (Eq.mpr (b2Q l lo len i tab k) ?_);unfold a8N;obtain⟨⟨r,y,q⟩,t⟩:=d;change 1<=l.length at r;change l.length<=10 at y;change ∀s∈l,inS s at q;change inT lo len i tab at t
 let f:NR->NR->NR:=fun o x=>if Y7 tab i x>Y7 tab i o then x else o
 let S:=fun(j:Nat)=>((l.drop 1).take j).foldl f (l[0]'(by omega))
 have z:∀j (h:j<l.length- 1),S (j+1)=f (S j) (l[1+j]'(by omega)):=fun j h=>by
  show((l.drop 1).take (j+1)).foldl f _=f (((l.drop 1).take j).foldl f _) _;rw[fp (by simp;omega),ou]
  simp[ez]
 have A:dG tab i l=S (l.length- 1):=by
  show _=((l.drop 1).take (l.length- 1)).foldl f _;rw[bj (by simp)]
  unfold dG;congr 1;cases l with
  |nil=>simp at r
  |cons a l=>rfl
 replace p:k (.agg [rI (dG tab i l).1,rI (dG tab i l).2.1,rI (dG tab i l).2.2]) [.sl ZR l,.box [.sub 3 lo len true],.box [rI i],.sl tI tab]:=p;refine⟨⟨by decide,by show 0<l.length;omega⟩,by show 0<l.length;omega,⟨by decide,by omega⟩,?_⟩
 refine Loop.upto (fun j=>(1,l.length- 1,((l.length- 1:Nat):Int),(j:Int),lo,len,i,0,0,0,(S j).1,(S j).2.1,(S j).2.2,l,tab,())) (fun j=>inS (S j)) (l.length- 1) rfl (q _ (cf _)) ?_ ?_
 .intro j B u b c;dsimp only;rw[m5];refine⟨fun _=>?_,fun h=>absurd u (by omega)⟩
  try simp only[cu]
  have e:=z j u;have v:=q _ (cf (show 1+j<l.length by omega))
  refine⟨⟨by omega,by omega⟩,by omega,⟨v,b,t⟩,?_⟩
  rw[m5];refine⟨fun g=>⟨B5 (by omega) (by omega),?_⟩,fun g=>⟨B5 (by omega) (by omega),?_⟩⟩
  .have m:S (j+1)=l[1+j]:=by rw[e];exact aj g
   have n:=c (by rw[m];exact v)
   rw[m]at n;exact n
  .have m:S (j+1)=S j:=by rw[e];exact ai g
   have n:=c (by rw[m];exact b)
   rw[m]at n;exact n
 .intro K C;dsimp only;rw[m5];refine⟨fun h=>absurd h (by omega),fun _=>?_⟩
  rw[A]at p;exact p
theorem k17(q:Good Tryz.prog (u0 [(50,X8 [ZS]),(51,X8 [ZT]),(52,mkG [v52])])):v17.Kept Tryz.prog 17:=by
 rintro⟨b,li,ga,fa,a,⟨⟩⟩ c k l;change Int at b li ga fa;change List Hr at a;refine Gn m4 q Tryz.func17 b2L (Eq.mpr (b2K b li ga fa a k) ?_);unfold a8L;have f:a.length<=1000:=c;have i:F8 b li ga fa a=0->k (.M1 [.G7 (GP b li ga fa a 0),.sub 0 0 (a.length+1) true,rI 0]) [.sl tI (qA li ga fa a)]:=fun h=>((m5 _ _ _).1 l).1 h
 have m:∀e,F8 b li ga fa a=e->e≠0->k (.M1 [.s6 gE,.R2 .bool,rI e]) []:=fun e h r=>by subst h;exact((m5 _ _ _).1 l).2 r
 have n:∀h:I4 b li ga fa a []=0,F8 b li ga fa a=if lB b li ga fa 0 a (List.replicate a.length 0) true 0 then 0 else 13:=fun h=>by unfold F8;rw[ai (by rw[h];simp)]
 refine⟨⟨f,by show(0:Nat)<=10;decide,fun p s=>by cases s⟩,?_⟩
 rw[m5];refine⟨fun h=>?_,fun h=>?_⟩
 .have j:P0 b li ga fa a=0:=by
   unfold I4 at h;split at h
   .exact absurd h ‹_›
   .rename_i j;simpa using j
  have o:=(DT j).1;refine⟨⟨by omega,rfl,by simp only[At];omega⟩,⟨o,dt,by show(0:Int)<=0;decide⟩,?_⟩
  rw[YX];refine⟨fun g=>m 13 ?_ (by decide),fun g=>⟨o,i ?_⟩⟩
  .rw[n h,ai (by rw[show lB b li ga fa 0 a (List.replicate a.length 0) true 0=false from g];simp)]
  .rw[n h,aj (show lB b li ga fa 0 a (List.replicate a.length 0) true 0=true from g)]
 .rw[BS];exact⟨fun d=>m _ (by unfold F8;rw[aj d]) d,fun d=>absurd d h⟩
end Go.Abs.T2
end
section
open Go.Proofs
set_option maxRecDepth 100000
set_option linter.unusedVariables false
namespace Go.Abs.T2
theorem QR(b i:Int):GN b i=0\/GN b i=1:=by
 unfold GN aZ;have e:(BitVec.ofInt IntKind.u16.bits (AA .u16 b i) &&& BitVec.ofInt IntKind.u16.bits 1).toNat=(BitVec.ofInt IntKind.u16.bits (AA .u16 b i)).toNat % 2:=by
  rw[BitVec.toNat_and,show(BitVec.ofInt IntKind.u16.bits 1).toNat=1 from by decide,Nat.and_one_is_mod]
 simp only;rw[e];rcases Nat.mod_two_eq_zero_or_one (BitVec.ofInt IntKind.u16.bits (AA .u16 b i)).toNat with g|g<;>rw[g]
 .exact .inl (by decide)
 .exact .inr (by decide)
theorem xE{b li ga fa:Int}{a:List Hr}(h:G6 b li ga fa a=0):(1<=a.length/\a.length<=12)/\(0<=li/\li<=40)/\(0<=b/\b<=li)/\(1<=ga/\ga<=40)/\(1<=fa/\fa<=40)/\∀x∈a,(0<=x.1.1/\x.1.1<=x.1.2)/\(0<=x.1.2/\x.1.2<=40)/\(1<=x.2/\x.2<=100):=by
 unfold G6 at h;split at h
 .cases h
 rename_i l;split at h
 .cases h
 rename_i c;split at h
 .cases h
 rename_i d;simp only[ke,qi,SC]at c;obtain⟨e,f,i,j⟩:=c;refine⟨by omega,e,f,i,j,fun x k=>?_⟩
 have:=mt (fun g=>ij.2 ⟨x,k,g⟩) d
 unfold eE at this;simp only[nf,mw,Bool.not_eq_false',SC]at this;omega
theorem k7(u:Good Tryz.prog (u0 [(10,X8 [v10])])):v7.Kept Tryz.prog 7:=by
 rintro⟨c,li,ga,fa,a,bits,⟨⟩⟩ f k r;change Int at c li ga fa;change List Hr at a;change Int at bits;refine W0 m4 u Tryz.func7 tx7 (Eq.mpr (eq7 c li ga fa a bits k) ?_);unfold vc7;obtain⟨v,D⟩:=f;obtain⟨E,F,w,G,H,x⟩:=xE (show G6 c li ga fa a=0 from v);replace r:k (.O1 0 false) [.sl tI (aG c li ga fa a bits).1]:=r
 let S:=fun(i:Nat)=>(a.zipIdx.take i).foldl (sK li ga fa bits) ([],c)
 have y:∀j (h:j<a.length),S (j+1)=sK li ga fa bits (S j) (a[j],j):=fun j h=>by
  show(a.zipIdx.take (j+1)).foldl _ _=sK _ _ _ _ ((a.zipIdx.take j).foldl _ _) _;rw[fp (by simp;omega),ou]
  simp
 have z:aG c li ga fa a bits=S a.length:=by
  show _=(a.zipIdx.take a.length).foldl _ _;rw[bj (by simp)];rfl
 refine Loop.upto (fun i=>(bits,(S i).2,(i:Int),c,li,ga,fa,a,(S i).1,())) (fun i=>(0<=(S i).2/\(S i).2<=40)/\(S i).1.length=i) a.length rfl ⟨⟨w.1,by show c<=40;omega⟩,rfl⟩ ?_ ?_
 .intro j A s l d;dsimp only;rw[m5];refine⟨fun _=>?_,fun h=>absurd s (by omega)⟩
  try simp only[cu]
  obtain⟨B,C⟩:=l;have I:=x _ (cf s);have e:=y j s;have b:∀g:Int,v10.p (c,(li,(ga,(fa,(a,((S j).2,(a[j].1.2,(g,())))))))):=fun g=>⟨⟨by show(0:Int)<=ga;omega,by show ga<=1000;omega⟩,⟨by show(0:Int)<=fa;omega,by show fa<=1000;omega⟩,⟨by show(-1000:Int)<=(S j).2;omega,by show(S j).2<=1000;omega⟩,⟨by show(-1000:Int)<=a[j].1.2;omega,by show a[j].1.2<=1000;omega⟩⟩
  have m:=QR bits (j:Int);have n:dJ .i64 (GN bits (j:Int)):=by rcases m with g|g<;>rw[g]<;>exact B5 (by decide) (by decide)
  have rest:0<=l7 ga fa (S j).2 a[j].1.2 0/\l7 ga fa (S j).2 a[j].1.2 0<=40:=by
   unfold l7;rw[ai (by decide),fh];split<;>omega
  have t:∀g,0<=l7 ga fa (S j).2 a[j].1.2 g:=fun g=>by
   unfold l7;rw[fh,fh];split<;>split<;>omega
  refine⟨⟨by omega,s⟩,by omega,n,b 1,?_⟩
  rw[m5];refine⟨fun g=>⟨by simp only[bq,eh,At];omega,b 0,B5 (by omega) (by omega),?_⟩,fun g=>⟨by simp only[bq,eh,At];omega,b _,B5 (by omega) (by omega),?_⟩⟩
  .have o:S (j+1)=((S j).1++ [0],l7 ga fa (S j).2 a[j].1.2 0):=by
    rw[e];unfold sK;simp only[aj g]
   have q:=d (by rw[o];exact⟨rest,by simp;omega⟩)
   rw[o]at q;exact q
  .have o:S (j+1)=((S j).1++ [GN bits (j:Int)],l7 ga fa (S j).2 a[j].1.2 (GN bits (j:Int))):=by
    rw[e];unfold sK;simp only[ai g]
   have q:=d (by
    rw[o];refine⟨⟨t _,?_⟩,by simp;omega⟩
    rcases m with g2|g2
    .rw[g2];exact rest.2
    .rw[g2];show l7 ga fa (S j).2 a[j].1.2 1<=40;omega)
   rw[o]at q;exact q
 .intro K J;dsimp only;rw[m5];refine⟨fun h=>absurd h (by omega),fun _=>?_⟩
  rw[z]at r;exact r
theorem GQ(ga fa a:Int)(b:Bool)(y:Int):∀ (l:List (Hr×Int)) (s:List Int×Int),y∈s.1->y∈(l.foldl (bM ga fa a b) s).1
 |[],s,h=>h
 |x::l,s,h=>GQ ga fa a b y l _ (by simp only[bM];exact ej _ h)
theorem GR(ga fa:Int):∀ (l:List (Hr×Int)) (s:List Int×Int),(∀x∈l,x.2=0)->∀x∈l,∃y∈(l.foldl (bM ga fa 0 true) s).1,x.1.1.2<=y
 |[],s,_,x,h=>by cases h
 |a::l,s,b,x,h=>by
  rcases av.1 h with rfl|h
  .refine⟨_,GQ ga fa 0 true _ l _ (dz _ (cb.2 rfl)),?_⟩;rw[b _ (ar ..)];unfold l7;rw[ai (by decide),aj rfl,fh]
   split<;>omega
  .exact GR ga fa l _ (fun y c=>b y (al _ c)) x h
theorem GS{d li ga fa:Int}{a:List Hr}(h:F8 d li ga fa a=0):P0 d li ga fa a=0/\∀x∈a,x.1.2<=li:=by
 unfold F8 at h;split at h
 .exact absurd h ‹_›
 rename_i b;split at h
 rotate_left
 .cases h
 rename_i e;have b:I4 d li ga fa a []=0:=by simpa using b
 refine⟨?_,fun x f=>?_⟩
 .unfold I4 at b;split at b
  .exact absurd b ‹_›
  .rename_i g;simpa using g
 .unfold lB lM at e;rw[ji,dx]at e;obtain⟨i,n,rfl⟩:=iw f;have j:(a[i],(0:Int))∈a.zip (List.replicate a.length 0):=by
   have k:i<(a.zip (List.replicate a.length (0:Int))).length:=by simp;omega
   have:=cf k;simpa using this
  obtain⟨y,l,c⟩:=GR ga fa _ ([],d) (fun z m=>nr (List.of_mem_zip m).2) _ j
  have:=X3 e y l;have c:a[i].1.2<=y:=c;omega
theorem CZ{α:Type}(f:α->Int)(C:Int):∀ (l:List α) (m:Int),m<=C->(∀s∈l,f s<=C)->l.foldl (fun m s=>max m (f s)) m<=C
 |[],m,h,_=>h
 |a::l,m,h,b=>CZ f C l _ (by show max m (f a)<=C;have:=b a (ar ..);omega) (fun s c=>b s (al _ c))
theorem BU{ga fa heat lim:Int}{H:Hr}{s:NR}(h:s∈N5 ga fa heat H lim):((s=gR ga fa heat H 0)\/(s=gR ga fa heat H 1))/\s.2.2<=lim:=by
 unfold N5 at h;rw[ft]at h;obtain⟨a,b⟩:=h;simp only[az,lj,av,List.not_mem_nil,or_false]at a;exact⟨a,by simpa using b⟩
theorem a1L{l:List Int}{B:Int}(a:0<=B)(h:YW 0 B l)(i:Nat):0<=l.getD i 0/\l.getD i 0<=B:=by
 rcases bh i l.length with g|g
 .rw[getD_eq g];exact DU h g
 .rw[cw,an g];exact⟨by decide,a⟩
theorem Za{li ga fa heat B:Int}{H:Hr}{next:List Int}(a:0<=B)(c:1<=H.2/\H.2<=100)(h:YW 0 B next):jZ li ga fa H next heat<=B+100:=by
 refine CZ _ _ _ _ (by omega) fun s b=>?_
 have:=a1L a h s.2.2.toNat;rcases(BU b).1 with e|e<;>rw[e]at this ⊢ <;>simp only[gR]at this ⊢ <;>omega
theorem SE(li ga fa:Int)(H:Hr)(next:List Int):(NS li ga fa H next).length=42:=by simp[NS]
theorem Aq(li ga fa:Int):∀ (hs:List Hr),(∀x∈hs,1<=x.2/\x.2<=100)->(dF li ga fa hs).length=hs.length+1/\∀r∈dF li ga fa hs,r.length=42/\YW 0 (100*(hs.length:Int)) r
 |[],_=>⟨rfl,fun r b=>by
  rw[show dF li ga fa []=[iA]from rfl,cb]at b;subst b
  exact⟨rfl,fun x a=>by rw[nr a];exact⟨by decide,by decide⟩⟩⟩
 |H::hs,h=>by
  obtain⟨c,g2⟩:=Aq li ga fa hs fun x a=>h x (al _ a)
  have d:=h H (ar ..);have hd:YW 0 (100*(hs.length:Int)) ((dF li ga fa hs).headD []):=by
   cases e:dF li ga fa hs with
   |nil=>intro x a;cases a
   |cons r k=>exact(g2 r (by rw[e];exact ar ..)).2
  have f:dF li ga fa (H::hs)=NS li ga fa H ((dF li ga fa hs).headD [])::dF li ga fa hs:=rfl;rw[f];refine⟨by rw[bq,c,bq],fun r b=>?_⟩
  rcases av.1 b with rfl|b
  .refine⟨SE ..,fun x a=>?_⟩
   unfold NS at a;obtain⟨i,l,rfl⟩:=cd.1 a;have:=Za (li:=li) (ga:=ga) (fa:=fa) (heat:=(i:Int)) (by omega) d hd
   simp only[bq];split<;>omega
  .obtain⟨g,j⟩:=g2 r b;exact⟨g,fun x a=>by have:=j x a;simp only[bq];omega⟩
theorem NW:∀ (l:List (List Int)),(∀r∈l,r.length=42)->l.flatten.length=l.length*42
 |[],_=>rfl
 |r::l,h=>by
  rw[gb,bu,h r (ar ..),NW l fun x a=>h x (al _ a),bq]
  omega
theorem SF{li ga fa:Int}{a:List Hr}(h:∀x∈a,1<=x.2/\x.2<=100):(qA li ga fa a).length=(a.length+1)*42:=by
 obtain⟨b,g2⟩:=Aq li ga fa a h;unfold qA;rw[NW _ (fun r c=>(g2 r c).1),b]
theorem a5e{li ga fa:Int}{a:List Hr}(h:∀x∈a,1<=x.2/\x.2<=100):YW 0 (100*(a.length:Int)) (qA li ga fa a):=by
 obtain⟨d,g2⟩:=Aq li ga fa a h;intro x b;obtain⟨r,c,b⟩:=qp.1 b;exact(g2 r c).2 x b
theorem NX(tab:List Int)(i:Int):∀ (l:List NR),l≠ []->dG tab i l∈l
 |[],h=>absurd rfl h
 |a::l,_=>by
  unfold dG;show l.foldl _ a∈a::l;have:∀ (b:List NR) (o:NR) (L:List NR),o∈L->(∀x∈b,x∈L)->b.foldl (fun o x=>if Y7 tab i x>Y7 tab i o then x else o) o∈L:=by
   intro b
   induction b with
   |nil=>intro o L h _;exact h
   |cons x b d=>
    intro o L h c;refine d _ L ?_ (fun y e=>c y (al _ e))
    show(if Y7 tab i x>Y7 tab i o then x else o)∈L
    split
    .exact c x (ar ..)
    .exact h
  exact this l a (a::l) (ar ..) (fun x f=>al _ f)
theorem a3n:eY Tryz.prog 58=42:=by kernel_rfl
theorem k6(I:Good Tryz.prog (u0 [(17,mkG [v17]),(18,mkP v18),(20,X8 [v20]),(19,X8 [v19])])):v6.Kept Tryz.prog 6:=by
 rintro⟨c,li,ga,fa,a,⟨⟩⟩ m k C;change Int at c li ga fa;change List Hr at a;refine W0 m4 I Tryz.func6 tx6 (Eq.mpr (eq6 c li ga fa a k) ?_);unfold vc6;have J:G6 c li ga fa a=0:=m;obtain⟨b0,b1,L,b3,b4,D⟩:=xE J;have u:F8 c li ga fa a=0->k (.M1 [.O1 0 false,rI 0]) [.sl tI (kA c li ga fa a)]:=fun h=>((m5 _ _ _).1 C).1 h
 have M:F8 c li ga fa a≠0->k (.M1 [.O1 0 false,rI (F8 c li ga fa a)]) [.sl tI []]:=fun h=>((m5 _ _ _).1 C).2 h
 refine⟨by show a.length<=1000;omega,?_⟩
 rw[m5];refine⟨fun h=>?_,fun h=>?_⟩
 rotate_left
 .rw[BS];exact⟨fun v=>M v,fun v=>absurd v h⟩
 have b:=u h;obtain⟨hM,d⟩:=GS h;obtain⟨N,-⟩:=DT hM;have w:∀x∈a,1<=x.2/\x.2<=100:=fun x y=>(D x y).2.2
 have O:=SF (li:=li) (ga:=ga) (fa:=fa) w;have E:=a5e (li:=li) (ga:=ga) (fa:=fa) w;generalize P:qA li ga fa a=tab at O E;have z:kA c li ga fa a=if tab.take 42=iA then List.replicate a.length 0 else(a.zipIdx.foldl (CY li ga fa tab) ([],c)).1:=by
  unfold kA;rw[P]
 rw[z]at b;refine⟨⟨rfl,by decide,by show 0<a.length+1;omega⟩,rfl,by show 0*42+42<=tab.length;omega,?_,?_,P9 (fun g=>?_) (fun g=>?_)⟩
 .rw[a3n];show(List.take 42 (List.drop (0*42) tab)).length=42;simp;omega
 .rw[a3n,dt]
 .have g:tab.take 42=iA:=eq_of_beq g;rw[aj g]at b;exact⟨⟨by omega,rfl,by simp only[At];omega⟩,b⟩
 have g:¬tab.take 42=iA:=fun g2=>by
  have:(tab.take 42==iA)=true:=by rw[g2];exact pe _
  rw[show(tab.take 42==iA)=false from g]at this;cases this
 rw[ai g]at b
 let S:=fun(i:Nat)=>(a.zipIdx.take i).foldl (CY li ga fa tab) ([],c)
 have R:∀j (h:j<a.length),S (j+1)=CY li ga fa tab (S j) (a[j],j):=fun j h=>by
  show(a.zipIdx.take (j+1)).foldl _ _=CY _ _ _ _ ((a.zipIdx.take j).foldl _ _) _;rw[fp (by simp;omega),ou]
  simp
 have T:a.zipIdx.foldl (CY li ga fa tab) ([],c)=S a.length:=by
  show _=(a.zipIdx.take a.length).foldl _ _;rw[bj (by simp)]
 refine Loop.upto (fun i=>(c,li,ga,fa,a,0,(S i).2,((a.length:Nat):Int),(i:Int),0,a.length+1,(S i).1,tab,())) (fun i=>(0<=(S i).2/\(S i).2<=li)/\(S i).1.length=i) a.length rfl ⟨L,rfl⟩ ?_ ?_
 .intro j U n o p;dsimp only;rw[m5];refine⟨fun _=>?_,fun h=>absurd n (by omega)⟩
  try simp only[cu]
  obtain⟨V,X⟩:=o;have hm:=D _ (cf n);have hr:=d _ (cf n);have e:=R j n;have Y:V2 a (j:Int)=a[j]:=by
   unfold V2;rw[cu,cw,ag n];rfl
  have A:∀g,0<=l7 ga fa (S j).2 a[j].1.2 g:=fun g=>by
   unfold l7;rw[fh,fh];split<;>split<;>omega
  have rest:l7 ga fa (S j).2 a[j].1.2 0<=li:=by
   unfold l7;rw[ai (by decide),fh];split<;>omega
  have all:∀s∈N5 ga fa (S j).2 a[j] li,(0<=s.2.2/\s.2.2<=li)/\inS s:=fun s f=>by
   obtain⟨Z,c2⟩:=BU f;rcases Z with B|B
   all_goals
    have F:0<=s.2.2:=by rw[B];simp only[gR];exact A _
    have h6:0<=s.2.1/\s.2.1<=100:=by rw[B];simp only[gR];omega
    exact⟨⟨F,c2⟩,⟨by show(0:Int)<=s.2.1;omega,by show s.2.1<=1000000;omega⟩,F,by omega⟩
  have q:gR ga fa (S j).2 a[j] 0∈N5 ga fa (S j).2 a[j] li:=by
   unfold N5;rw[ft];exact⟨by simp,by simp only[gR];exact decide_eq_true rest⟩
  have r:(N5 ga fa (S j).2 a[j] li).length<=2:=by
   unfold N5;exact ew (ry ..) (by simp)
  have t:1<=(N5 ga fa (S j).2 a[j] li).length:=List.length_pos_of_mem q;have l:=all _ (NX tab (j:Int) _ (List.ne_nil_of_mem q));have G:S (j+1)=((S j).1++ [(dG tab (j:Int) (N5 ga fa (S j).2 a[j] li)).1],(dG tab (j:Int) (N5 ga fa (S j).2 a[j] li)).2.2):=e;have et:List.take j (List.drop 0 (S j).1)=(S j).1:=by
   rw[ji,bj (by omega)]
  rw[Y];refine⟨trivial,⟨N,⟨by show(0:Int)<=(j:Int);omega,by show(j:Int).toNat<a.length;omega⟩,⟨by show(0:Int)<=(S j).2;omega,by show(S j).2<=40;omega⟩⟩,⟨⟨t,ew r (by decide),fun s f=>(all s f).2⟩,rfl,by show(0:Int)<=(j:Int);omega,by show((j:Int)+1).toNat<a.length+1;omega,by show a.length+1<=1000;omega,by show(a.length+1)*42<=tab.length;omega,fun x y=>by have:=E x y;omega⟩,⟨by omega,by omega,by first|trivial|rfl⟩,by simp only[bq,eh,At];omega,by simp,B5 (by omega) (by omega),?_⟩
  have H:=p (by rw[G];exact⟨l.1,by simp;omega⟩)
  rw[G]at H;rw[et];exact H
 .intro K w;dsimp only;rw[m5];refine⟨fun h=>absurd h (by omega),fun _=>?_⟩
  rw[T]at b;exact b
end Go.Abs.T2
end
section
open Go.Proofs
set_option maxRecDepth 100000
set_option linter.unusedVariables false
namespace Go.Abs.T2
abbrev tP:Ty:=.pair (.int .i64) (.int .i64)
theorem Zc{t:Ty}(a:t.ints=true){l:I2 t}{clk:Nat}{x:t.den}{v:Int}(h:∀e∈l,e.2.1≠x):qI t l clk x v=l++ [(clk,x,v)]/\uG t l clk x=clk+1:=by
 have hh:qH t l x=false:=by
  rw[<-nf,NZ a];rintro⟨e,b,c⟩;exact h e b c
 unfold qI uG;rw[hh];exact⟨rfl,rfl⟩
theorem Jh{t:Ty}(a:t.ints=true){b:Nat}{x:t.den}{w v:Int}:∀ (l:I2 t),(∀e∈l,e.2.1≠x)->BY t x v (l++ [(b,x,w)])=l++ [(b,x,v)]/\lD t (l++ [(b,x,w)]) x=w
 |[],_=>by
  simp only[gq,BY,lD];rw[aj (NY a x),aj (NY a x)];exact⟨rfl,rfl⟩
 |e::l,h=>by
  obtain⟨d,f⟩:=Jh a (b:=b) (w:=w) (v:=v) l fun y g=>h y (al _ g)
  have c:=Zb a (qy (h e (ar ..)));simp only[gy,BY,lD];rw[c];simp only[dq,dw];exact⟨by rw[d],f⟩
theorem US{t:Ty}(a:t.ints=true){l:I2 t}{b:Nat}{x:t.den}{w v:Int}(clk:Nat)(h:∀e∈l,e.2.1≠x):
  qI t (l++ [(b,x,w)]) clk x v=l++ [(b,x,v)]/\uG t (l++ [(b,x,w)]) clk x=clk/\lD t (l++ [(b,x,w)]) x=w:=by
 have hh:qH t (l++ [(b,x,w)]) x=true:=(NZ a _ _).2 ⟨(b,x,w),dz _ (cb.2 rfl),rfl⟩;obtain⟨c,d⟩:=Jh a (b:=b) (w:=w) (v:=v) l h;unfold qI uG;rw[hh];exact⟨c,rfl,d⟩
theorem a1M{l:List (Nat×(Int×Int)×Int)}{clk:Nat}{x:Int×Int}{v:Int}(h:∀e∈l,e.2.1≠x):qI tP l clk x v=l++ [(clk,x,v)]/\uG tP l clk x=clk+1:=Zc (t:=tP) rfl h
theorem Zd{l:List (Nat×(Int×Int)×Int)}{b:Nat}{x:Int×Int}{w v:Int}(clk:Nat)(h:∀e∈l,e.2.1≠x):
 qI tP (l++ [(b,x,w)]) clk x v=l++ [(b,x,v)]/\uG tP (l++ [(b,x,w)]) clk x=clk/\lD tP (l++ [(b,x,w)]) x=w:=US (t:=tP) rfl clk h
theorem BW{li ga fa a:Int}{H:Hr}{next:List Int}{n:Nat}{e:Nat×(Int×Int)×Int}(h:e∈V1 li ga fa a H next n):∃i,i<n/\e=(i,(a,(i:Int)),jZ li ga fa H next (i:Int)):=by
 unfold V1 at h;obtain⟨i,b,rfl⟩:=cd.1 h;exact⟨i,by simpa using b,rfl⟩
theorem QS(li ga fa a:Int)(H:Hr)(next:List Int)(n:Nat):V1 li ga fa a H next (n+1)=V1 li ga fa a H next n++ [(n,(a,(n:Int)),jZ li ga fa H next (n:Int))]:=by
 unfold V1;rw[List.range_succ,nv];rfl
theorem Db{t:Ty}(b:t.ints=true){x:t.den}:∀ {l:I2 t},(l.map (·.2.1)).Nodup->lR t x l=l.filter (fun e=> !(t.beq x e.2.1))
 |[],_=>rfl
 |e::l,h=>by
  rw[az,dn]at h;simp only[lR];by_cases a:t.beq x e.2.1=true
  .rw[aj a,qw (by simp[a])]
   symm
   rw[jq];intro y f;have c:=(beq_eq t _ _ b).1 a;have:x≠y.2.1:=fun g=>h.1 (cd.2 ⟨y,f,by rw[<-g,c]⟩)
   rw[Zb b this];rfl
  .rw[ai a,List.filter_cons_of_pos (by simpa using a),Db b h.2]
theorem b2T(x y:Int×Int):tP.beq x y=decide (y=x):=by
 rw[ff,bt];exact(beq_eq tP x y rfl).trans eq_comm
theorem QT{x:Int×Int}{l:List (Nat×(Int×Int)×Int)}(h:(l.map (·.2.1)).Nodup):lR tP x l=l.filter (fun e=> !(decide (e.2.1=x))):=
 (Db (t:=tP) rfl h).trans (iu fun e _=>congrArg Bool.not (b2T x e.2.1))
def x6(R:List (Nat×(Int×Int)×Int))(seen:List Nat):List (Nat×(Int×Int)×Int):=R.filter fun e=> !(seen.contains e.1 && decide (e.2.2<0))
theorem QU{R:List (Nat×(Int×Int)×Int)}(k:(R.map (·.2.1)).Nodup)(f:∀e∈R,∀c∈R,(e.1=c.1->e=c)/\(e.2.1=c.2.1->e=c))(seen:List Nat){b:Nat×(Int×Int)×Int}(i:b∈R):
  (b.2.2<0->lR tP b.2.1 (x6 R seen)=x6 R (seen++ [b.1]))/\(¬b.2.2<0->x6 R seen=x6 R (seen++ [b.1])):=by
 refine⟨fun h=>?_,fun h=>?_⟩
 .unfold x6;rw[QT (List.Nodup.sublist (List.Sublist.map _ iy) k),nz];apply iu;intro e d;rw[gn,gn];by_cases a:e=b
  .subst a;simp[h]
  .have j:e.1≠b.1:=fun g=>a ((f e d b i).1 g)
   have l:e.2.1≠b.2.1:=fun g=>a ((f e d b i).2 g)
   simp[j,l]
 .unfold x6;apply iu;intro e d;rw[gn,gn];by_cases a:e=b
  .subst a;simp[h]
  .have j:e.1≠b.1:=fun g=>a ((f e d b i).1 g)
   simp[j]
theorem b2U(hG:Good Tryz.prog (u0 [(196,mkG [YY]),(20,X8 [v20]),(55,X8 [QN])])):QQ.Kept Tryz.prog 134:=by
 rintro⟨D,li,ga,fa,f,d,c,next,⟨⟩⟩ F k G
 change Int at D li ga fa;change List Hr at f;change Int at d;change Int at c;change List Int at next
 refine Gn m4 hG Tryz.func134 a8J (Eq.mpr (a8I D li ga fa f d c next k) ?_)
 unfold a3m;obtain⟨hb,hh,I,J⟩:=F;obtain⟨b1,b2,b3,b4,b5,b6,b7⟩:=hb;change 0<=li/\li<=40 at b2;change 1<=ga/\ga<=40 at b3;change 1<=fa/\fa<=40 at b4;change 0<=c/\c.toNat<f.length at hh;change next.length=42 at I
 change YW 0 2000 next at J
 obtain⟨m1,m2,X⟩:=b7 _ (cf hh.2);change 0<=(f[c.toNat]'hh.2).1.2/\(f[c.toNat]'hh.2).1.2<=40 at m2;change 1<=(f[c.toNat]'hh.2).2/\(f[c.toNat]'hh.2).2<=100 at X;have he:V2 f c=f[c.toNat]'hh.2:=by
  unfold V2;rw[cw,ag hh.2];rfl
 let H:Hr:=f[c.toNat]'hh.2
 have m2:0<=H.1.2/\H.1.2<=40:=m2;have X:1<=H.2/\H.2<=100:=X;replace G:k (.B9 0) [.mp mB (pI li ga fa c H next) (li+1).toNat]:=by
  have h0:k (.B9 0) [.mp mB (pI li ga fa c (V2 f c) next) (li+1).toNat]:=G
  rw[he]at h0;exact h0
 obtain⟨N,hN⟩:=od (show 0<=li+1 by omega)
 have L:(li+1).toNat=N:=by omega
 rw[L]at G;refine⟨by rw[I];decide,B5 (by omega) (by omega),?_⟩
 refine Loop.upto (fun i=>(D,li,ga,fa,f,d,c,li+1,(i:Int),next,V1 li ga fa c H next i,i,())) (fun i=>True) N rfl trivial ?_ ?_
 .intro j K_j hj b2V M;dsimp only;rw[m5];refine⟨fun _=>?_,fun h=>absurd hj (by omega)⟩
  try simp only[cu]
  have q:∀e∈V1 li ga fa c H next j,e.2.1≠(c,(j:Int)):=fun e l=>by
   obtain⟨i,hi,rfl⟩:=BW l;intro h;simp only[aq]at h;omega
  obtain⟨q1,q2⟩:=a1M (clk:=j) (v:= -1) q;intro _ Y _ Z;obtain rfl:=Y.trans q1;obtain rfl:=Z.trans q2;refine⟨trivial,hh,?_⟩
  let W:=fun(g:Nat)=>(((([0,1]:List Int).take g).map (gR ga fa (j:Int) H)).filter fun s=>decide (s.2.2<=li)).foldl (fun m s=>max m (s.2.1+next.getD s.2.2.toNat 0)) (-1)
  have low:∀g,0<=l7 ga fa (j:Int) H.1.2 g:=fun g=>by
   unfold l7;rw[fh,fh];split<;>split<;>omega
  refine Loop.upto (fun g=>(D,li,ga,fa,f,d,c,(j:Int),li,(g:Int),D,li,ga,fa,f,d,c,li+1,(j:Int),D,li,ga,fa,f,d,c,(j:Int),li,H.1.1,H.1.2,H.2,next,c,(j:Int),V1 li ga fa c H next j++ [(j,(c,(j:Int)),W g)],j+1,())) (fun g=>True) 2 rfl trivial ?_ ?_
  .intro g K_g hg O r;dsimp only;rw[m5];refine⟨fun _=>?_,fun h=>absurd hg (by omega)⟩
   try simp only[cu]
   have P:g=0\/g=1:=by omega
   have e:W (g+1)=if decide (l7 ga fa (j:Int) H.1.2 (g:Int)<=li)then max (W g) (H.2*(g:Int)+next.getD (l7 ga fa (j:Int) H.1.2 (g:Int)).toNat 0)else W g:=by
    rcases P with rfl|rfl
    .by_cases hd:l7 ga fa (j:Int) H.1.2 0<=li<;>simp[W,gR,hd]
    .by_cases hd:l7 ga fa (j:Int) H.1.2 0<=li<;>by_cases kB:l7 ga fa (j:Int) H.1.2 1<=li<;>simp[W,gR,hd,kB]
   have hmul:0<=H.2*(g:Int)/\H.2*(g:Int)<=100:=by rcases P with rfl|rfl<;>simp<;>omega
   refine⟨B5 (by omega) (by omega),SD ⟨by omega,by omega⟩ ⟨by omega,by omega⟩ ⟨by omega,by omega⟩ ⟨by omega,by omega⟩,?_⟩
   rw[SB];refine⟨fun V=>?_,fun V=>⟨B5 (by omega) (by omega),?_⟩⟩
   .have hle:=mo V;have hl:=low (g:Int);have y:(l7 ga fa (j:Int) H.1.2 (g:Int)).toNat<next.length:=by omega
    have hv:=DU J y;obtain⟨r1,r2,r3⟩:=Zd (b:=j) (x:=(c,(j:Int))) (w:=W g) (v:=max (W g) (H.2*(g:Int)+next.getD (l7 ga fa (j:Int) H.1.2 (g:Int)).toNat 0)) (j+1) q
    refine⟨⟨hl,by omega⟩,y,B5 (by omega) (by omega),?_⟩
    rw[<-getD_eq y];intro _ Y _ Z;obtain rfl:=Y.trans (Eq.trans (by rw[mx];exact congrArg (qI tP _ _ _) (congrArg (max · _) r3)) r1)
    obtain rfl:=Z.trans r2;refine⟨B5 (by omega) (by omega),?_⟩
    rw[V,aj rfl]at e;have u:=r trivial;rw[e]at u;exact u
   .rw[V,ai (by simp)]at e
    have u:=r trivial;rw[e]at u;exact u
  .intro K_g O;dsimp only;rw[m5];refine⟨fun h=>absurd h (by omega),fun _=>?_⟩
   refine⟨B5 (by omega) (by omega),?_⟩
   have u:=M trivial;rw[QS]at u;exact u
 .intro K hp;dsimp only;rw[m5];refine⟨fun h=>absurd h (by omega),fun _=>?_⟩
  refine⟨trivial,?_⟩
  let R:=V1 li ga fa c H next N
  have A:∀e∈R,∃i,i<N/\e=(i,(c,(i:Int)),jZ li ga fa H next (i:Int)):=fun e l=>BW l
  have n:(R.map (·.1))=List.range N:=by
   show(List.map _ (List.map _ _))=_;rw[fm];exact(jn (fun _ _=>rfl)).trans (List.map_id _)
  have B:(R.map (·.2.1)).Nodup:=by
   show(List.map _ (List.map _ _)).Nodup;rw[fm];refine List.Pairwise.map _ (fun a b hab=>?_) pk
   simp only[Function.comp];intro h;simp only[aq]at h;omega
  have C:∀e∈R,∀E∈R,(e.1=E.1->e=E)/\(e.2.1=E.2.1->e=E):=fun e h1 E h2=>by
   obtain⟨i,_,rfl⟩:=A e h1;obtain⟨i',_,rfl⟩:=A E h2;refine⟨fun h=>?_,fun h=>?_⟩
   .have:i=i':=h;rw[this]
   .simp only[aq]at h;have:i=i':=by omega
    rw[this]
  refine Loop.intro (fun x=>∃seen:List Nat,x=(N,seen,N,x6 R seen,N,R,N,())) (fun x=>(mleft tP R x.2.1).length) ?_ ⟨[],?_⟩
  .rintro x K2 ⟨seen,rfl⟩ S;dsimp only;refine⟨⟨fun e l=>?_,aw _⟩,fun T=>?_,fun e p=>⟨⟨rfl,?_⟩,e,⟨(nI.1 p).1,by simp⟩,?_⟩⟩
   .obtain⟨i,hi,rfl⟩:=A e l;exact hi
   .have:x6 R seen=pI li ga fa c H next:=by
     unfold x6 pI;rw[L];apply iu;intro e l;have:=Jg (t:=tP) T l;simp[gn,this]
    rw[<-this]at G;exact G
   .rw[n];exact pk
   .have U:=(nI.1 p).1;obtain⟨l1,l2⟩:=QU B C seen U;rw[m5];refine⟨fun o=>?_,fun o=>?_⟩
    .refine S _ ⟨seen++ [e.1],?_⟩ (xF (t:=tP) p);exact congrArg (fun(z:List (Nat×(Int×Int)×Int))=>(N,seen++ [e.1],N,z,N,R,N,())) (l1 o)
    .refine S _ ⟨seen++ [e.1],?_⟩ (xF (t:=tP) p);exact congrArg (fun(z:List (Nat×(Int×Int)×Int))=>(N,seen++ [e.1],N,z,N,R,N,())) (l2 o)
  .have:x6 R []=R:=by
    unfold x6;rw[jq];intro e _;rfl
   rw[this]
end Go.Abs.T2
end
section
open Go.Proofs
set_option maxRecDepth 100000
set_option linter.unusedVariables false
namespace Go.Abs.T2
theorem Oa(r s:List Int)(p:Nat):(r++s).getD p 0=if p<r.length then r.getD p 0 else s.getD (p- r.length) 0:=by
 rw[cw,cw,cw];split
 .rename_i h;rw[bc h]
 .rename_i h;rw[bd (by omega)]
theorem UT(a p:Nat):(List.replicate a (0:Int)).getD p 0=0:=by
 rw[cw,List.getElem?_replicate];split<;>rfl
theorem Ze(l:List Int)(i:Nat)(v:Int)(h:i<l.length)(p:Nat):(l.set i v).getD p 0=if p=i then v else l.getD p 0:=by
 rw[cw,cw,ir];by_cases a:p=i
 .subst a;simp[h]
 .rw[ai (qy a),ai a]
theorem Zf{l l':List Int}(h:l.length=l'.length)(a:∀p,l.getD p 0=l'.getD p 0):l=l':=by
 refine List.ext_getElem h fun i b c=>?_
 have:=a i;rwa [getD_eq b,getD_eq c]at this
def gS(li ga fa:Int)(a:List Hr)(q:Nat):List Int:=List.replicate (q*42) 0++(dF li ga fa (a.drop q)).flatten
theorem GU(li ga fa:Int)(a:List Hr)(q p:Nat):(gS li ga fa a q).getD p 0=if p<q*42 then 0 else(dF li ga fa (a.drop q)).flatten.getD (p- q*42) 0:=by
 unfold gS;rw[Oa,dt,UT]
theorem Zg(li ga fa:Int)(H:Hr)(next:List Int)(i:Nat)(h:i<42):(NS li ga fa H next).getD i 0=if(i:Int)<=li/\0<=jZ li ga fa H next (i:Int)then jZ li ga fa H next (i:Int)else 0:=by
 unfold NS;rw[cw,bo,fy h];rfl
theorem k52(hG:Good Tryz.prog (u0 [(134,X8 [QQ])])):v52.Kept Tryz.prog 52:=by
 rintro⟨B,li,ga,fa,hs,more,⟨⟩⟩ D k S;change Int at B li ga fa;change List Hr at hs;change Int at more;refine Gn m4 hG Tryz.func52 b2J (Eq.mpr (b2I B li ga fa hs more k) ?_);unfold a8K;obtain⟨b1,b2,b3,b4,b5,b6,T⟩:=D;have hb:okB B li ga fa hs more:=⟨b1,b2,b3,b4,b5,b6,T⟩;change 0<=li/\li<=40 at b2;change hs.length<=12 at b6;change ∀h∈hs,(0<=h.1.1/\h.1.1<=40)/\(0<=h.1.2/\h.1.2<=40)/\(1<=h.2/\h.2<=100)at T;replace S:k (.sub 0 0 (hs.length+1) true) [.sl tI (qA li ga fa hs)]:=S;have U:∀q,∀x∈hs.drop q,1<=x.2/\x.2<=100:=fun q x C=>(T x (List.mem_of_mem_drop C)).2.2
 have d:∀q,q<=hs.length->(gS li ga fa hs q).length=(hs.length+1)*42:=fun q hq=>by
  have n:=SF (li:=li) (ga:=ga) (fa:=fa) (U q);unfold qA at n;unfold gS;rw[bu,dt,n,cv];omega
 obtain⟨N,hN⟩:=od (show 0<=li+1 by omega)
 have E:(li+1).toNat=N:=by omega
 have Xk:(((hs.length:Nat):Int)+1).toNat=hs.length+1:=by omega
 refine⟨B5 (by omega) (by omega),⟨by omega,rfl,by omega⟩,⟨rfl,by omega,by omega⟩,⟨rfl,by rw[dt];omega⟩,by rw[dt];omega,?_⟩
 have e0:List.take (hs.length*42) (List.replicate ((hs.length+1)*42) (0:Int))++List.replicate 42 0++List.drop (hs.length*42+42) (List.replicate ((hs.length+1)*42) 0)=gS li ga fa hs hs.length:=by
  unfold gS;rw[qu,List.take_replicate,List.drop_replicate,show min (hs.length*42) ((hs.length+1)*42)=hs.length*42 by omega,show(hs.length+1)*42- (hs.length*42+42)=0 by omega]
  simp[dF,iA]
 refine Loop.upto (fun i=>(B,li,ga,fa,hs,more,0,hs.length+1,((hs.length:Nat):Int),(i:Int),gS li ga fa hs (hs.length- i),())) (fun i=>True) hs.length (congrArg (fun(z:List Int)=>(B,li,ga,fa,hs,more,0,hs.length+1,((hs.length:Nat):Int),(0:Int),z,())) e0.symm) trivial ?_ ?_
 .intro j K_j hj b2V l;dsimp only;rw[m5];refine⟨fun _=>?_,fun h=>absurd hj (by omega)⟩
  try simp only[cu]
  obtain⟨q,hq⟩:∃q,q+1+j=hs.length:=⟨hs.length- 1- j,by omega⟩
  have V:((hs.length:Nat):Int) - 1- (j:Int)=(q:Int):=by omega
  have X:hs.length- j=q+1:=by omega
  have Y:hs.length- (j+1)=q:=by omega
  have F:q<hs.length:=by omega
  rw[V,X];rw[Y]at l;have Z:((q:Int)+1).toNat=q+1:=by omega
  rw[Z];have hd:hs.drop q=hs[q]::hs.drop (q+1):=ia F;have he:V2 hs (q:Int)=hs[q]:=by
   unfold V2;rw[cu,cw,ag F];rfl
  obtain⟨P,g2⟩:=Aq li ga fa (hs.drop (q+1)) (U _);generalize o:(dF li ga fa (hs.drop (q+1))).headD []=nx;have G:(gS li ga fa hs (q+1)).length=(hs.length+1)*42:=d _ (by omega)
  have c:List.take 42 (List.drop ((q+1)*42) (gS li ga fa hs (q+1)))=nx:=by
   unfold gS;rw[pt (by rw[dt]),<-o]
   cases e:dF li ga fa (hs.drop (q+1))with
   |nil=>rw[e]at P;cases P
   |cons r rs=>
    rw[gb,rj (g2 r (by rw[e];exact ar ..)).1]
    rfl
  have m:nx.length=42/\YW 0 (100*((hs.drop (q+1)).length:Int)) nx:=by
   rw[<-o];cases e:dF li ga fa (hs.drop (q+1))with
   |nil=>rw[e]at P;cases P
   |cons r rs=>exact g2 r (by rw[e];exact ar ..)
  have hdl:(hs.drop (q+1)).length<=12:=by rw[cv];omega
  rw[c,he]
  let W:=fun(i:Nat)=>jZ li ga fa hs[q] nx (i:Int)
  let R:=pI li ga fa (q:Int) hs[q] nx
  have s:∀e:Nat×(Int×Int)×Int,e∈R↔ ∃i,i<N/\0<=W i/\e=(i,((q:Int),(i:Int)),W i):=fun e=>by
   show e∈pI li ga fa (q:Int) hs[q] nx↔_;unfold pI;rw[ft,E];constructor
   .rintro⟨n,H⟩;obtain⟨i,u,rfl⟩:=BW n;refine⟨i,u,?_,rfl⟩;simp only[dx,gi]at H;show 0<=jZ li ga fa hs[q] nx (i:Int);omega
   .rintro⟨i,u,h0,rfl⟩;refine⟨?_,?_⟩
    .unfold V1;exact cd.2 ⟨i,ld.2 u,rfl⟩
    .simp only[dx,gi];omega
  have f:(R.map (·.1)).Nodup:=by
   have I:(R.map (·.1)).Sublist ((V1 li ga fa (q:Int) hs[q] nx (li+1).toNat).map (·.1)):=List.Sublist.map _ iy
   refine List.Nodup.sublist I ?_;unfold V1;rw[fm];refine(List.Pairwise.map _ (fun a b hab=>?_) pk)
   exact hab
  rw[E];refine⟨B5 (by omega) (by omega),B5 (by omega) (by omega),B5 (by omega) (by omega),⟨trivial,by omega,by omega⟩,trivial,by rw[G];omega,⟨hb,⟨by show(0:Int)<=(q:Int);omega,by show(q:Int).toNat<hs.length;omega⟩,(by show(List.take 42 (List.drop ((q+1)*42) (gS li ga fa hs (q+1)))).length=42;rw[c];exact m.1),fun x C=>by
   have C:x∈List.take 42 (List.drop ((q+1)*42) (gS li ga fa hs (q+1))):=C;rw[c]at C;have:=m.2 x C
   omega⟩,?_⟩
  refine Loop.intro (fun x=>∃ (seen:List Nat) (t:List Int),x=(B,li,ga,fa,hs,more,0,hs.length+1,(q:Int),((hs.length:Nat):Int),(j:Int),t,N,seen,N,R,N,())/\t.length=(hs.length+1)*42/\
    ∀p,t.getD p 0=if q*42<=p/\p- q*42<N/\0<=W (p- q*42)/\p- q*42∈seen then W (p- q*42)else(gS li ga fa hs (q+1)).getD p 0)
   (fun x=>(mleft tP R x.2.2.2.2.2.2.2.2.2.2.2.2.2.1).length) ?_ ⟨[],_,rfl,G,fun p=>by rw[ai (by simp)]⟩
  rintro x K2 ⟨seen,t,rfl,v,J⟩ CG;dsimp only;refine⟨⟨fun e fZ=>?_,aw _⟩,fun L=>⟨B5 (by omega) (by omega),?_⟩,fun e w=>⟨⟨trivial,f⟩,e,⟨(nI (t:=tP).1 w).1,by simp⟩,?_⟩⟩
  .obtain⟨i,u,_,rfl⟩:=(s e).1 fZ;exact u
  .have h3:=l trivial;have:t=gS li ga fa hs q:=by
    refine Zf (by rw[v,d q (by omega)]) fun p=>?_
    rw[J p,GU,GU,hd,show dF li ga fa (hs[q]::hs.drop (q+1))=NS li ga fa hs[q] ((dF li ga fa (hs.drop (q+1))).headD [])::dF li ga fa (hs.drop (q+1))from rfl,o,gb,Oa,SE];by_cases n:p<q*42
    .rw[ai (by omega),aj (by omega),aj n]
    .rw[ai n];by_cases H:p- q*42<42
     .rw[aj H,Zg _ _ _ _ _ _ H];by_cases y:p- q*42<N/\0<=W (p- q*42)
      .have Wa:p- q*42∈seen:=Jg (t:=tP) L (e:=(p- q*42,((q:Int),((p- q*42:Nat):Int)),W (p- q*42))) ((s _).2 ⟨_,y.1,y.2,rfl⟩);rw[aj ⟨by omega,y.1,y.2,Wa⟩,aj ⟨by omega,y.2⟩]
      .rw[ai (fun g=>y ⟨g.2.1,g.2.2.1⟩),aj (by omega),ai (fun g=>y ⟨by omega,g.2⟩)]
     .rw[ai (by omega),ai (by omega),ai H,show p- (q+1)*42=p- q*42- 42 by omega]
   rw[this];exact h3
  .obtain⟨i,u,h0,rfl⟩:=(s e).1 (nI (t:=tP).1 w).1;dsimp only;rw[cu,cu];have M:q*42+i<t.length:=by rw[v];omega
   refine⟨⟨rfl,by omega,by omega⟩,⟨by omega,by omega⟩,M,?_⟩
   refine CG _ ⟨seen++ [i],_,rfl,by rw[pv];exact v,fun p=>?_⟩ (xF (t:=tP) w)
   rw[Ze _ _ _ M,J p];by_cases O:p=q*42+i
   .subst O;have e1:q*42+i- q*42=i:=by omega
    rw[aj rfl,e1,aj ⟨by omega,u,h0,by simp⟩]
   .rw[ai O];by_cases A:q*42<=p/\p- q*42<N/\0<=W (p- q*42)/\p- q*42∈seen
    .rw[aj A,aj ⟨A.1,A.2.1,A.2.2.1,ej _ A.2.2.2⟩]
    .rw[ai A,ai (fun g=>A ⟨g.1,g.2.1,g.2.2.1,by
      rcases cj.1 g.2.2.2 with h|h
      .exact h
      .rw[cb]at h;omega⟩)]
 .intro K U;dsimp only;rw[m5];refine⟨fun h=>absurd h (by omega),fun _=>?_⟩
  rw[pz];have:gS li ga fa hs 0=qA li ga fa hs:=by unfold gS qA;simp
  rw[this];exact S
end Go.Abs.T2
end
section
namespace Go.Abs
open Go.Proofs
theorem a5f{P:Program}{cl:Nat}(E:∀ (b:Nat) (es:Array MapEntry) (t:Nat) (w:World),w.heap[b]? =some (.map es t)->Calls P cl #[.map (some b)] w fun e w'=>e=.returned (.map (some w.heap.size))/\w'=w.alloc (.map es t))
  (mk:MK)(l:I2 mk.kt)(clk:Nat)(k:a7->List c7->Prop)(hk:k (.B9 1) [.mp mk l clk,.mp mk l clk]):jE P cl [.B9 0] [.mp mk l clk] k:=by
 intro F K H w xs j z hm A G;have I:[c7.mp mk l clk].length=1:=rfl;rw[I]at A G;obtain⟨hd,v⟩:=G 0 (by omega)
 have J:G4 (fun _=>none) 0 [c7.mp mk l clk] 0=some (.mp mk l clk,.own):=by rw[s9];rfl
 have B:=hm.cont 0 _ .own hd J (by simp) v
 obtain⟨z1,z2,z3,b,L,T⟩:=B;have hv:xs=[.map (some b)]:=by
  obtain⟨x,U,rfl,h,M⟩:=z;cases (show U=[]from M)
  .obtain⟨d,a,N,g2,g3⟩:=h;rw[v]at N;cases N;rw[L]at g2;cases g2;rw[g3]
 subst hv;refine(E b _ clk w T).mono (fun e w' ⟨he,hw⟩=>?_)
 subst hw;have V:=s8 T;have n:∀a,a<w.heap.size->(w.alloc (.map (l.map mk.nM).toArray clk)).heap[a]? =w.heap[a]? :=fun a i=>by
  show(w.heap.push (.map (l.map mk.nM).toArray clk))[a]? =_;rw[rh i,ba i]
 have K8:(w.alloc (.map (l.map mk.nM).toArray clk)).heap[w.heap.size]? =some (.map (l.map mk.nM).toArray clk):=by
  show(w.heap.push (.map (l.map mk.nM).toArray clk))[w.heap.size]? =_;simp
 have X:H 1=none:=A 1 (by omega)
 let bN:Hd:=⟨some w.heap.size,0,0,0⟩
 have Y:aY H (N9 H 1 bN):=M3 X;have m:∀r x,G4 (fun _=>none) 0 [c7.mp mk l clk,c7.mp mk l clk] r=some x->(r=0\/r=1)/\x=(.mp mk l clk,.own):=fun r x q=>by
  rw[s9]at q;split at q
  .rename_i s
   match r,s,q with
   |0,_,q=>exact⟨.inl rfl,by simpa using q.symm⟩
   |1,_,q=>exact⟨.inr rfl,by simpa using q.symm⟩
   |r+2,s,_=>exact absurd s.2 (by simp)
  .cases q
 obtain⟨o1,o2,o3,_⟩:=hm.own 0 _ hd b J v L;have y:N9 H 1 bN 0=some hd:=by rw[m7 _ _ _ _ (by omega)];exact v
 have u:N9 H 1 bN 1=some bN:=j8 _ _ _;have C:∀r d a,(r=0\/r=1)->N9 H 1 bN r=some d->d.base=some a->(r=0/\a=b/\d=hd)\/(r=1/\a=w.heap.size/\d=bN):=fun r d a s S Z=>by
  rcases s with rfl|rfl
  .rw[y]at S;cases S;rw[L]at Z;cases Z;exact .inl ⟨rfl,rfl,rfl⟩
  .rw[u]at S;cases S;cases Z;exact .inr ⟨rfl,rfl,rfl⟩
 obtain⟨nK1,nK2⟩:=j.w8.new (aw w.heap.size);refine⟨.map (some w.heap.size),.B9 1,_,K,N9 H 1 bN,he,hk,.refl K,?_,⟨?_,?_,?_,?_⟩,fun r s=>?_,⟨⟨fun a cs i=>?_,fun a p i=>?_⟩,fun a i=>?_,j.inv,j.apart⟩,⟨rfl,rfl,rfl,?_,fun a i=>n a (j.lt a i),aw _⟩,.refl F K,by simp,fun r s=>?_⟩
 .exact⟨bN,w.heap.size,u,rfl,rfl⟩
 .intro r c f d D O q3;obtain⟨s,q⟩:=m r _ D;cases q;rcases s with rfl|rfl
  .rw[y]at q3;cases q3;exact n9.mono (.refl K) Y (fun a e=>n a (by rw[L]at e;cases e;exact V)) ⟨z1,z2,z3,b,L,T⟩
  .rw[u]at q3;cases q3;exact⟨rfl,rfl,rfl,w.heap.size,rfl,K8⟩
 .intro r c d a D O q3;obtain⟨s,q⟩:=m r _ D;cases q;rcases C r d a s O q3 with⟨_,rfl,_⟩|⟨_,rfl,_⟩
  .exact⟨o1,o2,o3,fun E=>by cases E⟩
  .exact⟨fun hF=>absurd (j.lt _ hF) (pn _),nK1,nK2,fun E=>by cases E⟩
 .intro r c d a D O q3;obtain⟨_,q⟩:=m r _ D;cases q
 .intro r r' c c' d R a D O q3 q4 q5 q6;rcases C r d a (m r _ D).1 q3 q5 with⟨rfl,e,_⟩|⟨rfl,e,_⟩<;>rcases C r' R a (m r' _ O).1 q4 q6 with⟨rfl,e',_⟩|⟨rfl,e',_⟩<;>first|rfl|omega
 .rw[m7 _ _ _ _ (by simp at s;omega)]
  exact A r (by simp at s;omega)
 .obtain⟨e,fz,g⟩:=j.w8.1 a cs i;exact⟨e,fz,by rw[n a (s8 g)];exact g⟩
 .obtain⟨o,N,g2⟩:=j.w8.2 a p i;exact⟨o,by rw[n a (s8 N)];exact N,g2⟩
 .show a<(w.heap.push _).size;rw[pw];have:=j.lt a i;omega
 .show w.heap.size<=(w.heap.push _).size;rw[pw];omega
 .have:r=0:=by simp at s;omega
  subst this;exact m7 _ _ _ _ (by omega)
end Go.Abs
namespace Go.Abs.T2
open Go.Proofs
theorem b2W:YY.Kept Tryz.prog 196:=fun x _ k c=>a5f (fun b es a w d=>AnyW.maps_Clone Tryz.NO b es a w d) mB x.1 x.2.1 k c
end Go.Abs.T2
end
section
open Go.Proofs
set_option maxRecDepth 100000
namespace Go.Abs.T2
theorem b2Y:z6 Tryz.prog 14:=B0 Tryz.func14 (by kernel_rfl) (by kernel_rfl)
theorem q14:p9 Tryz.prog 14 [UQ]:=I5 b2Y (k14 x9)
theorem hc4:z6 Tryz.prog 4:=B0 Tryz.func4 (by kernel_rfl) (by kernel_rfl)
theorem q4:p9 Tryz.prog 4 [v4]:=I5 hc4 (k4 (p9.add q14 x9))
theorem b2Z:z6 Tryz.prog 10:=B0 Tryz.func10 (by kernel_rfl) (by kernel_rfl)
theorem q10:p9 Tryz.prog 10 [v10]:=I5 b2Z (k10 x9)
theorem hc7:z6 Tryz.prog 7:=B0 Tryz.func7 (by kernel_rfl) (by kernel_rfl)
theorem q7:p9 Tryz.prog 7 [v7]:=I5 hc7 (k7 (p9.add q10 x9))
theorem hc9:z6 Tryz.prog 9:=B0 Tryz.func9 (by kernel_rfl) (by kernel_rfl)
theorem q9:p9 Tryz.prog 9 [v9]:=I5 hc9 (k9 (p9.add q4 x9))
theorem b21:z6 Tryz.prog 55:=B0 Tryz.func55 (by kernel_rfl) (by kernel_rfl)
theorem q55:p9 Tryz.prog 55 [QN]:=I5 b21 (k55 x9)
theorem b24:z6 Tryz.prog 53:=B0 Tryz.func53 (by kernel_rfl) (by kernel_rfl)
theorem q53:p9 Tryz.prog 53 [v53]:=I5 b24 (k53 (p9.add q55 x9))
theorem b25:z6 Tryz.prog 19:=B0 Tryz.func19 (by kernel_rfl) (by kernel_rfl)
theorem q19:p9 Tryz.prog 19 [v19]:=I5 b25 (k19 (p9.add q53 x9))
theorem b26:z6 Tryz.prog 20:=B0 Tryz.func20 (by kernel_rfl) (by kernel_rfl)
theorem q20:p9 Tryz.prog 20 [v20]:=I5 b26 (k20 x9)
theorem b27:z6 Tryz.prog 21:=B0 Tryz.func21 (by kernel_rfl) (by kernel_rfl)
theorem q21:p9 Tryz.prog 21 [v21]:=I5 b27 (k21 x9)
theorem b28:z6 Tryz.prog 18:=B0 Tryz.func18 (by kernel_rfl) (by kernel_rfl)
theorem q18:p9 Tryz.prog 18 [v18]:=I5 b28 (k18 (p9.a1Q q21 x9))
theorem a8O:z6 Tryz.prog 196:=B0 Tryz.func196 (by kernel_rfl) (by kernel_rfl)
theorem b29:p9 Tryz.prog 196 [YY]:=I5 a8O b2W
theorem a8P:z6 Tryz.prog 134:=B0 Tryz.func134 (by kernel_rfl) (by kernel_rfl)
theorem b3a:p9 Tryz.prog 134 [QQ]:=I5 a8P (b2U (p9.a1Q b29 (p9.add q20 (p9.add q55 x9))))
theorem b3b:z6 Tryz.prog 52:=B0 Tryz.func52 (by kernel_rfl) (by kernel_rfl)
theorem q52:p9 Tryz.prog 52 [v52]:=I5 b3b (k52 (p9.add b3a x9))
theorem a8Q:z6 Tryz.prog 195:=B0 Tryz.func195 (by kernel_rfl) (by kernel_rfl)
theorem b3c:p9 Tryz.prog 195 [QE]:=I5 a8Q (b2m x9)
theorem a8R:z6 Tryz.prog 138:=B0 Tryz.func138 (by kernel_rfl) (by kernel_rfl)
theorem b3d:p9 Tryz.prog 138 [QF]:=I5 a8R (b2n (p9.add b3c x9))
theorem b3e:z6 Tryz.prog 63:=B0 Tryz.func63 (by kernel_rfl) (by kernel_rfl)
theorem q63:p9 Tryz.prog 63 [v63]:=I5 b3e (k63 (p9.add b3d x9))
theorem a8S:z6 Tryz.prog 132:=B0 Tryz.func132 (by kernel_rfl) (by kernel_rfl)
theorem a5g:p9 Tryz.prog 132 [uR]:=I5 a8S (b2o (p9.add q63 x9))
theorem a8T:z6 Tryz.prog 133:=B0 Tryz.func133 (by kernel_rfl) (by kernel_rfl)
theorem b3f:p9 Tryz.prog 133 [QO]:=I5 a8T (b2M (p9.add q55 x9))
theorem b3g:z6 Tryz.prog 51:=B0 Tryz.func51 (by kernel_rfl) (by kernel_rfl)
theorem q51:p9 Tryz.prog 51 [ZT]:=I5 b3g (k51 (p9.add b3f (p9.add a5g x9)))
theorem a8U:z6 Tryz.prog 131:=B0 Tryz.func131 (by kernel_rfl) (by kernel_rfl)
theorem b3h:p9 Tryz.prog 131 [QK]:=I5 a8U (b2t x9)
theorem a8V:z6 Tryz.prog 194:=B0 Tryz.func194 (by kernel_rfl) (by kernel_rfl)
theorem b3i:p9 Tryz.prog 194 [QL]:=I5 a8V (b2u (p9.add b3h x9))
theorem a8W:z6 Tryz.prog 130:=B0 Tryz.func130 (by kernel_rfl) (by kernel_rfl)
theorem b3j:p9 Tryz.prog 130 [QM]:=I5 a8W (b2v (p9.add b3i x9))
theorem a8X:z6 Tryz.prog 192:=B0 Tryz.func192 (by kernel_rfl) (by kernel_rfl)
theorem b3k:p9 Tryz.prog 192 [QG]:=I5 a8X (b2p (p9.add a5g x9))
theorem a8Y:z6 Tryz.prog 216:=B0 Tryz.func216 (by kernel_rfl) (by kernel_rfl)
theorem b3l:p9 Tryz.prog 216 [QH]:=I5 a8Y (b2q (p9.add b3k x9))
theorem a8Z:z6 Tryz.prog 193:=B0 Tryz.func193 (by kernel_rfl) (by kernel_rfl)
theorem b3m:p9 Tryz.prog 193 [QI]:=I5 a8Z (b2r (p9.add b3l x9))
theorem a80:z6 Tryz.prog 129:=B0 Tryz.func129 (by kernel_rfl) (by kernel_rfl)
theorem b3n:p9 Tryz.prog 129 [QJ]:=I5 a80 (b2s (p9.add a5g (p9.add b3m x9)))
theorem b3o:z6 Tryz.prog 50:=B0 Tryz.func50 (by kernel_rfl) (by kernel_rfl)
theorem q50:p9 Tryz.prog 50 [ZS]:=I5 b3o (k50 (p9.add b3n (p9.add b3j x9)))
theorem b3p:z6 Tryz.prog 17:=B0 Tryz.func17 (by kernel_rfl) (by kernel_rfl)
theorem q17:p9 Tryz.prog 17 [v17]:=I5 b3p (k17 (p9.add q50 (p9.add q51 (p9.a1Q q52 x9))))
theorem hc6:z6 Tryz.prog 6:=B0 Tryz.func6 (by kernel_rfl) (by kernel_rfl)
theorem q6:p9 Tryz.prog 6 [v6]:=I5 hc6 (k6 (p9.a1Q q17 (p9.b2X q18 (fun _=>rfl) (p9.add q20 (p9.add q19 x9)))))
theorem b3q:z6 Tryz.prog 22:=B0 Tryz.func22 (by kernel_rfl) (by kernel_rfl)
theorem q22:p9 Tryz.prog 22 [v22]:=I5 b3q (k22 (p9.add q50 (p9.add q51 x9)))
theorem hc8:z6 Tryz.prog 8:=B0 Tryz.func8 (by kernel_rfl) (by kernel_rfl)
theorem q8:p9 Tryz.prog 8 [v8]:=I5 hc8 (k8 (p9.add q22 x9))
end Go.Abs.T2
end
section
open Go.Proofs
set_option maxRecDepth 100000
namespace Go.Abs.T2
def GY:Code->Option (Array Oper)
 |.region id ops _=>if id=19 then some ops else none
 |.seq a b=>(GY a).or (GY b)
 |.cond _ a b=>(GY a).or (GY b)
 |.block _ a=>GY a
 |.loop a=>GY a
 |_=>none
noncomputable def Oc:Array Oper:=(GY ((Tryz.f3.body).getD .skip)).getD #[]
theorem a81(b li ga fa:Int)(a:List Hr)(i:Int)(c:List (Nat×a7))(nx:Nat)(M:Mem)(g:List a7)(p:Option E8)(d:a7->Nat->Nat->Mem->List a7->Option E8->List Nat->List (Nat×a7)->Prop):
 Hi (u0 [(10,X8 [v10])]) Tryz.prog (kt 3) Cb (.region 19 Oc true) .top ⟨197,(2,.ptr 0 0)::(12,rI i)::c,nx,(0,(.box [rI b,rI li,rI ga,rI fa,.imm tH a false],.X9))::M,g,p⟩
  (fun e s=>match e with|.normal=>d (u9 s.tmps 87) s.n s.nx s.M s.gh s.o7 ((s.tmps.map (·.1)).take 12) (s.tmps.drop 12)|_=>False)=
 (∃h:0<=i/\i.toNat<a.length,v10.p (b,li,ga,fa,a,0,(a[i.toNat]'h.2).1.2,1,())/\
  d (.bool (decide (l7 ga fa 0 (a[i.toNat]'h.2).1.2 1>li))) 197 nx ((0,(.box [rI b,rI li,rI ga,rI fa,.imm tH a false],.X9))::M) g p [87,86,85,84,83,82,81,80,79,78,77,76] ((2,.ptr 0 0)::(12,rI i)::c)):=by kernel_rfl
end Go.Abs.T2
end
section
open Go Go.Abs Go.Proofs
set_option linter.unusedVariables false
set_option maxRecDepth 100000
namespace Go.Abs.T2
def Zh(P:Program)(Fu:Nat)(R:z0)(I:kF)(z:BV)(lo:List HO)(n:Nat)(X:Ctx)(B:Option Nat)(F0:Nat->Prop)(ro:Option Nat)(g:List a7)(K0:b8)(q:Nat)(o:Array Oper)(d:Bool)(sp:pX):Prop:=
 ∀ (E:Nat) (A:z7) (nx:Nat) (D:m8) (p:Nat) (i:KC) (c:j7) (F:Nat->Prop) (K:b8) (H:Nat->Option Hd) (a:Act) (w:World) (Q:Exit->Act->World->Prop),sp P Fu R I none E A nx D p i=.ok z lo->B4 n g E A nx D p c->K0.le K->(∀b,F0 b->F b)->St (X.O4 c.gh c.o7) B F n K H c.s6.T c.s6.m a w->(∀r,c.nx<=r->H r=none)->
  (∀e j k f D' l h s w',i e j k f D' l=.ok z lo->B4 n g j k f D' l h->gD X B F0 F n K w h s w'->Q e.out s w')->(Code.region q o d).wpIn (Wd ro) 0 P Q a w
section
variable {P:Program} {R:z0} {Fu:Nat} {I:kF} {z:BV} {lo:List HO} {n q:Nat} {sp:pX} {o19:Array Oper} {dr:Bool} {X:Ctx} {B:Option Nat} {F0:Nat->Prop} {ro:Option Nat} {g:List a7} {K0:b8}
theorem GZ(m4:P.follows .mixedOrders=true)(hR:F7 P R)(L:N3 P (mZ I z lo))(hX:X.Ok)(M:eT X ro)(hB:B=none->ro≠none)(O:Zh P Fu R I z lo n X B F0 ro g K0 q o19 dr sp):
  ∀ (N:Nat) (c:Code),Code.j5 c=true->o9 n c=true->vL q o19 dr c->∀ (E:Nat) (A:z7) (nx:Nat) (D:m8) (p:Nat) (k:KS) (j:j7) (F:Nat->Prop) (K:b8) (H:Nat->Option Hd) (a:Act) (w:World) (Q:Exit->Act->World->Prop),YS q sp N c P Fu R I E A nx D p k=.ok z lo->B4 n g E A nx D p j->K0.le K->(∀b,F0 b->F b)->
   St (X.O4 j.gh j.o7) B F n K H j.s6.T j.s6.m a w->(∀r,j.nx<=r->H r=none)->
   (∀E' A' l D' p' d F' K' H' a' w',k E' A' l D' p'=.ok z lo->B4 n g E' A' l D' p' d->(∀b,F b->F' b)->St (X.O4 d.gh d.o7) B F' n K' H' d.s6.T d.s6.m a' w'->K.le K'->(∀r,d.nx<=r->H' r=none)->Fix F0 K K'->Kept F0 w w'->(NP N c).wpIn (Wd ro) 0 P Q a' w')->c.wpIn (Wd ro) 0 P Q a w
 |0,c,_,_,_,E,A,nx,D,p,k,j,F,K,H,a,w,Q,h,he,s,hF,t,u,hQ=>hQ E A nx D p j F K H a w h he (fun _ h=>h) t (.refl K) u (.refl F0 K) (.refl F0 w)
 |N+1,c,v,C,ho,E,A,nx,D,p,k,j,F,K,H,a,w,Q,h,he,s,hF,t,u,hQ=>by
  cases c with
  |seq x y=>
   simp only[Code.j5,ah]at v;simp only[o9,ah]at C;have h:Qd q sp x P Fu R I none E A nx D p (fun e E A nx D p=>pM e (YS q sp N y P Fu R I E A nx D p k) (fun _=>.er 921 0) (.er 922 0))=.ok z lo:=h
   refine jo (Qe m4 hR L hX M hB O x v.1 C.1 ho.1 E A nx D p _ j F K H a w _ h he s hF t u ?_);intro e E' A' l D' p' d a' w' hk Vf ht;rcases O9 hk with⟨rfl,f⟩|⟨i,rfl,f⟩|⟨rfl,f⟩
   .obtain⟨⟨F',K',H',S,U,hK,V,Y⟩,G⟩:=ht;exact GZ m4 hR L hX M hB O N y v.2 C.2 ho.2 E' A' l D' p' k d F' K' H' a' w' Q f Vf (s.trans hK) (fun b hb=>S b (hF b hb)) U V (fun E2 A2 qB D2 p2 kC F2 K2 H2 a2 w2 jS fZ hF2 Z CG Af J o=>hQ E2 A2 qB D2 p2 kC F2 K2 H2 a2 w2 jS fZ (fun b hb=>hF2 b (S b hb)) Z (hK.trans CG) Af (Y.trans J) (G.trans o))
   .cases f
   .cases f
  |_=>cases h
end
theorem nJ{v:BV}{n:Nat}(h:UM v n=true):v=.c n:=by
 cases v with
 |c m=>rw[ab (show Nat.beq m n=true from h)]
 |_=>cases h
theorem Zi{v:BV}(h:isU v=true):v=.u:=by
 cases v with
 |u=>rfl
 |_=>cases h
theorem Ha{E:Nat}{A:z7}:∀ {l:List Nat},SA E A l=true->∀t∈l,o8 E A t=.u
 |[],_,t,h=>by cases h
 |t::l,h,b,a=>by
  have h:iB (isU (o8 E A t)) (SA E A l) false=true:=h;rw[a9]at h;split at h
  .rename_i c;rcases av.1 a with rfl|a
   .exact Zi c
   .exact Ha h b a
  .cases h
theorem a1R{v:BV}{k:Nat->Rn}{z:BV}{lo:List HO}(h:a43 v k=.ok z lo):∃i,v=.c (G5 i)/\k i=.ok z lo:=by
 cases v with
 |c c=>
  have h:fN (Nat.sub (n8 c) cZ) (fun i=>iB (Nat.beq c (G5 i)) (k i) (.er 901 0))=.ok z lo:=h
  rw[B6,a9]at h;split at h
  .rename_i e;exact⟨_,by rw[<-ab e],h⟩
  .cases h
 |_=>cases h
theorem Ji{t:Nat}:∀ (k:Nat) (l:List (Nat×a7)),t ∉ (l.map (·.1)).take k->u9 l t=u9 (l.drop k) t
 |0,l,_=>rfl
 |k+1,[],_=>rfl
 |k+1,(s,v)::l,h=>by
  simp only[az,nj,av,ke]at h;rw[np,<-Ji k l h.2];show(if s=t then v else u9 l t)=_
  rw[ai (fun e=>h.1 e.symm)]
theorem Hc{H:Nat->Option Hd}(i:Nat)(b:i<9223372036854775808):j6 H (G5 i) (.int .i64 (i:Int)):=by
 have:=j6.int (H:=H) .i64 (i+cZ) (by have:cZ=9223372036854775808:=rfl;omega)
 have e:N8 (G0 .i64) (i+cZ)=G5 i:=by
  show Nat.add (Nat.mul 128 (i+9223372036854775808)) (Nat.mul 8 4)=Nat.add (Nat.mul 128 i) 1180591620717411303456;show 128*(i+9223372036854775808)+8*4=128*i+1180591620717411303456;omega
 rw[e]at this;have a:∀Z:Nat,(((i+Z:Nat):Int) - (Z:Nat))=(i:Int):=fun Z=>by omega
 rwa [a]at this
theorem Od:∀ {l:List Bool} {i:Nat} {b:Bool},l[i]? =some b->YT l i=b
 |[],i,b,h=>by simp at h
 |a::l,0,b,h=>by simp only[dh,ae]at h;exact h
 |a::l,i+1,b,h=>Od (l:=l) (by simpa using h)
theorem He{α:Type}:∀ (l:List α),B8 l=l.length
 |[]=>rfl
 |_::l=>congrArg Nat.succ (He l)
end Go.Abs.T2
end
section
open Go Go.Abs Go.Proofs
set_option linter.unusedVariables false
set_option maxRecDepth 100000
namespace Go.Abs.T2
abbrev cM(a li ga fa:Int)(b:List Hr):List a7:=[rI a,rI li,rI ga,rI fa,.imm tH b false]
theorem a82:Code.j5 (.region 19 Oc true)=true:=by kernel_rfl
theorem UW{t:Nat}(h:t∈ [86,85,84,83,82,81,80,79,78,77,76]):t∈Ld:=by
 simp only[av,List.not_mem_nil,or_false]at h;rcases h with rfl|rfl|rfl|rfl|rfl|rfl|rfl|rfl|rfl|rfl|rfl<;>decide
theorem a1S(i:Nat):pK (G5 i)=true:=by
 rw[cD,KZ];exact a29 i cZ
theorem b3r(s z:Nat):Nat.div (Nat.mod (128*s+128*z+32) 128) 8=4:=by show(128*s+128*z+32) % 128/8=4;omega
theorem a1T(i:Nat)(k:IntKind)(h:AT (G5 i)=G0 k):Value.int k ((n8 (G5 i):Nat) - (cZ:Int))=.int .i64 (i:Int):=by
 rw[KZ]at h ⊢;have h:4=G0 k:=(b3r i cZ).symm.trans h;have e:n8 (128*i+128*cZ+32)=i+cZ:=a28 i cZ;rw[e];have a:∀Z:Nat,(((i+Z:Nat):Int) - (Z:Int))=(i:Int):=fun Z=>by omega
 rw[a];cases k<;>first|rfl|cases h
theorem Zj{o:HO}(h:isZ o=true):o=.z:=by cases o<;>first|rfl|cases h
theorem a1U{Fu:Nat}{R:z0}{I:kF}{z:BV}{lo:List HO}{B:Option Nat}{F0:Nat->Prop}{H0:Nat->Option Hd}{K0:b8}{G li ga fa:Int}{o:List Hr}{J:Nat}{arr:Array Value}{L:List Bool}{m0:Nat}
  (Y:H0 0=some ⟨some J,m0,0,0⟩)(h3:∀r,3<=r->H0 r=none)(C:K0.cells J=some arr)(CG:c6 K0 H0 (cM G li ga fa o) arr.toList)(hlen:o.length<=12)(hG:Good Tryz.prog (u0 [(10,X8 [v10])]))
  (Z:∀h∈o,v10.p (G,li,ga,fa,o,0,h.1.2,1,()))(Vb:∀i (h:i<o.length),L[i]? =some (decide (l7 ga fa 0 o[i].1.2 1>li)))(Rx:L.length=o.length){V:List Value}(hB:B.isSome=true):
  Zh Tryz.prog Fu R I z lo 197 (dC (bB H0 3) (T8 V)) B F0 none (eW H0 3++ []) K0 19 Oc true (a1J L):=by
 intro E A nx D p kc s F K H a w Q h he hK hF qC G2 hQ;have hX:(dC (bB H0 3) (T8 V)).Ok:=nC (jV V);have h:a43 (o8 E A 12) (fun i=>iB (Nat.ble (Nat.succ i) (B8 L)) (iB (SA E A Ld) (iB (UM (o8 E A 2) (bO 0 0)) (iB (isZ (m6 nx D 0)) (G3 87 (.c (I3 (YT L i))) E A fun E A=>kc .normal E A nx D p) (.er 906 0)) (.er 905 0)) (.er 903 0)) (.er 904 0))=.ok z lo:=h
 obtain⟨i,h12,h⟩:=a1R h;rw[a9]at h;split at h
 rotate_left
 .cases h
 rename_i U;have U:i<o.length:=by rw[<-Rx,<-He];exact af U
 rw[a9]at h;split at h
 rotate_left
 .cases h
 rename_i hu;rw[a9]at h;split at h
 rotate_left
 .cases h
 rename_i h2;have h2:=nJ h2;rw[a9]at h;split at h
 rotate_left
 .cases h
 rename_i hz;have hz:=Zj hz;obtain⟨E',A',h,hT⟩:=M6 h;obtain⟨X,htm⟩:=Iu E A;have d:=he.st.1 qC;have ZK:=Y2 d.x h3;have hH:H 0=some ⟨some J,m0,0,0⟩:=ZK.1 _ _ Y;have C:K.cells J=some arr:=hK.cells _ _ C;have hC:c6 K H (cM G li ga fa o) arr.toList:=aE (fun b cs e=>hK.cells b cs e) _ _ rfl CG
 have t2:a.tmps.getD 2 undef=.pointer (some ⟨J,0,none⟩):=by
  have N:=aR (d.tmp 2);rw[h2]at N;obtain⟨S9,b',q1,q2,q3,q4,q5,q6⟩:=(N.cell (by decide)).gP (by decide)
  have q1:H 0=some S9:=q1;rw[hH]at q1;cases q1;cases q2;exact q3
 have t12:a.tmps.getD 12 undef=.int .i64 (i:Int):=by
  have N:=aR (d.tmp 12);rw[h12]at N;obtain⟨k,q,u,y,e4⟩:=N.int (a1S i);rw[u];exact a1T i k q
 have hz0:l9 (p8 nx D) 0=none:=by rw[M0,hz]
 have aT:St ((dC (bB H0 3) (T8 V)).O4 (eW H0 3++ []) (gQ p)) B F 197 K H (u9 ((2,.ptr 0 0)::(12,rI i)::X)) (l9 ((0,(.box (cM G li ga fa o),.X9))::p8 nx D)) a w:=by
  refine⟨d.ok,⟨fun r c f hd q u y=>?_,fun r c hd b q u y=>?_,fun r c hd b q u y=>?_,fun r r' c c' hd S9 b q u y e4 e5 e6=>?_⟩,d.size,d.defers,fun t=>?_,d.x⟩
  .by_cases m:0=r
   .subst m;cases q;rw[hH]at y;cases y;obtain⟨e,fz,g⟩:=d.ok.w8.1 J arr C;exact⟨J,arr,e,fz,rfl,g,hC⟩
   .exact d.mem.cont r c f hd ((ai m).symm.trans q) u y
  .by_cases m:0=r
   .subst m;cases q
   .exact d.mem.own r c hd b ((ai m).symm.trans q) u y
  .by_cases m:0=r
   .subst m;rw[hH]at u;cases u;cases y;exact⟨arr,C⟩
   .exact d.mem.X9 r c hd b ((ai m).symm.trans q) u y
  .have m:¬0=r:=fun m=>by subst m;cases q
   have hr':¬0=r':=fun m=>by subst m;cases u
   exact d.mem.inj r r' c c' hd S9 b ((ai m).symm.trans q) ((ai hr').symm.trans u) y e4 e5 e6
  .by_cases g1:2=t
   .subst g1;show b9 K H (.ptr 0 0) _;simp only[b9];exact⟨_,J,hH,rfl,t2⟩
   .by_cases g2:12=t
    .subst g2;show b9 K H (rI i) _;simp only[b9];exact t12
    .have:=d.tmp t;rw[<-htm]at this;show b9 K H (if 2=t then _ else if 12=t then _ else u9 X t) _
     rw[ai g1,ai g2];exact this
 have hin:v10.p (G,li,ga,fa,o,0,(o[i]'U).1.2,1,()):=Z _ (cf U)
 let k2:a7->Nat->Nat->Mem->List a7->Option E8->List Nat->List (Nat×a7)->Prop:=fun v _ dE M' g' p' ts l=>v=.bool (YT L i)/\dE=nx/\M'=(0,(.box (cM G li ga fa o),.X9))::p8 nx D/\g'=eW H0 3++ []/\p'=gQ p/\ts=[87,86,85,84,83,82,81,80,79,78,77,76]/\l=(2,.ptr 0 0)::(12,rI i)::X
 refine mV m4 hG Gd (.region 19 Oc true) a82 _ B F0 none none 197 .top hX (fun l h=>by cases h) ⟨trivial,fun _=>rfl⟩ (.inr rfl) ⟨197,(2,.ptr 0 0)::(12,rI i)::X,nx,(0,(.box (cM G li ga fa o),.X9))::p8 nx D,eW H0 3++ [],gQ p⟩ _ F K H a w Q (Eq.mpr (a81 G li ga fa o i X nx (p8 nx D) (eW H0 3++ []) (gQ p) k2) ⟨⟨ie i,by simpa using U⟩,hin,?_,rfl,rfl,rfl,rfl,rfl,rfl⟩) rfl hF (fun l e=>by cases e) aT (fun r m=>G2 r (by rw[he.nx];exact m)) ?_
 .congr 1;exact(Od (Vb i U)).symm
 .intro e s' a' w' hk hn' ht;cases e with
  |normal=>
   obtain⟨N,pY,hM,hg,hp,hts,hl⟩:=hk;obtain⟨⟨F',K',H',jT,j,hK',wR,Q7⟩,O⟩:=ht;obtain⟨s4,P⟩:=B4.ex 197 (eW H0 3++ []) E' A' nx D p he.lt;rw[hg,hp]at j;have hx':=Y2 j.x h3;have b3s:∀t,s'.s6.T t=u9 s'.tmps t:=fun _=>rfl
   refine hQ .normal E' A' nx D p s4 a' w' h P ⟨⟨F',K',H',jT,P.st.2 ⟨j.ok,j.mem.sub (fun r x hx=>?_),j.size,j.defers,fun t=>?_,j.x⟩,hK',fun r m=>?_,Q7⟩,O⟩
   .show l9 s'.M r=some x;rw[hM];show(if 0=r then _ else l9 (p8 nx D) r)=some x
    rw[ai (fun e=>by subst e;rw[hz0]at hx;cases hx)]
    exact hx
   .have n:=j.tmp t;rw[b3s]at n;by_cases S:t=87
    .subst S;rw[N]at n;unfold TE;rw[hT,aj rfl];revert n;cases YT L i<;>exact id
    .unfold TE;rw[hT,ai S];by_cases gt:t∈Ld
     .rw[Ha hu t gt];trivial
     .rw[Ji 12 _ (by rw[hts];intro hm;rcases av.1 hm with rfl|hm;exact S rfl;exact gt (UW hm)),hl]at n
      by_cases g1:2=t
      .subst g1;have n:b9 K' H' (.ptr 0 0) _:=n;simp only[b9]at n;obtain⟨hd,b,q,u,y⟩:=n;have e4:=hx'.1 _ _ Y;rw[q]at e4;cases e4;rw[h2,y];exact u6.I1 (.inr (.inr (.ptr 0 0 _ b (by decide) (by decide) q u)))
      .by_cases g2:12=t
       .subst g2;have n:b9 K' H' (rI i) _:=n;simp only[b9]at n;rw[h12,n];exact u6.I1 (.inr (.inr (Hc i (by omega))))
       .have n:b9 K' H' (if 2=t then _ else if 12=t then _ else u9 X t) _:=n
        rw[ai g1,ai g2,htm]at n;exact n
   .exact wR r (by rw[pY];rw[P.nx]at m;exact m)
  |exit id=>exact hk.elim
  |ret=>exact hk.elim
end Go.Abs.T2
end
section
open Go Go.Abs Go.Proofs
set_option linter.unusedVariables false
set_option maxRecDepth 100000
namespace Go.Abs.T2
theorem Oe{r:Rn}(h:okR r=true):r=.ok (.c 1) []:=by
 cases r with
 |er c x=>cases h
 |ok v l=>
  have h:iB (UM v 1) (@List.rec HO (fun _=>Bool) true (fun _ _ _=>false) l) false=true:=h
  rw[a9]at h;split at h
  .rename_i a;rw[nJ a];cases l with
   |nil=>rfl
   |cons _ _=>cases h
  .cases h
theorem Zk{H:Nat->Option Hd}:∀ {l:List Nat} {vs:List Value},l.length=vs.length->(∀ (i:Nat) (c:Nat) (v:Value),l[i]? =some c->vs[i]? =some v->c<cB/\j6 H c v)->x7 H l.length (Z4 l) vs
 |[],[],_,_=>⟨Nat.one_pos,rfl,fun i v h=>by simp at h⟩
 |c::l,v::vs,b,h=>by
  obtain⟨d,g2⟩:=h 0 c v rfl rfl;obtain⟨g,n,q3⟩:=Zk (H:=H) (l:=l) (vs:=vs) (by simpa using b) (fun i c v j k=>h (i+1) c v (by simpa using j) (by simpa using k))
  have e:Z4 (c::l)=c+cB*Z4 l:=rfl;refine⟨?_,by rw[<-b],fun i x a=>?_⟩
  .rw[e,bq,qa];have m:Z4 l+1<=cB^l.length:=g;have f:=kn cB m;rw[kg,kh,gv cB (cB^l.length)]at f;exact cc (by rw[ez];exact Nat.add_lt_add_left d _) f
  .rw[e,FI d];cases i with
   |zero=>
    simp only[dh,ae]at a;rw[<-a];exact g2
   |succ i=>exact q3 i x (by simpa using a)
 |[],_::_,h,_=>by cases h
 |_::_,[],h,_=>by cases h
theorem a1V{i:Nat}(h:i<9223372036854775808):G5 i<cB:=by
 show 128*i+1180591620717411303456<1208925819614629174706176;omega
theorem SG:∀ (l:List Nat),uP l=l.map G5
 |[]=>rfl
 |n::l=>congrArg (G5 n:: ·) (SG l)
theorem Zl{a:Nat}(h:a<4294967291)(t:Nat):o8 a [] t=.u:=by
 rw[T6,aj]
 .rfl
 .rw[zT,fl,ra];have b:cB^1<=cB^ (t+1):=mz R4 (by omega)
  rw[fg]at b;exact cc (oo h (by decide)) b
theorem Zm{K:b8}{H:Nat->Option Hd}{w:World}{hd:Hd}{b:List Nat}{l:List Int}(h:n9 K H w hd (.sl tI l))(p:l=List.map (fun n:Nat=>(n:Int)) b)(x:∀n∈b,n<9223372036854775808)(F:0<b.length):
  ∃ (a:Nat) (cs:Array Value),hd.base=some a/\hd.len=b.length/\hd.len<=hd.cap/\hd.cap<=cs.size/\∀K' H',n9 K' H' w ⟨some a,cs.size,0,0⟩ (.z5 (.c (B8 b) (bH (Z4 (uP b))))):=by
 obtain⟨G,r,⟨y,I⟩,z⟩:=h;have d:l.length=b.length:=by rw[p,dy]
 have r:hd.len=b.length:=r.trans d;rcases z with⟨_,e⟩|⟨a,cs,e,A,B,g2,m,C⟩
 .omega
 .have m:hd.cap*1<=cs.size:=m;rw[kh]at m;have k:b.length<=cs.size:=by omega
  refine⟨a,cs,B,by omega,y,m,fun K' H'=>⟨a,cs,e,A,rfl,g2,(jr _).symm,by rw[He];exact k,?_⟩⟩
  rw[He,rK,SG];have s:=Zk (H:=H') (l:=b.map G5) (vs:=(cs.toList.drop 0).take b.length) (by rw[dy,ji,fw,bp];exact(lv k).symm) ?_
  .rw[dy]at s;exact s
  .intro i c v j t;rw[bo]at j;cases f:b[i]? with
   |none=>rw[f]at j;cases j
   |some n=>
    rw[f]at j;simp only[da,ae]at j;subst j;have g:i<b.length:=O8 f;have u:=x n (df f);refine⟨a1V u,?_⟩;have o:i<l.length:=by rw[d];exact g
    have q:=C i o;have q:s7 cs (0+i*1) 1=[Value.int .i64 l[i]]:=q;have D:l[i]=(n:Int):=by
     subst p;rw[ph];rw[ag g]at f;simp only[ae]at f;rw[f]
    have E:v=.int .i64 (n:Int):=by
     rw[cy g,ji]at t;rw[s7,bz,kh]at q;have:(List.take 1 (List.drop i cs.toList))[0]? =cs.toList[i]? :=by
      rw[cy (by omega),dp,jr]
     rw[q,t]at this;simp only[dh,ae]at this;rw[<-this,D]
    rw[E];exact Hc n u
end Go.Abs.T2
end
section
open Go.Proofs
set_option linter.unusedVariables false
namespace Go.Abs.T2
def Dq(li ga fa bits:Int):List Hr->Nat->Int->List Int
 |[],_,_=>[]
 |h::a,k,heat=>
  (if l7 ga fa heat h.1.2 1>li then 0 else GN bits (k:Int))::Dq li ga fa bits a (k+1) (l7 ga fa heat h.1.2 (if l7 ga fa heat h.1.2 1>li then 0 else GN bits (k:Int)))
theorem QY(li ga fa bits:Int):∀ (b:List Hr) (k:Nat) (a:List Int) (heat:Int),((b.zipIdx k).foldl (sK li ga fa bits) (a,heat)).1=a++Dq li ga fa bits b k heat
 |[],_,a,_=>(bf a).symm
 |h::b,k,a,heat=>by
  rw[qm,lz];show((b.zipIdx (k+1)).foldl (sK li ga fa bits) (a++ [_],_)).1=_;rw[QY li ga fa bits b (k+1),bk];rfl
def a1Y(ga fa:Int):List Hr->List Int->Int->List Int
 |h::a,n::b,heat=>l7 ga fa heat h.1.2 n::a1Y ga fa a b (l7 ga fa heat h.1.2 n)
 |_,_,_=>[]
theorem Zv(ga fa:Int):∀ (b:List Hr) (c:List Int) (a:List Int) (heat:Int),((b.zip c).foldl (bM ga fa 0 true) (a,heat)).1=a++a1Y ga fa b c heat
 |[],_,a,_=>(bf a).symm
 |_::_,[],a,_=>(bf a).symm
 |h::b,n::c,a,heat=>by
  rw[jy,lz];have e:bM ga fa 0 true (a,heat) (h,n)=(a++ [l7 ga fa heat h.1.2 n],l7 ga fa heat h.1.2 n):=by
   unfold bM;simp only[di,Int.add_zero]
  rw[e,Zv ga fa b c,bk];rfl
theorem Zw{li ga fa bits:Int}(l:1<=ga)(o:1<=fa):∀ (a:List Hr) (k:Nat) (heat:Int),0<=heat->heat<=li->(∀h∈a,0<=h.1.2/\h.1.2<=li)->
  (∀y∈a1Y ga fa a (Dq li ga fa bits a k heat) heat,0<=y/\y<=li)/\(Dq li ga fa bits a k heat).length=a.length/\∀n∈Dq li ga fa bits a k heat,n=0\/n=1
 |[],_,_,_,_,_=>⟨fun y h=>(by cases h),rfl,fun n h=>(by cases h)⟩
 |h::a,k,heat,u,v,d=>by
  obtain⟨r0,w⟩:=d h (ar ..);have p:∃n,(if l7 ga fa heat h.1.2 1>li then 0 else GN bits (k:Int))=n/\(n=0\/n=1)/\0<=l7 ga fa heat h.1.2 n/\l7 ga fa heat h.1.2 n<=li:=by
   refine⟨_,rfl,?_⟩;have f:0<=l7 ga fa heat h.1.2 0/\l7 ga fa heat h.1.2 0<=li:=by
    unfold l7;rw[ai (by decide),fh];split<;>omega
   have q:0<=l7 ga fa heat h.1.2 1:=by
    unfold l7;rw[aj rfl,fh];split<;>omega
   split
   .exact⟨.inl rfl,f⟩
   .rcases QR bits (k:Int)with g|g<;>rw[g]
    .exact⟨.inl rfl,f⟩
    .exact⟨.inr rfl,q,by omega⟩
  obtain⟨n,e,c,i,j⟩:=p;unfold Dq;rw[e];obtain⟨r,s,q3⟩:=Zw (bits:=bits) l o a (k+1) _ i j (fun x t=>d x (al _ t))
  refine⟨fun y b=>?_,by rw[bq,bq,s],fun m hm=>?_⟩
  .unfold a1Y at b;rcases av.1 b with rfl|b
   .exact⟨i,j⟩
   .exact r y b
  .rcases av.1 hm with rfl|hm
   .exact c
   .exact q3 m hm
theorem Zx{st li ga fa:Int}{a:List Hr}(bits:Int)(h:F8 st li ga fa a=0)(i:G6 st li ga fa a=0):
  J5 st li ga fa a (aG st li ga fa a bits).1=0/\(aG st li ga fa a bits).1.length=a.length/\∀n∈(aG st li ga fa a bits).1,n=0\/n=1:=by
 obtain⟨s,t,d,j,k,l⟩:=xE i;obtain⟨hM,b⟩:=GS h;have e:(aG st li ga fa a bits).1=Dq li ga fa bits a 0 st:=(QY li ga fa bits a 0 [] st).trans (gq _);obtain⟨m,f,q3⟩:=Zw (bits:=bits) j.1 k.1 a 0 st d.1 d.2 (fun x g=>⟨(l x g).2.1.1,b x g⟩)
 rw[e];refine⟨?_,f,q3⟩;have o:I4 st li ga fa a [Dq li ga fa bits a 0 st]=0:=by
  have p:(Dq li ga fa bits a 0 st).any B7=false:=by
   rw[ib];intro n q;rcases q3 n q with rfl|rfl<;>decide
  unfold I4 cA cA;rw[ai (by rw[hM];decide),ai (by rw[f];simp),ai (by rw[p];simp)]
 have c:lB st li ga fa 0 a (Dq li ga fa bits a 0 st) true 0=true:=by
  unfold lB lM;rw[ji,Zv,gq,dx];unfold I8;rw[ib];intro y r;have:=m y r;simp[bZ];omega
 unfold J5;rw[ai (by rw[o];decide),aj c]
end Go.Abs.T2
end
section
open Go.Proofs
set_option linter.unusedVariables false
namespace Go.Abs.T2
def a1Z(li ga fa:Int)(tab:List Int):List Hr->Nat->Int->List Int
 |[],_,_=>[]
 |h::a,k,heat=>(dG tab (k:Int) (N5 ga fa heat h li)).1::a1Z li ga fa tab a (k+1) (dG tab (k:Int) (N5 ga fa heat h li)).2.2
theorem Zy(li ga fa:Int)(tab:List Int):∀ (b:List Hr) (k:Nat) (a:List Int) (heat:Int),((b.zipIdx k).foldl (CY li ga fa tab) (a,heat)).1=a++a1Z li ga fa tab b k heat
 |[],_,a,_=>(bf a).symm
 |h::b,k,a,heat=>by
  rw[qm,lz];show((b.zipIdx (k+1)).foldl (CY li ga fa tab) (a++ [_],_)).1=_;rw[Zy li ga fa tab b (k+1),bk];rfl
def Og(li ga fa:Int)(a:List Hr)(b:List Int):Prop:=b.length=a.length/\∀x∈a.zip b,(x.2=0\/x.2=1)/\(x.2=1->l7 ga fa 0 x.1.1.2 1<=li)
theorem Zz{li ga fa:Int}{tab:List Int}(m:1<=ga)(n:1<=fa):∀ (c:List Hr) (k:Nat) (heat:Int),0<=heat->heat<=li->(∀h∈c,0<=h.1.2/\h.1.2<=li)->Og li ga fa c (a1Z li ga fa tab c k heat)
 |[],_,_,_,_,_=>⟨rfl,fun x h=>(by cases h)⟩
 |h::c,k,heat,r,t,l=>by
  obtain⟨r0,u⟩:=l h (ar ..);have d:gR ga fa heat h 0∈N5 ga fa heat h li:=by
   unfold N5;rw[ft];refine⟨by simp,decide_eq_true ?_⟩
   show l7 ga fa heat h.1.2 0<=li;unfold l7;rw[ai (by decide),fh];split<;>omega
  have o:=NX tab (k:Int) _ (List.ne_nil_of_mem d);obtain⟨f,a⟩:=BU o;have i:∀g,0<=l7 ga fa heat h.1.2 g:=fun g=>by
   unfold l7;rw[fh,fh];split<;>split<;>omega
  unfold a1Z;generalize dG tab (k:Int) (N5 ga fa heat h li)=s at f a;have j:0<=s.2.2:=by rcases f with e|e<;>rw[e]<;>simp only[gR]<;>exact i _
  obtain⟨p,q⟩:=Zz (tab:=tab) m n c (k+1) s.2.2 j a (fun x b=>l x (al _ b))
  refine⟨by rw[bq,bq,p],fun x b=>?_⟩
  rw[jy]at b;rcases av.1 b with rfl|b
  .rcases f with e|e
   .rw[e];exact⟨.inl rfl,fun g=>by cases g⟩
   .refine⟨by rw[e];exact .inr rfl,fun _=>?_⟩
    rw[e]at a;have a:l7 ga fa heat h.1.2 1<=li:=a;show l7 ga fa 0 h.1.2 1<=li;unfold l7 at a ⊢;rw[aj rfl]at a ⊢;rw[fh]at a ⊢;split at a<;>split<;>omega
  .exact q x b
theorem SJ{b li ga fa:Int}{a:List Hr}(h:F8 b li ga fa a=0)(f:G6 b li ga fa a=0):
  Og li ga fa a (kA b li ga fa a)/\cF b li ga fa a (kA b li ga fa a)=0:=by
 obtain⟨s,t,j,k,l,m⟩:=xE f;obtain⟨hM,c⟩:=GS h;have d:Og li ga fa a (kA b li ga fa a):=by
  unfold kA;split
  .refine⟨dt,fun x e=>?_⟩
   have:x.2=0:=nr (List.of_mem_zip e).2;rw[this];exact⟨.inl rfl,fun g=>by cases g⟩
  .rw[Zy,gq];exact Zz k.1 l.1 a 0 b j.1 j.2 (fun x e=>⟨(m x e).2.1.1,c x e⟩)
 refine⟨d,?_⟩;unfold cF;have o:(kA b li ga fa a).any B7=false:=by
  rw[ib];intro n p;obtain⟨i,u,rfl⟩:=iw p;have q:i<(a.zip (kA b li ga fa a)).length:=by rw[List.length_zip,d.1];have:=d.1;omega
  have r:=cf q;have:=(d.2 _ r).1;rw[qq]at this;rcases this with g|g
  .simp only at g;rw[g];decide
  .simp only at g;rw[g];decide
 rw[ai (by rw[f];decide),ai (by rw[d.1];simp),ai (by rw[o];simp)]
end Go.Abs.T2
end
