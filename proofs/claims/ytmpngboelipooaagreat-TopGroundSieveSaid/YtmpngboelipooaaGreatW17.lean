/- Part 17 of the road to this seat's statements: lemmas about a small interpreter over the model's code, and about the functions that it is used on. No condition of its own. -/
import Derived.Test.YtmpngboelipooaaGreatW11
import Derived.Test.YtmpngboelipooaaGreatW12
import Derived.Test.YtmpngboelipooaaGreatW13
import Derived.Test.YtmpngboelipooaaGreatW14
import Derived.Test.YtmpngboelipooaaGreatW15
import Derived.Test.YtmpngboelipooaaGreatW16
set_option linter.all false
section
open Go Go.Abs Go.Proofs
set_option linter.unusedVariables false
set_option maxRecDepth 100000
namespace Go.Abs.T2
def W3:List Bool->List Nat->List Nat->Prop
 |[],[],[]=>True
 |c::a,p::ps,b::d=>(p=0\/p=1)/\(b=0\/b=1)/\(c=true->p=0/\b=0)/\W3 a ps d
 |_,_,_=>False
theorem iBt{x y:Bool}(h:iB x y false=true):x=true/\y=true:=by cases x<;>simp_all [iB]
theorem b3x{f:Bool->Nat->Nat->Bool}(h:iB (f true 0 0) (iB (f false 0 0) (iB (f false 0 1) (iB (f false 1 0) (f false 1 1) false) false) false) false=true){c:Bool}{p b:Nat}(a:p=0\/p=1)(d:b=0\/b=1)(e:c=true->p=0/\b=0):f c p b=true:=by
 obtain⟨g,h⟩:=iBt h;obtain⟨i,h⟩:=iBt h;obtain⟨j,h⟩:=iBt h;obtain⟨k,l⟩:=iBt h;cases c with
 |true=>obtain⟨rfl,rfl⟩:=e rfl;exact g
 |false=>rcases a with rfl|rfl<;>rcases d with rfl|rfl<;>assumption
theorem aX:∀ (n:Nat) (f:List Bool->List Nat->List Nat->Bool),Le n f=true->∀d p b,W3 d p b->d.length=n->f d p b=true
 |0,f,h,[],[],[],_,_=>h
 |n+1,f,h,c::d,p::ps,b::g,e,i=>b3x (f:=fun c p b=>f (c::d) (p::ps) (b::g)) (aX n (fun a p b=>iB (f (true::a) (0::p) (0::b)) (iB (f (false::a) (0::p) (0::b)) (iB (f (false::a) (0::p) (1::b)) (iB (f (false::a) (1::p) (0::b)) (f (false::a) (1::p) (1::b)) false) false) false) false) h d ps g e.2.2.2 (ri i)) e.1 e.2.1 e.2.2.1
theorem a86:∀ {d:List Bool} {p b:List Nat},W3 d p b->d.length=4->LL d p b=true
 |c::d,p::ps,b::e,h,g=>by
  have a:d.length=3:=ri g;clear g;obtain⟨i,j,k,f⟩:=h;cases c with
  |true=>
   obtain⟨rfl,rfl⟩:=k rfl;exact aX 3 _ a5p d ps e f a
  |false=>
   rcases i with rfl|rfl<;>rcases j with rfl|rfl
   .exact aX 3 _ a5q d ps e f a
   .exact aX 3 _ a5r d ps e f a
   .exact aX 3 _ a5s d ps e f a
   .exact aX 3 _ a5t d ps e f a
theorem a2e{a:List Bool}{p b:List Nat}(c:W3 a p b)(d:1<=a.length)(e:a.length<=4):LL a p b=true:=by
 have:a.length=1\/a.length=2\/a.length=3\/a.length=4:=by omega
 rcases this with h|h|h|h
 .exact aX 1 _ a83 a p b c h
 .exact aX 2 _ a84 a p b c h
 .exact aX 3 _ a85 a p b c h
 .exact a86 c h
theorem B1{α:Type}{f:α->Bool}{l:List α}{k m:Nat}(a:((l.drop k).take m).all f=true)(b:(l.drop (k+m)).all f=true):(l.drop k).all f=true:=by
 rw[<-fq m (l.drop k),List.all_append,a,dm,b];rfl
theorem Oh:∀ (l:List Bool),l∈a1I l.length
 |[]=>cb.2 rfl
 |c::l=>by
  show c::l∈(a1I l.length).flatMap fun l=>[true::l,false::l]
  rw[List.mem_flatMap];exact⟨l,Oh l,by cases c<;>simp⟩
theorem ZA{l:List Bool}{k:Nat}(h:k<=UP l):(l,k)∈dH l.length:=by
 unfold dH;rw[List.mem_flatMap];exact⟨l,Oh l,cd.2 ⟨k,ld.2 (by omega),rfl⟩⟩
theorem a87:((dH 1).drop 0).all TL=true:=B1 a5u rfl
theorem a88:((dH 2).drop 0).all TL=true:=B1 a5v (B1 a5w rfl)
theorem a89:((dH 3).drop 0).all TL=true:=B1 a5x (B1 a5y (B1 a5z (B1 a10 (B1 a11 rfl))))
theorem a9a:((dH 4).drop 0).all TL=true:=B1 a5A (B1 a5B (B1 a5C (B1 a5D (B1 a12 (B1 a13 (B1 a14 (B1 a15 (B1 a16 (B1 a17 (B1 a18 (B1 a19 (B1 a2a (B1 a2b (B1 a2c (B1 a2d rfl)))))))))))))))
theorem a5E{l:List Bool}{k:Nat}(h:k<=UP l)(b:1<=l.length)(c:l.length<=4):TL (l,k)=true:=by
 have a:=ZA h;have:l.length=1\/l.length=2\/l.length=3\/l.length=4:=by omega
 rcases this with e|e|e|e<;>rw[e]at a
 .exact fu.1 a87 _ a
 .exact fu.1 a88 _ a
 .exact fu.1 a89 _ a
 .exact fu.1 a9a _ a
theorem SK:∀ {a:List Bool} {p b:List Nat},W3 a p b->Lc b<=UP a
 |[],[],[],_=>fx _
 |c::a,p::ps,b::bs,h=>by
  have f:=SK h.2.2.2;have e:Lc (b::bs)=b+Lc bs:=rfl;rw[e];cases c with
  |true=>
   obtain⟨_,d⟩:=h.2.2.1 rfl;rw[d];show 0+Lc bs<=UP a;omega
  |false=>
   show b+Lc bs<=UP a+1;rcases h.2.1 with d|d<;>omega
theorem a3o{li ga fa:Int}:∀ {a:List Hr} {p b:List Int},Og li ga fa a p->Og li ga fa a b->W3 (a.map fun h=>decide (l7 ga fa 0 h.1.2 1>li)) (p.map Int.toNat) (b.map Int.toNat)
 |[],[],[],_,_=>trivial
 |h::a,p::ps,b::r,k,l=>by
  obtain⟨m,d⟩:=k;obtain⟨n,f⟩:=l;obtain⟨g,o⟩:=d (h,p) (ar ..);obtain⟨i,q⟩:=f (h,b) (ar ..);refine⟨?_,?_,fun j=>?_,a3o ⟨ri m,fun x c=>d x (al _ c)⟩ ⟨ri n,fun x c=>f x (al _ c)⟩⟩
  .rcases g with e|e<;>simp only at e<;>rw[e]<;>decide
  .rcases i with e|e<;>simp only at e<;>rw[e]<;>decide
  .have j:=mo j;constructor
   .rcases g with e|e
    .simp only at e;rw[e];rfl
    .have:=o e;simp only at this;omega
   .rcases i with e|e
    .simp only at e;rw[e];rfl
    .have:=q e;simp only at this;omega
 |[],_::_,_,h,_=>by cases h.1
 |[],[],_::_,_,h=>by cases h.1
 |_::_,[],_,h,_=>by cases h.1
 |_::_,_::_,[],_,h=>by cases h.1
theorem SL{li ga fa:Int}{a:List Hr}{p:List Int}(h:Og li ga fa a p):∀n∈p,n=0\/n=1:=fun n b=>by
 obtain⟨i,d,rfl⟩:=iw b;have c:i<(a.zip p).length:=by rw[List.length_zip,h.1];have:=h.1;omega
 have:=(h.2 _ (cf c)).1;rw[qq]at this;exact this
theorem xG:∀ {p:List Int},(∀n∈p,n=0\/n=1)->p=List.map (fun n:Nat=>(n:Int)) (p.map Int.toNat)
 |[],_=>rfl
 |a::p,h=>by
  rw[az,az,<-xG (fun n b=>h n (al _ b))]
  rcases h a (ar ..)with e|e<;>rw[e]<;>rfl
theorem SM{li ga fa bits:Int}(i:1<=ga):∀ (c:List Hr) (k:Nat) (heat:Int),0<=heat->(∀h∈c,0<=h.1.2)->Og li ga fa c (Dq li ga fa bits c k heat)
 |[],_,_,_,_=>⟨rfl,fun x h=>(by cases h)⟩
 |h::c,k,heat,m,f=>by
  have r0:=f h (ar ..);have d:∀g,0<=l7 ga fa heat h.1.2 g:=fun g=>by
   unfold l7;rw[fh,fh];split<;>split<;>omega
  unfold Dq;obtain⟨j,l⟩:=SM (bits:=bits) i c (k+1) _ (d (if l7 ga fa heat h.1.2 1>li then 0 else GN bits (k:Int))) (fun x b=>f x (al _ b))
  refine⟨by rw[bq,bq,j],fun x b=>?_⟩
  rw[jy]at b;rcases av.1 b with rfl|b
  .simp only;split
   .exact⟨.inl rfl,fun e=>by cases e⟩
   .rename_i a;refine⟨QR bits _,fun _=>?_⟩
    unfold l7 at a ⊢;rw[aj rfl]at a ⊢;rw[fh]at a ⊢;split at a<;>split<;>omega
  .exact l x b
theorem ZB{b li ga fa:Int}{a:List Hr}(bits:Int)(c:G6 b li ga fa a=0):Og li ga fa a (aG b li ga fa a bits).1:=by
 obtain⟨h,i,d,e,j,f⟩:=xE c;unfold aG;rw[QY,gq];exact SM e.1 a 0 b d.1 (fun x g=>(f x g).2.1.1)
theorem ZC{b li ga fa:Int}{a:List Hr}(c:G6 b li ga fa a=0):P0 b li ga fa a=0:=by
 obtain⟨j,k,l,m,n,d⟩:=xE c;have e:I8 1 12 [(a.length:Int)]=false:=by simp[I8,bZ];omega
 have f:I8 0 40 [b,li]=false:=by simp[I8,bZ];omega
 have g:I8 1 40 [ga,fa]=false:=by simp[I8,bZ];omega
 have i:a.any U9=false:=by
  rw[ib];intro h hh;obtain⟨o,p,q⟩:=d h hh;simp[U9,I8,bZ];omega
 unfold P0;rw[e,f,g,i];simp;omega
end Go.Abs.T2
end
section
open Go Go.Abs Go.Proofs
set_option linter.unusedVariables false
set_option maxRecDepth 100000
namespace Go.Abs.T2
def v5:Var:=⟨.nl,[],fun _=>True,fun _=>one (rB true)⟩
def v3:Var:=⟨.cs sM (.cs (.int .u16) .nl),[],fun x=>Dp 0 65535 x.2.2.2.2.2.1,fun _=>one (rB true)⟩
theorem hc5:z6 Tryz.prog 5:=B0 Tryz.func5 (by kernel_rfl) (by kernel_rfl)
theorem q5:p9 Tryz.prog 5 [v5]:=I5 hc5 (fun x _ k a=>QW Zq.2 (fun v c b=>by obtain⟨rfl,rfl⟩:=b;exact a))
def a5F(Γ:Env)(P:Program)(fY:Nat->List Nat)(IT:Iter):Nat->(j7->Prop)->(E8->j7->Prop)->Code->j7->Prop
 |0,J,_,_,b=>J b
 |N+1,J,k,.seq x y,b=>Hi Γ P fY IT x .top b (fun e a=>match e with|.normal=>a5F Γ P fY IT N J k y a|e=>k e a)
 |_+1,_,_,_,_=>False
section
variable {Γ:Env} {P:Program} {fY:Nat->List Nat} {IT:Iter} {X:Ctx} {B:Option Nat} {F0:Nat->Prop} {n:Nat} {J:j7->Prop} {k:E8->j7->Prop}
theorem Hf(m4:P.follows .mixedOrders=true)(S:Good P Γ)(s:N3 P IT)(U:X.Ok)(V:B.isSome=true):∀ (N:Nat) (c:Code),Code.j5 c=true->
  (∀ (f:j7) (F:Nat->Prop) (K:b8) (H:Nat->Option Hd) (a:Act) (w:World) (Q:Exit->Act->World->Prop),J f->f.n=n->(∀b,F0 b->F b)->St (X.O4 f.gh f.o7) B F n K H f.s6.T f.s6.m a w->(∀r,f.nx<=r->H r=none)->(∀e d g w',k e d->d.n=n->gD X B F0 F n K w d g w'->Q e.out g w')->(NP N c).wpIn (Wd none) 0 P Q a w)->
  ∀ (f:j7) (F:Nat->Prop) (K:b8) (H:Nat->Option Hd) (a:Act) (w:World) (Q:Exit->Act->World->Prop),a5F Γ P fY IT N J k c f->f.n=n->(∀b,F0 b->F b)->St (X.O4 f.gh f.o7) B F n K H f.s6.T f.s6.m a w->(∀r,f.nx<=r->H r=none)->(∀e d g w',k e d->d.n=n->gD X B F0 F n K w d g w'->Q e.out g w')->c.wpIn (Wd none) 0 P Q a w
 |0,c,_,D,f,F,K,H,a,w,Q,h,E,C,i,j,t=>D f F K H a w Q h E C i j t
 |N+1,c,o,D,f,F,K,H,a,w,Q,h,E,C,i,j,t=>by
  cases c with
  |seq x y=>
   simp only[Code.j5,ah]at o;refine jo (mV m4 S s x o.1 X B F0 none none n .top U (fun l h=>by cases h) ⟨trivial,fun _=>rfl⟩ (.inl (fun e=>by subst e;cases V)) f _ F K H a w _ h E C (fun l e=>by cases e) i j ?_)
   intro e d g w' G p I;cases e with
   |normal=>
    obtain⟨⟨Y,K',H',u,v,Z,z,A⟩,q⟩:=I;exact Hf m4 S s U V N y o.2 D d Y K' H' g w' Q G p (fun b hb=>u b (C b hb)) v z (fun e L a2 w2 M O R=>t e L a2 w2 M O (R.trans u Z A q))
   |exit id=>exact t _ d g w' G p I
   |ret=>exact t _ d g w' G p I
  |_=>exact h.elim
end
theorem tx3:Code.j5 NQ=true:=by kernel_rfl
theorem eq3(b li ga fa:Int)(a:List Hr)(bits:Int)(k d:a7->List c7->Prop):
 a5F (u0 [(4,X8 [v4]),(5,X8 [v5]),(6,X8 [v6]),(7,X8 [v7]),(8,X8 [v8]),(9,X8 [v9])]) Tryz.prog (kt 3) Cb 8
  (fun s=>d (.M1 [u9 s.tmps 2,u9 s.tmps 5,u9 s.tmps 6,u9 s.tmps 8]) ((List.range s.nx).map fun r=>match l9 s.M r with|some (c,.own)=>c|_=>.any))
  (a4q false Tryz.prog Tryz.f3 [] k) NQ ⟨197,AK [.agg (cM b li ga fa a),.int .u16 bits] 0,0,[],[],none⟩=
 br (decide ((a.length:Int)>4)==false)
  (v4.p (b,li,ga,fa,a,())/\br (G6 b li ga fa a !=0)
     (v5.p ()/\k (rB true) [])
     (v6.p (b,li,ga,fa,a,())/\br (decide (F8 b li ga fa a=0))
      (v7.p (b,li,ga,fa,a,bits,())/\v8.p (b,li,ga,fa,a,(aG b li ga fa a bits).1,())/\br ((J5 b li ga fa a (aG b li ga fa a bits).1 !=0)==false)
       (v9.p (b,li,ga,fa,a,kA b li ga fa a,())/\br (cF b li ga fa a (kA b li ga fa a) !=0) (k (rB false) [])
        (d (.M1 [.ptr 0 0,rI (a.length:Nat),.O1 1 false,.O1 2 false]) [.box (cM b li ga fa a),.sl tI (kA b li ga fa a),.sl tI (aG b li ga fa a bits).1]))
       (k (rB false) []))
      (br (F8 b li ga fa a !=0) (br ((F8 b li ga fa a==13)==true) (v5.p ()/\k (rB true) []) (k (rB false) []))
       (v7.p (b,li,ga,fa,a,bits,())/\v8.p (b,li,ga,fa,a,(aG b li ga fa a bits).1,())/\br ((J5 b li ga fa a (aG b li ga fa a bits).1 !=0)==false)
        (v9.p (b,li,ga,fa,a,[],())/\br (cF b li ga fa a [] !=0) (k (rB false) [])
             (d (.M1 [.ptr 0 0,rI (a.length:Nat),.O1 1 false,.O1 2 false]) [.box (cM b li ga fa a),.sl tI [],.sl tI (aG b li ga fa a bits).1]))
        (k (rB false) [])))))
  (v5.p ()/\k (rB true) []):=by kernel_rfl
theorem a9b(k:a7->List c7->Prop)(nx:Nat):a4q false Tryz.prog Tryz.f3 [] k .ret (stF nx)=k (rB true) []:=by kernel_rfl
end Go.Abs.T2
end
section
open Go Go.Abs Go.Proofs
set_option linter.unusedVariables false
set_option maxRecDepth 100000
namespace Go.Abs.T2
theorem Nn{s:j7}{a b d:c7}(h:((List.range s.nx).map fun r=>match l9 s.M r with|some (c,.own)=>c|_=>.any)=[a,b,d])(i:a≠ .any)(j:b≠ .any)(k:d≠ .any):
  s.nx=3/\l9 s.M 0=some (a,.own)/\l9 s.M 1=some (b,.own)/\l9 s.M 2=some (d,.own):=by
 have f:s.nx=3:=by
  have:=congrArg List.length h;simpa using this
 rw[f]at h;have h:[_,_,_]=[a,b,d]:=h;have g:∀ {x:Option (c7×p0)} {c:c7},(match x with|some (c,.own)=>c|_=>.any)=c->c≠ .any->x=some (c,.own):=by
  intro x c e l;split at e
  .rw[e]
  .exact absurd e.symm l
 simp only[iz,and_true]at h;exact⟨f,g h.1 i,g h.2.1 j,g h.2.2 k⟩
theorem k3:v3.Kept Tryz.prog 3:=by
 rintro⟨d,li,ga,fa,b,bits,⟨⟩⟩ g k r;change Int at d li ga fa bits;change List Hr at b;replace r:k (rB true) []:=r;replace g:0<=bits/\bits<=65535:=g;refine XK (imm:=false) (c:=NQ) Tryz.func3 rfl rfl (fun V F K H a w Q u D T=>?_)
 have U:V=[]:=(show c6 K H [] V from u.x);subst U
 let Y:a7->List c7->Prop:=fun v cs=>v=.M1 [.ptr 0 0,rI (b.length:Nat),.O1 1 false,.O1 2 false]/\cs=[.box (cM d li ga fa b),.sl tI (kA d li ga fa b),.sl tI (aG d li ga fa b bits).1]/\G6 d li ga fa b=0/\F8 d li ga fa b=0/\b.length<=4
 refine Hf m4 (p9.add q4 (p9.add q5 (p9.add q6 (p9.add q7 (p9.add q8 (p9.add q9 x9)))))) Gd (X:=T8 []) (n:=197) (jV []) rfl 8 NQ tx3 ?_ _ F K H a w Q (Eq.mpr (eq3 d li ga fa b bits k Y) ?_) rfl (fun _ h=>h) u D T
 .intro s Z K1 H1 a1 w1 Q1 hJ M hF y z E;obtain⟨N,G,f,j,A⟩:=hJ;simp only[a7.M1.injEq,iz,and_true]at N;obtain⟨e2,e5,e6,e8⟩:=N;obtain⟨I,m0,O,m2⟩:=Nn G (by simp) (by simp) (by simp)
  obtain⟨t,P⟩:=SJ j f;have B:=ZB bits f;obtain⟨C,b1,b2,b3,b4,b7⟩:=xE f;have R:=a3o B t;have o:(b.map fun h=>decide (l7 ga fa 0 h.1.2 1>li)).length=b.length:=dy ..
  rw[xG (SL t)]at O;rw[xG (SL B)]at m2;have S:∀ {l:List Int},(∀n∈l,n=0\/n=1)->∀n∈l.map Int.toNat,n<=1:=fun o n M=>by
   obtain⟨m,hm,rfl⟩:=cd.1 M;rcases o m hm with e|e<;>rw[e]<;>decide
  refine a1X (F0:=F) (F:=Z) (K:=K1) (H:=H1) (s:=s) rfl e2 e5 e6 e8 m0 O m2 I (by rw[dy];exact B.1) (by rw[dy];exact t.1) o C.1 C.2 (S (SL B)) (S (SL t)) (fun h hh=>?_) (fun i hi=>?_) (p9.add q10 x9) (a2e R (by rw[o];exact C.1) (by rw[o];exact A)) (a5E (SK R) (by rw[o];exact C.1) (by rw[o];exact A)) hF y z (fun a' w' dE ht=>E .ret _ a' w' (by rw[a9b];exact r) rfl ht)
  .have:=b7 h hh;show Dp 0 1000 ga/\Dp 0 1000 fa/\Dp (-1000) 1000 0/\Dp (-1000) 1000 h.1.2;exact⟨⟨by omega,by omega⟩,⟨by omega,by omega⟩,⟨by decide,by decide⟩,⟨by omega,by omega⟩⟩
  .rw[bo,ag hi];rfl
 .have q:v5.p ():=trivial;rw[GO];refine⟨fun A=>⟨trivial,?_⟩,fun _=>⟨q,r⟩⟩
  have A:b.length<=4:=by omega
  by_cases f:G6 d li ga fa b=0
  rotate_left
  .rw[show(G6 d li ga fa b !=0)=true by simpa using f]
   exact⟨q,r⟩
  rw[show(G6 d li ga fa b !=0)=false by simpa using f]
  refine⟨f,?_⟩;rw[m5];refine⟨fun j=>?_,fun j=>?_⟩
  .obtain⟨g1,g2,g3⟩:=Zx bits j f;obtain⟨t,P⟩:=SJ j f;refine⟨⟨f,g⟩,⟨by show b.length<=1000;omega,by show(aG d li ga fa b bits).1.length<=1000;omega⟩,?_⟩
   rw[g1];refine⟨by show(kA d li ga fa b).length<=1000;have:=t.1;omega,?_⟩
   rw[P];exact⟨rfl,rfl,f,j,A⟩
  .have J:F8 d li ga fa b=13:=by
    unfold F8 at j ⊢;have ho:I4 d li ga fa b []=0:=by
     unfold I4;rw[ai (by rw[ZC f];decide)]
     rfl
    rw[ai (by rw[ho];decide)]at j ⊢
    split at j
    .exact absurd rfl j
    .rename_i L;rw[ai L]
   rw[J];exact⟨q,r⟩
theorem Wp:z6 Tryz.prog 3:=B0 Tryz.func3 (by kernel_rfl) (by kernel_rfl)
theorem q3:p9 Tryz.prog 3 [v3]:=I5 Wp k3
end Go.Abs.T2
#print axioms Go.Abs.T2.q3
end
